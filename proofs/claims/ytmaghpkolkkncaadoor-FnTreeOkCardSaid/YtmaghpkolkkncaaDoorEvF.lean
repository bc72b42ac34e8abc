/- The functions that the law reaches, written as plain functions; nothing is claimed here. -/
import Derived.Test.YtmaghpkolkkncaaDoorEvE
set_option linter.all false
set_option linter.unusedVariables false
set_option linter.unusedSimpArgs false
/- F -/
set_option maxRecDepth 10000
namespace Go.Ev
noncomputable section
def spec_newSource.B (N : Nat) (x0 : List (Int)) : Option (SpecSource × Unit) :=
 some ((SpecSource.mk x0 (0 : Int) (4000 : Int)), ())

def spec_newSource (N : Nat) (x0 : List (Int)) : Option (SpecSource × Unit) := spec_newSource.B N x0

def spec_source_pick.B (N : Nat) (x0 : SpecSource) (x1 : Int) : Option (SpecSource × Int × Unit) :=
 br (decide (x1 ≤ (1 : Int))) (
  some (x0, (0 : Int), ())) (
  br (decide ((SpecSource.left x0) ≤ (0 : Int))) (
  some (x0, (0 : Int), ())) (
  br ((((List.length (SpecSource.code x0)) : Nat) : Int) == (0 : Int)) (
  some (x0, (0 : Int), ())) (
  gd (!(decide ((((List.length (SpecSource.code x0)) : Nat) : Int) = (0 : Int)))) (
 gd (decide ((0 : Int) ≤ (Int.tmod (SpecSource.at_ x0) (((List.length (SpecSource.code x0)) : Nat) : Int)))) (
 gd (decide ((Int.tmod (SpecSource.at_ x0) (((List.length (SpecSource.code x0)) : Nat) : Int)) < (((List.length (SpecSource.code x0)) : Nat) : Int))) (
 gd (!(decide ((((List.length (SpecSource.code x0)) : Nat) : Int) = (0 : Int)))) (
 br (decide (x1 > (256 : Int))) (
  gd (!(decide ((((List.length (SpecSource.code x0)) : Nat) : Int) = (0 : Int)))) (
  gd (decide ((0 : Int) ≤ (Int.tmod (IntKind.i64.wrap ((SpecSource.at_ x0) + (1 : Int))) (((List.length (SpecSource.code x0)) : Nat) : Int)))) (
  gd (decide ((Int.tmod (IntKind.i64.wrap ((SpecSource.at_ x0) + (1 : Int))) (((List.length (SpecSource.code x0)) : Nat) : Int)) < (((List.length (SpecSource.code x0)) : Nat) : Int))) (
  gd (!(decide (x1 = (0 : Int)))) (
  some ((SpecSource.mk (SpecSource.code x0) (IntKind.i64.wrap ((IntKind.i64.wrap ((SpecSource.at_ x0) + (1 : Int))) + (1 : Int))) (IntKind.i64.wrap ((SpecSource.left x0) - (1 : Int)))), (Int.tmod (IntKind.i64.wrap ((IntKind.i64.wrap ((IntKind.i64.wrap ((IntKind.i64.wrap (get (SpecSource.code x0) (Int.tmod (SpecSource.at_ x0) (((List.length (SpecSource.code x0)) : Nat) : Int)))) + (IntKind.i64.wrap ((IntKind.i64.wrap (Int.tdiv (SpecSource.at_ x0) (((List.length (SpecSource.code x0)) : Nat) : Int))) * (31 : Int))))) * (256 : Int))) + (IntKind.i64.wrap (get (SpecSource.code x0) (Int.tmod (IntKind.i64.wrap ((SpecSource.at_ x0) + (1 : Int))) (((List.length (SpecSource.code x0)) : Nat) : Int)))))) x1), ())))))) (
  gd (!(decide (x1 = (0 : Int)))) (
 some ((SpecSource.mk (SpecSource.code x0) (IntKind.i64.wrap ((SpecSource.at_ x0) + (1 : Int))) (IntKind.i64.wrap ((SpecSource.left x0) - (1 : Int)))), (Int.tmod (IntKind.i64.wrap ((IntKind.i64.wrap (get (SpecSource.code x0) (Int.tmod (SpecSource.at_ x0) (((List.length (SpecSource.code x0)) : Nat) : Int)))) + (IntKind.i64.wrap ((IntKind.i64.wrap (Int.tdiv (SpecSource.at_ x0) (((List.length (SpecSource.code x0)) : Nat) : Int))) * (31 : Int))))) x1), ()))))))))))

def spec_source_pick (N : Nat) (x0 : SpecSource) (x1 : Int) : Option (SpecSource × Int × Unit) := spec_source_pick.B N x0 x1

def spec_source_one.B (N : Nat) (x0 : SpecSource) (x1 : List (Int)) : Option (SpecSource × Int × Unit) :=
 bnd (spec_source_pick N x0 (((List.length x1) : Nat) : Int)) fun r2 =>
 gd (decide ((0 : Int) ≤ ((r2).2).1)) (
 gd (decide (((r2).2).1 < (((List.length x1) : Nat) : Int))) (
 some ((r2).1, (get x1 ((r2).2).1), ())))

def spec_source_one (N : Nat) (x0 : SpecSource) (x1 : List (Int)) : Option (SpecSource × Int × Unit) := spec_source_one.B N x0 x1

def spec_source_rarely.B (N : Nat) (x0 : SpecSource) : Option (SpecSource × Bool × Unit) :=
 bnd (spec_source_pick N x0 (40 : Int)) fun r1 =>
 some ((r1).1, (((r1).2).1 == (1 : Int)), ())

def spec_source_rarely (N : Nat) (x0 : SpecSource) : Option (SpecSource × Bool × Unit) := spec_source_rarely.B N x0

def spec_source_text.B0 (N : Nat) (G0 : SpecSource × (List UInt8) × Int × Unit → Option (SpecSource × (List UInt8) × Unit)) : SpecSource × (List UInt8) × Int × Unit → Option (SpecSource × (List UInt8) × Unit) :=
fun (x2, x3, x4, ()) =>
 br (decide (x4 > (0 : Int))) (
  bnd (spec_source_pick N x2 (6 : Int)) fun r6 =>
  gd (decide ((0 : Int) ≤ ((r6).2).1)) (
  gd (decide (((r6).2).1 < (((List.length ([([97] : List (UInt8)), ([98] : List (UInt8)), ([122, 57] : List (UInt8)), ([32] : List (UInt8)), ([48] : List (UInt8)), ([108, 111, 110, 103] : List (UInt8))] : List (List (UInt8)))) : Nat) : Int))) (
  gd (decide (((List.length x3) + (List.length (get ([([97] : List (UInt8)), ([98] : List (UInt8)), ([122, 57] : List (UInt8)), ([32] : List (UInt8)), ([48] : List (UInt8)), ([108, 111, 110, 103] : List (UInt8))] : List (List (UInt8))) ((r6).2).1))) < 68719476736)) (
  G0 ((r6).1, (x3 ++ (get ([([97] : List (UInt8)), ([98] : List (UInt8)), ([122, 57] : List (UInt8)), ([32] : List (UInt8)), ([48] : List (UInt8)), ([108, 111, 110, 103] : List (UInt8))] : List (List (UInt8))) ((r6).2).1)), (IntKind.i64.wrap (x4 - (1 : Int))), ()))))) (
  bnd (spec_source_rarely N x2) fun r7 =>
 br ((r7).2).1 (
  gd (decide (((List.length x3) + (List.length ([81] : List (UInt8)))) < 68719476736)) (
  some ((r7).1, (x3 ++ ([81] : List (UInt8))), ()))) (
  some ((r7).1, x3, ())))

def spec_source_text.B (N : Nat) (E0 : SpecSource × (List UInt8) × Int × Unit → Option (SpecSource × (List UInt8) × Unit)) (x0 : SpecSource) : Option (SpecSource × (List UInt8) × Unit) :=
 bnd (spec_source_pick N x0 (4 : Int)) fun r1 =>
 E0 ((r1).1, ([] : List (UInt8)), ((r1).2).1, ())

def spec_source_text.L0 (N : Nat) : Nat → SpecSource × (List UInt8) × Int × Unit → Option (SpecSource × (List UInt8) × Unit)
  | 0, _ => none
  | n + 1, x => spec_source_text.B0 N (spec_source_text.L0 N n) x

def spec_source_text (N : Nat) (x0 : SpecSource) : Option (SpecSource × (List UInt8) × Unit) := spec_source_text.B N (spec_source_text.L0 N N) x0

def spec_source_value.B (N : Nat) (x0 : SpecSource) : Option (SpecSource × ImplValue × Unit) :=
 bnd (spec_source_pick N x0 (6 : Int)) fun r1 =>
 br (((r1).2).1 == (0 : Int)) (
  some ((r1).1, (ImplValue.mk (0 : Int) (0 : Int) ([] : List (UInt8))), ())) (
  br (((r1).2).1 == (1 : Int)) (
  bnd (spec_source_text N (r1).1) fun r2 =>
  some ((r2).1, (ImplValue.mk (2 : Int) (0 : Int) ((r2).2).1), ())) (
  br (((r1).2).1 == (2 : Int)) (
  bnd (spec_source_one N (r1).1 ([(0 : Int), (1 : Int), (-(1 : Int)), (1000 : Int), (-(1000 : Int)), (500 : Int), (1001 : Int)] : List (Int))) fun r3 =>
  some ((r3).1, (ImplValue.mk (1 : Int) ((r3).2).1 ([] : List (UInt8))), ())) (
  bnd (spec_source_pick N (r1).1 (6 : Int)) fun r4 =>
 some ((r4).1, (ImplValue.mk (1 : Int) (IntKind.i64.wrap (((r4).2).1 - (1 : Int))) ([] : List (UInt8))), ()))))

def spec_source_value (N : Nat) (x0 : SpecSource) : Option (SpecSource × ImplValue × Unit) := spec_source_value.B N x0

def spec_inRange.B (N : Nat) (x0 : Int) (x1 : Int) (x2 : Int) : Option (Bool × Unit) :=
 br (decide (x0 ≥ x1)) (
  some ((decide (x0 ≤ x2)), ())) (
  some (false, ()))

def spec_inRange (N : Nat) (x0 : Int) (x1 : Int) (x2 : Int) : Option (Bool × Unit) := spec_inRange.B N x0 x1 x2

def spec_plainByte.B (N : Nat) (x0 : Int) : Option (Bool × Unit) :=
 br (decide (x0 ≥ (97 : Int))) (
  br (decide (x0 ≤ (122 : Int))) (
   some (true, ())) (
   br (decide (x0 ≥ (48 : Int))) (
   br (decide (x0 ≤ (57 : Int))) (
    some (true, ())) (
    some ((x0 == (32 : Int)), ()))) (
   some ((x0 == (32 : Int)), ())))) (
  br (decide (x0 ≥ (48 : Int))) (
  br (decide (x0 ≤ (57 : Int))) (
   some (true, ())) (
   some ((x0 == (32 : Int)), ()))) (
  some ((x0 == (32 : Int)), ())))

def spec_plainByte (N : Nat) (x0 : Int) : Option (Bool × Unit) := spec_plainByte.B N x0

def spec_validWord.B0 (N : Nat) (G0 : (List UInt8) × Int × Unit → Option (Bool × Unit)) : (List UInt8) × Int × Unit → Option (Bool × Unit) :=
fun (x1, x2, ()) =>
 br (decide (x2 < (((List.length x1) : Nat) : Int))) (
  gd (decide ((0 : Int) ≤ x2)) (
  gd (decide (x2 < (((List.length x1) : Nat) : Int))) (
  bnd (spec_plainByte N (((UInt8.toNat (List.getD x1 (Int.toNat x2) 0)) : Nat) : Int)) fun r4 =>
  br (!(r4).1) (
   some (false, ())) (
   G0 (x1, (IntKind.i64.wrap (x2 + (1 : Int))), ()))))) (
  some (true, ()))

def spec_validWord.B (N : Nat) (E0 : (List UInt8) × Int × Unit → Option (Bool × Unit)) (x0 : List UInt8) : Option (Bool × Unit) :=
 br (decide ((((List.length x0) : Nat) : Int) > (12 : Int))) (
  some (false, ())) (
  E0 (x0, (0 : Int), ()))

def spec_validWord.L0 (N : Nat) : Nat → (List UInt8) × Int × Unit → Option (Bool × Unit)
  | 0, _ => none
  | n + 1, x => spec_validWord.B0 N (spec_validWord.L0 N n) x

def spec_validWord (N : Nat) (x0 : List UInt8) : Option (Bool × Unit) := spec_validWord.B N (spec_validWord.L0 N N) x0

def spec_validValue.B (N : Nat) (x0 : ImplValue) : Option (Bool × Unit) :=
 br ((ImplValue.kind x0) == (0 : Int)) (
  br ((ImplValue.num x0) == (0 : Int)) (
   some (((ImplValue.text x0) == ([] : List (UInt8))), ())) (
   some (false, ()))) (
  br ((ImplValue.kind x0) == (1 : Int)) (
  bnd (spec_inRange N (ImplValue.num x0) (-(1000 : Int)) (1000 : Int)) fun r1 =>
  br (r1).1 (
   some (((ImplValue.text x0) == ([] : List (UInt8))), ())) (
   some (false, ()))) (
  br ((ImplValue.kind x0) == (2 : Int)) (
  br ((ImplValue.num x0) == (0 : Int)) (
   bnd (spec_validWord N (ImplValue.text x0)) fun r2 =>
   some ((r2).1, ())) (
   some (false, ()))) (
  some (false, ()))))

def spec_validValue (N : Nat) (x0 : ImplValue) : Option (Bool × Unit) := spec_validValue.B N x0

def spec_source_good.B (N : Nat) (x0 : SpecSource) : Option (SpecSource × ImplValue × Unit) :=
 bnd (spec_source_value N x0) fun r1 =>
 bnd (spec_validValue N ((r1).2).1) fun r2 =>
 br (!(r2).1) (
  some ((r1).1, (ImplValue.mk (1 : Int) (2 : Int) ([] : List (UInt8))), ())) (
  some ((r1).1, ((r1).2).1, ()))

def spec_source_good (N : Nat) (x0 : SpecSource) : Option (SpecSource × ImplValue × Unit) := spec_source_good.B N x0

def spec_keyless.B2 (N : Nat) (G0 : (List (ImplTree)) × Int × Unit → Option ((List (ImplTree)) × Unit)) (G2 : (List (ImplTree)) × Int × Int × Unit → Option ((List (ImplTree)) × Unit)) : (List (ImplTree)) × Int × Int × Unit → Option ((List (ImplTree)) × Unit) :=
fun (x4, x5, x6, ()) =>
 br (decide (x6 < x5)) (
  gd (decide ((0 : Int) ≤ x5)) (
  gd (decide (x5 < (((List.length x4) : Nat) : Int))) (
  br ((ImplTree.key (get x4 x5)) != (-(1 : Int))) (
   gd (decide ((0 : Int) ≤ x5)) (
   gd (decide (x5 < (((List.length x4) : Nat) : Int))) (
   gd (decide ((0 : Int) ≤ x6)) (
   gd (decide (x6 < (((List.length x4) : Nat) : Int))) (
   br ((ImplTree.key (get x4 x5)) == (ImplTree.key (get x4 x6))) (
    gd (decide ((0 : Int) ≤ x5)) (
    gd (decide (x5 < (((List.length x4) : Nat) : Int))) (
    G2 ((List.set x4 (Int.toNat x5) (ImplTree.mk (ImplTree.tag (get x4 x5)) (-(1 : Int)) (ImplTree.text (get x4 x5)) (ImplTree.props (get x4 x5)) (ImplTree.kids (get x4 x5)))), x5, (IntKind.i64.wrap (x6 + (1 : Int))), ())))) (
    G2 (x4, x5, (IntKind.i64.wrap (x6 + (1 : Int))), ()))))))) (
   G2 (x4, x5, (IntKind.i64.wrap (x6 + (1 : Int))), ()))))) (
  G0 (x4, (IntKind.i64.wrap (x5 + (1 : Int))), ()))

def spec_keyless.B0 (N : Nat) (E2 : (List (ImplTree)) × Int × Int × Unit → Option ((List (ImplTree)) × Unit)) : (List (ImplTree)) × Int × Unit → Option ((List (ImplTree)) × Unit) :=
fun (x1, x2, ()) =>
 br (decide (x2 < (((List.length x1) : Nat) : Int))) (
  E2 (x1, x2, (0 : Int), ())) (
  some (x1, ()))

def spec_keyless.B (N : Nat) (E0 : (List (ImplTree)) × Int × Unit → Option ((List (ImplTree)) × Unit)) (x0 : List (ImplTree)) : Option ((List (ImplTree)) × Unit) :=
 E0 (x0, (0 : Int), ())

def spec_keyless.L2 (N : Nat) (G0 : (List (ImplTree)) × Int × Unit → Option ((List (ImplTree)) × Unit)) : Nat → (List (ImplTree)) × Int × Int × Unit → Option ((List (ImplTree)) × Unit)
  | 0, _ => none
  | n + 1, x => spec_keyless.B2 N G0 (spec_keyless.L2 N G0 n) x

def spec_keyless.L0 (N : Nat) : Nat → (List (ImplTree)) × Int × Unit → Option ((List (ImplTree)) × Unit)
  | 0, _ => none
  | n + 1, x => spec_keyless.B0 N (spec_keyless.L2 N (spec_keyless.L0 N n) N) x

def spec_keyless (N : Nat) (x0 : List (ImplTree)) : Option ((List (ImplTree)) × Unit) := spec_keyless.B N (spec_keyless.L0 N N) x0

def spec_source_tree.B4 (N : Nat) (R_spec_source_tree : SpecSource → Int → Option (SpecSource × ImplTree × Unit)) (G4 : SpecSource × ImplTree × ImplTree × Int × Unit → Option (SpecSource × ImplTree × Unit)) : SpecSource × ImplTree × ImplTree × Int × Unit → Option (SpecSource × ImplTree × Unit) :=
fun (x25, x26, x27, x28, ()) =>
 br (decide (x28 < (((List.length (ImplTree.kids x27)) : Nat) : Int))) (
  gd (decide ((0 : Int) ≤ x28)) (
  gd (decide (x28 < (((List.length (ImplTree.kids x27)) : Nat) : Int))) (
  br ((ImplTree.tag (get (ImplTree.kids x27) x28)) == (-(1 : Int))) (
   gd (decide ((0 : Int) ≤ x28)) (
   gd (decide (x28 < (((List.length (ImplTree.kids x27)) : Nat) : Int))) (
   G4 (x25, (ImplTree.mk (ImplTree.tag x26) (ImplTree.key x26) (ImplTree.text x26) (ImplTree.props x26) (ImplTree.kids x26)), (ImplTree.mk (ImplTree.tag x27) (ImplTree.key x27) (ImplTree.text x27) (ImplTree.props x27) (List.set (ImplTree.kids x27) (Int.toNat x28) (ImplTree.mk (ImplTree.tag (get (ImplTree.kids x27) x28)) (-(1 : Int)) (ImplTree.text (get (ImplTree.kids x27) x28)) (ImplTree.props (get (ImplTree.kids x27) x28)) (ImplTree.kids (get (ImplTree.kids x27) x28))))), (IntKind.i64.wrap (x28 + (1 : Int))), ())))) (
   G4 (x25, (ImplTree.mk (ImplTree.tag x26) (ImplTree.key x26) (ImplTree.text x26) (ImplTree.props x26) (ImplTree.kids x26)), (ImplTree.mk (ImplTree.tag x27) (ImplTree.key x27) (ImplTree.text x27) (ImplTree.props x27) (ImplTree.kids x27)), (IntKind.i64.wrap (x28 + (1 : Int))), ()))))) (
  bnd (spec_source_rarely N x25) fun r30 =>
 br ((r30).2).1 (
  some ((r30).1, (ImplTree.mk (ImplTree.tag x27) (100 : Int) (ImplTree.text x27) (ImplTree.props x27) (ImplTree.kids x27)), ())) (
  some ((r30).1, (ImplTree.mk (ImplTree.tag x27) (ImplTree.key x27) (ImplTree.text x27) (ImplTree.props x27) (ImplTree.kids x27)), ())))

def spec_source_tree.B2 (N : Nat) (R_spec_source_tree : SpecSource → Int → Option (SpecSource × ImplTree × Unit)) (G2 : SpecSource × Int × ImplTree × ImplTree × Int × Unit → Option (SpecSource × ImplTree × Unit)) (E4 : SpecSource × ImplTree × ImplTree × Int × Unit → Option (SpecSource × ImplTree × Unit)) : SpecSource × Int × ImplTree × ImplTree × Int × Unit → Option (SpecSource × ImplTree × Unit) :=
fun (x16, x17, x18, x19, x20, ()) =>
 br (decide (x20 > (0 : Int))) (
  bnd (spec_source_pick N x16 (2 : Int)) fun r22 =>
  bnd (R_spec_source_tree (r22).1 (IntKind.i64.wrap ((IntKind.i64.wrap (x17 - (1 : Int))) - ((r22).2).1))) fun r23 =>
  gd (decide (((List.length (ImplTree.kids x19)) + (List.length ([(ImplTree.mk (ImplTree.tag ((r23).2).1) (ImplTree.key ((r23).2).1) (ImplTree.text ((r23).2).1) (ImplTree.props ((r23).2).1) (ImplTree.kids ((r23).2).1))] : List (ImplTree)))) < 68719476736)) (
  G2 ((r23).1, x17, (ImplTree.mk (ImplTree.tag x18) (ImplTree.key x18) (ImplTree.text x18) (ImplTree.props x18) (ImplTree.kids x18)), (ImplTree.mk (ImplTree.tag x19) (ImplTree.key x19) (ImplTree.text x19) (ImplTree.props x19) ((ImplTree.kids x19) ++ ([(ImplTree.mk (ImplTree.tag ((r23).2).1) (ImplTree.key ((r23).2).1) (ImplTree.text ((r23).2).1) (ImplTree.props ((r23).2).1) (ImplTree.kids ((r23).2).1))] : List (ImplTree)))), (IntKind.i64.wrap (x20 - (1 : Int))), ()))) (
  bnd (spec_keyless N (ImplTree.kids x19)) fun r24 =>
 E4 (x16, (ImplTree.mk (ImplTree.tag x18) (ImplTree.key x18) (ImplTree.text x18) (ImplTree.props x18) (ImplTree.kids x18)), (ImplTree.mk (ImplTree.tag x19) (ImplTree.key x19) (ImplTree.text x19) (ImplTree.props x19) (r24).1), (0 : Int), ()))

def spec_source_tree.B0 (N : Nat) (R_spec_source_tree : SpecSource → Int → Option (SpecSource × ImplTree × Unit)) (G0 : SpecSource × Int × ImplTree × ImplTree × Int × Unit → Option (SpecSource × ImplTree × Unit)) (E2 : SpecSource × Int × ImplTree × ImplTree × Int × Unit → Option (SpecSource × ImplTree × Unit)) : SpecSource × Int × ImplTree × ImplTree × Int × Unit → Option (SpecSource × ImplTree × Unit) :=
fun (x7, x8, x9, x10, x11, ()) =>
 br (decide (x11 < (4 : Int))) (
  bnd (spec_source_pick N x7 (3 : Int)) fun r13 =>
  br (((r13).2).1 == (0 : Int)) (
   bnd (spec_source_good N (r13).1) fun r14 =>
   gd (decide (((List.length (ImplTree.props x10)) + (List.length ([(ImplProp.mk x11 (ImplValue.kind ((r14).2).1) (ImplValue.num ((r14).2).1) (ImplValue.text ((r14).2).1))] : List (ImplProp)))) < 68719476736)) (
   G0 ((r14).1, x8, (ImplTree.mk (ImplTree.tag x9) (ImplTree.key x9) (ImplTree.text x9) (ImplTree.props x9) (ImplTree.kids x9)), (ImplTree.mk (ImplTree.tag x10) (ImplTree.key x10) (ImplTree.text x10) ((ImplTree.props x10) ++ ([(ImplProp.mk x11 (ImplValue.kind ((r14).2).1) (ImplValue.num ((r14).2).1) (ImplValue.text ((r14).2).1))] : List (ImplProp))) (ImplTree.kids x10)), (IntKind.i64.wrap (x11 + (1 : Int))), ()))) (
   G0 ((r13).1, x8, (ImplTree.mk (ImplTree.tag x9) (ImplTree.key x9) (ImplTree.text x9) (ImplTree.props x9) (ImplTree.kids x9)), (ImplTree.mk (ImplTree.tag x10) (ImplTree.key x10) (ImplTree.text x10) (ImplTree.props x10) (ImplTree.kids x10)), (IntKind.i64.wrap (x11 + (1 : Int))), ()))) (
  bnd (spec_source_pick N x7 (5 : Int)) fun r15 =>
 E2 ((r15).1, x8, (ImplTree.mk (ImplTree.tag x9) (ImplTree.key x9) (ImplTree.text x9) (ImplTree.props x9) (ImplTree.kids x9)), (ImplTree.mk (ImplTree.tag x10) (ImplTree.key x10) (ImplTree.text x10) (ImplTree.props x10) (ImplTree.kids x10)), ((r15).2).1, ()))

def spec_source_tree.B (N : Nat) (R_spec_source_tree : SpecSource → Int → Option (SpecSource × ImplTree × Unit)) (E0 : SpecSource × Int × ImplTree × ImplTree × Int × Unit → Option (SpecSource × ImplTree × Unit)) (x0 : SpecSource) (x1 : Int) : Option (SpecSource × ImplTree × Unit) :=
 br (decide (x1 ≤ (0 : Int))) (
  bnd (spec_source_pick N x0 (4 : Int)) fun r2 =>
  gd (decide ((0 : Int) ≤ ((r2).2).1)) (
  gd (decide (((r2).2).1 < (((List.length ([([] : List (UInt8)), ([97] : List (UInt8)), ([98, 32, 99] : List (UInt8)), ([108, 111, 110, 103, 32, 116, 101, 120, 116, 32, 49, 50] : List (UInt8))] : List (List (UInt8)))) : Nat) : Int))) (
  some ((r2).1, (ImplTree.mk (-(1 : Int)) (-(1 : Int)) (get ([([] : List (UInt8)), ([97] : List (UInt8)), ([98, 32, 99] : List (UInt8)), ([108, 111, 110, 103, 32, 116, 101, 120, 116, 32, 49, 50] : List (UInt8))] : List (List (UInt8))) ((r2).2).1) ([] : List (ImplProp)) ([] : List (ImplTree))), ())))) (
  bnd (spec_source_pick N x0 (4 : Int)) fun r3 =>
 br (((r3).2).1 == (0 : Int)) (
  bnd (spec_source_pick N (r3).1 (4 : Int)) fun r4 =>
  gd (decide ((0 : Int) ≤ ((r4).2).1)) (
  gd (decide (((r4).2).1 < (((List.length ([([] : List (UInt8)), ([97] : List (UInt8)), ([98, 32, 99] : List (UInt8)), ([108, 111, 110, 103, 32, 116, 101, 120, 116, 32, 49, 50] : List (UInt8))] : List (List (UInt8)))) : Nat) : Int))) (
  some ((r4).1, (ImplTree.mk (-(1 : Int)) (-(1 : Int)) (get ([([] : List (UInt8)), ([97] : List (UInt8)), ([98, 32, 99] : List (UInt8)), ([108, 111, 110, 103, 32, 116, 101, 120, 116, 32, 49, 50] : List (UInt8))] : List (List (UInt8))) ((r4).2).1) ([] : List (ImplProp)) ([] : List (ImplTree))), ())))) (
  bnd (spec_source_pick N (r3).1 (5 : Int)) fun r5 =>
 bnd (spec_source_one N (r5).1 ([(-(1 : Int)), (-(1 : Int)), (0 : Int), (1 : Int), (2 : Int), (50 : Int), (99 : Int)] : List (Int))) fun r6 =>
 E0 ((r6).1, x1, (ImplTree.mk (0 : Int) (0 : Int) ([] : List (UInt8)) ([] : List (ImplProp)) ([] : List (ImplTree))), (ImplTree.mk ((r5).2).1 ((r6).2).1 ([] : List (UInt8)) ([] : List (ImplProp)) ([] : List (ImplTree))), (0 : Int), ())))

def spec_source_tree.L4 (N : Nat) (R_spec_source_tree : SpecSource → Int → Option (SpecSource × ImplTree × Unit)) : Nat → SpecSource × ImplTree × ImplTree × Int × Unit → Option (SpecSource × ImplTree × Unit)
  | 0, _ => none
  | n + 1, x => spec_source_tree.B4 N R_spec_source_tree (spec_source_tree.L4 N R_spec_source_tree n) x

def spec_source_tree.L2 (N : Nat) (R_spec_source_tree : SpecSource → Int → Option (SpecSource × ImplTree × Unit)) : Nat → SpecSource × Int × ImplTree × ImplTree × Int × Unit → Option (SpecSource × ImplTree × Unit)
  | 0, _ => none
  | n + 1, x => spec_source_tree.B2 N R_spec_source_tree (spec_source_tree.L2 N R_spec_source_tree n) (spec_source_tree.L4 N R_spec_source_tree N) x

def spec_source_tree.L0 (N : Nat) (R_spec_source_tree : SpecSource → Int → Option (SpecSource × ImplTree × Unit)) : Nat → SpecSource × Int × ImplTree × ImplTree × Int × Unit → Option (SpecSource × ImplTree × Unit)
  | 0, _ => none
  | n + 1, x => spec_source_tree.B0 N R_spec_source_tree (spec_source_tree.L0 N R_spec_source_tree n) (spec_source_tree.L2 N R_spec_source_tree N) x

def spec_source_tree.R (N : Nat) : Nat → SpecSource → Int → Option (SpecSource × ImplTree × Unit)
  | 0, _, _ => none
  | d + 1, x0, x1 => spec_source_tree.B N (spec_source_tree.R N d) (spec_source_tree.L0 N (spec_source_tree.R N d) N) x0 x1

def spec_source_tree (N : Nat) (x0 : SpecSource) (x1 : Int) : Option (SpecSource × ImplTree × Unit) := spec_source_tree.R N N x0 x1

def spec_source_whole.B (N : Nat) (x0 : SpecSource) : Option (SpecSource × ImplTree × Unit) :=
 bnd (spec_source_tree N x0 (4 : Int)) fun r1 =>
 br ((ImplTree.tag ((r1).2).1) == (-(1 : Int))) (
  bnd (spec_source_pick N (r1).1 (5 : Int)) fun r2 =>
  br (decide (((r2).2).1 > (0 : Int))) (
   bnd (spec_source_tree N (r2).1 (2 : Int)) fun r3 =>
   some ((r3).1, (ImplTree.mk (0 : Int) (-(1 : Int)) ([] : List (UInt8)) ([] : List (ImplProp)) ([(ImplTree.mk (ImplTree.tag ((r1).2).1) (ImplTree.key ((r1).2).1) (ImplTree.text ((r1).2).1) (ImplTree.props ((r1).2).1) (ImplTree.kids ((r1).2).1)), (ImplTree.mk (ImplTree.tag ((r3).2).1) (ImplTree.key ((r3).2).1) (ImplTree.text ((r3).2).1) (ImplTree.props ((r3).2).1) (ImplTree.kids ((r3).2).1))] : List (ImplTree))), ())) (
   some ((r2).1, (ImplTree.mk (ImplTree.tag ((r1).2).1) (ImplTree.key ((r1).2).1) (ImplTree.text ((r1).2).1) (ImplTree.props ((r1).2).1) (ImplTree.kids ((r1).2).1)), ()))) (
  some ((r1).1, (ImplTree.mk (ImplTree.tag ((r1).2).1) (ImplTree.key ((r1).2).1) (ImplTree.text ((r1).2).1) (ImplTree.props ((r1).2).1) (ImplTree.kids ((r1).2).1)), ()))

def spec_source_whole (N : Nat) (x0 : SpecSource) : Option (SpecSource × ImplTree × Unit) := spec_source_whole.B N x0

def impl_word.B0 (N : Nat) (G0 : (List UInt8) × Int × Unit → Option (Bool × Unit)) : (List UInt8) × Int × Unit → Option (Bool × Unit) :=
fun (x1, x2, ()) =>
 br (decide (x2 < (((List.length x1) : Nat) : Int))) (
  gd (decide ((0 : Int) ≤ x2)) (
  gd (decide (x2 < (((List.length x1) : Nat) : Int))) (
  br (decide ((((UInt8.toNat (List.getD x1 (Int.toNat x2) 0)) : Nat) : Int) ≥ (97 : Int))) (
   br (decide ((((UInt8.toNat (List.getD x1 (Int.toNat x2) 0)) : Nat) : Int) ≤ (122 : Int))) (
    G0 (x1, (IntKind.i64.wrap (x2 + (1 : Int))), ())) (
    br (decide ((((UInt8.toNat (List.getD x1 (Int.toNat x2) 0)) : Nat) : Int) ≥ (48 : Int))) (
    br (decide ((((UInt8.toNat (List.getD x1 (Int.toNat x2) 0)) : Nat) : Int) ≤ (57 : Int))) (
     G0 (x1, (IntKind.i64.wrap (x2 + (1 : Int))), ())) (
     br (!((((UInt8.toNat (List.getD x1 (Int.toNat x2) 0)) : Nat) : Int) == (32 : Int))) (
     some (false, ())) (
     G0 (x1, (IntKind.i64.wrap (x2 + (1 : Int))), ())))) (
    br (!((((UInt8.toNat (List.getD x1 (Int.toNat x2) 0)) : Nat) : Int) == (32 : Int))) (
    some (false, ())) (
    G0 (x1, (IntKind.i64.wrap (x2 + (1 : Int))), ()))))) (
   br (decide ((((UInt8.toNat (List.getD x1 (Int.toNat x2) 0)) : Nat) : Int) ≥ (48 : Int))) (
   br (decide ((((UInt8.toNat (List.getD x1 (Int.toNat x2) 0)) : Nat) : Int) ≤ (57 : Int))) (
    G0 (x1, (IntKind.i64.wrap (x2 + (1 : Int))), ())) (
    br (!((((UInt8.toNat (List.getD x1 (Int.toNat x2) 0)) : Nat) : Int) == (32 : Int))) (
    some (false, ())) (
    G0 (x1, (IntKind.i64.wrap (x2 + (1 : Int))), ())))) (
   br (!((((UInt8.toNat (List.getD x1 (Int.toNat x2) 0)) : Nat) : Int) == (32 : Int))) (
   some (false, ())) (
   G0 (x1, (IntKind.i64.wrap (x2 + (1 : Int))), ()))))))) (
  some ((decide ((((List.length x1) : Nat) : Int) ≤ (12 : Int))), ()))

def impl_word.B (N : Nat) (E0 : (List UInt8) × Int × Unit → Option (Bool × Unit)) (x0 : List UInt8) : Option (Bool × Unit) :=
 E0 (x0, (0 : Int), ())

def impl_word.L0 (N : Nat) : Nat → (List UInt8) × Int × Unit → Option (Bool × Unit)
  | 0, _ => none
  | n + 1, x => impl_word.B0 N (impl_word.L0 N n) x

def impl_word (N : Nat) (x0 : List UInt8) : Option (Bool × Unit) := impl_word.B N (impl_word.L0 N N) x0

def impl_within.B (N : Nat) (x0 : Int) (x1 : Int) (x2 : Int) : Option (Bool × Unit) :=
 br (decide (x0 ≥ x1)) (
  some ((decide (x0 ≤ x2)), ())) (
  some (false, ()))

def impl_within (N : Nat) (x0 : Int) (x1 : Int) (x2 : Int) : Option (Bool × Unit) := impl_within.B N x0 x1 x2

def impl_shown.B (N : Nat) (x0 : List UInt8) : Option (Bool × Unit) :=
 bnd (impl_word N x0) fun r1 =>
 br (r1).1 (
  some (true, ())) (
  bnd (LibAtoi N x0) fun r2 =>
 br ((r2).2).1 (
  bnd (impl_within N (r2).1 (-(1000 : Int)) (1000 : Int)) fun r3 =>
  br (r3).1 (
   bnd (LibItoa N (r2).1) fun r4 =>
   some (((r4).1 == x0), ())) (
   some (false, ()))) (
  some (false, ())))

def impl_shown (N : Nat) (x0 : List UInt8) : Option (Bool × Unit) := impl_shown.B N x0

def impl_ValOk.B (N : Nat) (x0 : ImplValue) : Option (Bool × Unit) :=
 br ((ImplValue.kind x0) == (0 : Int)) (
  br ((ImplValue.num x0) == (0 : Int)) (
   some (((ImplValue.text x0) == ([] : List (UInt8))), ())) (
   some (false, ()))) (
  br ((ImplValue.kind x0) == (1 : Int)) (
  bnd (impl_within N (ImplValue.num x0) (-(1000 : Int)) (1000 : Int)) fun r1 =>
  br (r1).1 (
   some (((ImplValue.text x0) == ([] : List (UInt8))), ())) (
   some (false, ()))) (
  br ((ImplValue.kind x0) == (2 : Int)) (
  br ((ImplValue.num x0) == (0 : Int)) (
   bnd (impl_word N (ImplValue.text x0)) fun r2 =>
   some ((r2).1, ())) (
   some (false, ()))) (
  some (false, ()))))

def impl_ValOk (N : Nat) (x0 : ImplValue) : Option (Bool × Unit) := impl_ValOk.B N x0

def impl_treeFits.B2 (N : Nat) (R_impl_treeFits : ImplTree → Int → Int → Option (Int × Bool × Unit)) (G2 : Int × Int × (List (Int)) × (List (ImplTree)) × Int × Int × Unit → Option (Int × Bool × Unit)) : Int × Int × (List (Int)) × (List (ImplTree)) × Int × Int × Unit → Option (Int × Bool × Unit) :=
fun (x16, x17, x18, x19, x20, x21, ()) =>
 br (decide (x21 < x20)) (
  gd (decide ((0 : Int) ≤ x21)) (
  gd (decide (x21 < (((List.length x19) : Nat) : Int))) (
  br ((ImplTree.key (get x19 x21)) != (-(1 : Int))) (
   br (mapHas x18 (ImplTree.key (get x19 x21))) (
    some (x17, false, ())) (
    bnd (R_impl_treeFits (ImplTree.mk (ImplTree.tag (get x19 x21)) (ImplTree.key (get x19 x21)) (ImplTree.text (get x19 x21)) (ImplTree.props (get x19 x21)) (ImplTree.kids (get x19 x21))) (IntKind.i64.wrap (x16 + (1 : Int))) x17) fun r23 =>
   br (!((r23).2).1) (
    some ((r23).1, false, ())) (
    G2 (x16, (r23).1, (mapPut x18 (ImplTree.key (get x19 x21))), x19, x20, (IntKind.i64.wrap (x21 + (1 : Int))), ())))) (
   bnd (R_impl_treeFits (ImplTree.mk (ImplTree.tag (get x19 x21)) (ImplTree.key (get x19 x21)) (ImplTree.text (get x19 x21)) (ImplTree.props (get x19 x21)) (ImplTree.kids (get x19 x21))) (IntKind.i64.wrap (x16 + (1 : Int))) x17) fun r24 =>
  br (!((r24).2).1) (
   some ((r24).1, false, ())) (
   G2 (x16, (r24).1, (mapPut x18 (ImplTree.key (get x19 x21))), x19, x20, (IntKind.i64.wrap (x21 + (1 : Int))), ())))))) (
  some (x17, true, ()))

def impl_treeFits.B0 (N : Nat) (R_impl_treeFits : ImplTree → Int → Int → Option (Int × Bool × Unit)) (G0 : Int × Int × ImplTree × (List (ImplProp)) × Int × Int × Unit → Option (Int × Bool × Unit)) (E2 : Int × Int × (List (Int)) × (List (ImplTree)) × Int × Int × Unit → Option (Int × Bool × Unit)) : Int × Int × ImplTree × (List (ImplProp)) × Int × Int × Unit → Option (Int × Bool × Unit) :=
fun (x6, x7, x8, x9, x10, x11, ()) =>
 br (decide (x11 < x10)) (
  gd (decide ((0 : Int) ≤ x11)) (
  gd (decide (x11 < (((List.length x9) : Nat) : Int))) (
  bnd (impl_within N (ImplProp.name (get x9 x11)) (0 : Int) (3 : Int)) fun r13 =>
  br (!(r13).1) (
   some (x7, false, ())) (
   br (decide (x11 > (0 : Int))) (
   gd (decide ((0 : Int) ≤ (IntKind.i64.wrap (x11 - (1 : Int))))) (
   gd (decide ((IntKind.i64.wrap (x11 - (1 : Int))) < (((List.length (ImplTree.props x8)) : Nat) : Int))) (
   br (decide ((ImplProp.name (get x9 x11)) ≤ (ImplProp.name (get (ImplTree.props x8) (IntKind.i64.wrap (x11 - (1 : Int))))))) (
    some (x7, false, ())) (
    bnd (impl_ValOk N (ImplValue.mk (ImplProp.val_Kind (get x9 x11)) (ImplProp.val_Num (get x9 x11)) (ImplProp.val_Text (get x9 x11)))) fun r14 =>
   br (!(r14).1) (
    some (x7, false, ())) (
    G0 (x6, x7, (ImplTree.mk (ImplTree.tag x8) (ImplTree.key x8) (ImplTree.text x8) (ImplTree.props x8) (ImplTree.kids x8)), x9, x10, (IntKind.i64.wrap (x11 + (1 : Int))), ())))))) (
   bnd (impl_ValOk N (ImplValue.mk (ImplProp.val_Kind (get x9 x11)) (ImplProp.val_Num (get x9 x11)) (ImplProp.val_Text (get x9 x11)))) fun r15 =>
  br (!(r15).1) (
   some (x7, false, ())) (
   G0 (x6, x7, (ImplTree.mk (ImplTree.tag x8) (ImplTree.key x8) (ImplTree.text x8) (ImplTree.props x8) (ImplTree.kids x8)), x9, x10, (IntKind.i64.wrap (x11 + (1 : Int))), ()))))))) (
  E2 (x6, x7, ([] : List (Int)), (ImplTree.kids x8), (((List.length (ImplTree.kids x8)) : Nat) : Int), (0 : Int), ()))

def impl_treeFits.B (N : Nat) (R_impl_treeFits : ImplTree → Int → Int → Option (Int × Bool × Unit)) (E0 : Int × Int × ImplTree × (List (ImplProp)) × Int × Int × Unit → Option (Int × Bool × Unit)) (x0 : ImplTree) (x1 : Int) (x2 : Int) : Option (Int × Bool × Unit) :=
 br (decide (x1 > (24 : Int))) (
  some ((IntKind.i64.wrap (x2 - (1 : Int))), false, ())) (
  br (decide ((IntKind.i64.wrap (x2 - (1 : Int))) < (0 : Int))) (
  some ((IntKind.i64.wrap (x2 - (1 : Int))), false, ())) (
  br ((ImplTree.tag x0) == (-(1 : Int))) (
  br ((ImplTree.key x0) == (-(1 : Int))) (
   bnd (impl_shown N (ImplTree.text x0)) fun r3 =>
   br (r3).1 (
    br ((((List.length (ImplTree.props x0)) : Nat) : Int) == (0 : Int)) (
     some ((IntKind.i64.wrap (x2 - (1 : Int))), ((((List.length (ImplTree.kids x0)) : Nat) : Int) == (0 : Int)), ())) (
     some ((IntKind.i64.wrap (x2 - (1 : Int))), false, ()))) (
    some ((IntKind.i64.wrap (x2 - (1 : Int))), false, ()))) (
   some ((IntKind.i64.wrap (x2 - (1 : Int))), false, ()))) (
  bnd (impl_within N (ImplTree.tag x0) (0 : Int) (4 : Int)) fun r4 =>
 br (!(r4).1) (
  some ((IntKind.i64.wrap (x2 - (1 : Int))), false, ())) (
  bnd (impl_within N (ImplTree.key x0) (-(1 : Int)) (99 : Int)) fun r5 =>
 br (!(r5).1) (
  some ((IntKind.i64.wrap (x2 - (1 : Int))), false, ())) (
  br (!((ImplTree.text x0) == ([] : List (UInt8)))) (
  some ((IntKind.i64.wrap (x2 - (1 : Int))), false, ())) (
  E0 (x1, (IntKind.i64.wrap (x2 - (1 : Int))), (ImplTree.mk (ImplTree.tag x0) (ImplTree.key x0) (ImplTree.text x0) (ImplTree.props x0) (ImplTree.kids x0)), (ImplTree.props x0), (((List.length (ImplTree.props x0)) : Nat) : Int), (0 : Int), ())))))))

def impl_treeFits.L2 (N : Nat) (R_impl_treeFits : ImplTree → Int → Int → Option (Int × Bool × Unit)) : Nat → Int × Int × (List (Int)) × (List (ImplTree)) × Int × Int × Unit → Option (Int × Bool × Unit)
  | 0, _ => none
  | n + 1, x => impl_treeFits.B2 N R_impl_treeFits (impl_treeFits.L2 N R_impl_treeFits n) x

def impl_treeFits.L0 (N : Nat) (R_impl_treeFits : ImplTree → Int → Int → Option (Int × Bool × Unit)) : Nat → Int × Int × ImplTree × (List (ImplProp)) × Int × Int × Unit → Option (Int × Bool × Unit)
  | 0, _ => none
  | n + 1, x => impl_treeFits.B0 N R_impl_treeFits (impl_treeFits.L0 N R_impl_treeFits n) (impl_treeFits.L2 N R_impl_treeFits N) x

def impl_treeFits.R (N : Nat) : Nat → ImplTree → Int → Int → Option (Int × Bool × Unit)
  | 0, _, _, _ => none
  | d + 1, x0, x1, x2 => impl_treeFits.B N (impl_treeFits.R N d) (impl_treeFits.L0 N (impl_treeFits.R N d) N) x0 x1 x2

def impl_treeFits (N : Nat) (x0 : ImplTree) (x1 : Int) (x2 : Int) : Option (Int × Bool × Unit) := impl_treeFits.R N N x0 x1 x2

def impl_TreeOk.B (N : Nat) (x0 : ImplTree) : Option (Bool × Unit) :=
 bnd (impl_treeFits N (ImplTree.mk (ImplTree.tag x0) (ImplTree.key x0) (ImplTree.text x0) (ImplTree.props x0) (ImplTree.kids x0)) (1 : Int) (200 : Int)) fun r1 =>
 some (((r1).2).1, ())

def impl_TreeOk (N : Nat) (x0 : ImplTree) : Option (Bool × Unit) := impl_TreeOk.B N x0

def impl_quote.B (N : Nat) (x0 : List UInt8) : Option ((List UInt8) × Unit) :=
 gd (decide (((List.length ([39] : List (UInt8))) + (List.length x0)) < 68719476736)) (
 gd (decide (((List.length (([39] : List (UInt8)) ++ x0)) + (List.length ([39] : List (UInt8)))) < 68719476736)) (
 some (((([39] : List (UInt8)) ++ x0) ++ ([39] : List (UInt8))), ())))

def impl_quote (N : Nat) (x0 : List UInt8) : Option ((List UInt8) × Unit) := impl_quote.B N x0

def impl_valText.B (N : Nat) (x0 : ImplValue) : Option ((List UInt8) × Unit) :=
 br ((ImplValue.kind x0) == (1 : Int)) (
  bnd (LibItoa N (ImplValue.num x0)) fun r1 =>
  some ((r1).1, ())) (
  br ((ImplValue.kind x0) == (2 : Int)) (
  bnd (impl_quote N (ImplValue.text x0)) fun r2 =>
  some ((r2).1, ())) (
  some (([45] : List (UInt8)), ())))

def impl_valText (N : Nat) (x0 : ImplValue) : Option ((List UInt8) × Unit) := impl_valText.B N x0

def impl_treeWrite.B2 (N : Nat) (R_impl_treeWrite : ImplTree → Option ((List UInt8) × Unit)) (G2 : (List UInt8) × (List (ImplTree)) × Int × Int × Unit → Option ((List UInt8) × Unit)) : (List UInt8) × (List (ImplTree)) × Int × Int × Unit → Option ((List UInt8) × Unit) :=
fun (x14, x15, x16, x17, ()) =>
 br (decide (x17 < x16)) (
  gd (decide ((0 : Int) ≤ x17)) (
  gd (decide (x17 < (((List.length x15) : Nat) : Int))) (
  bnd (R_impl_treeWrite (ImplTree.mk (ImplTree.tag (get x15 x17)) (ImplTree.key (get x15 x17)) (ImplTree.text (get x15 x17)) (ImplTree.props (get x15 x17)) (ImplTree.kids (get x15 x17)))) fun r19 =>
  gd (decide (((List.length ([32] : List (UInt8))) + (List.length (r19).1)) < 68719476736)) (
  gd (decide (((List.length x14) + (List.length (([32] : List (UInt8)) ++ (r19).1))) < 68719476736)) (
  G2 ((x14 ++ (([32] : List (UInt8)) ++ (r19).1)), x15, x16, (IntKind.i64.wrap (x17 + (1 : Int))), ())))))) (
  gd (decide (((List.length x14) + (List.length ([41] : List (UInt8)))) < 68719476736)) (
 some ((x14 ++ ([41] : List (UInt8))), ())))

def impl_treeWrite.B0 (N : Nat) (R_impl_treeWrite : ImplTree → Option ((List UInt8) × Unit)) (G0 : ImplTree × (List UInt8) × (List (ImplProp)) × Int × Int × Unit → Option ((List UInt8) × Unit)) (E2 : (List UInt8) × (List (ImplTree)) × Int × Int × Unit → Option ((List UInt8) × Unit)) : ImplTree × (List UInt8) × (List (ImplProp)) × Int × Int × Unit → Option ((List UInt8) × Unit) :=
fun (x6, x7, x8, x9, x10, ()) =>
 br (decide (x10 < x9)) (
  gd (decide ((0 : Int) ≤ x10)) (
  gd (decide (x10 < (((List.length x8) : Nat) : Int))) (
  bnd (LibItoa N (ImplProp.name (get x8 x10))) fun r12 =>
  gd (decide (((List.length ([32, 112] : List (UInt8))) + (List.length (r12).1)) < 68719476736)) (
  gd (decide (((List.length (([32, 112] : List (UInt8)) ++ (r12).1)) + (List.length ([61] : List (UInt8)))) < 68719476736)) (
  bnd (impl_valText N (ImplValue.mk (ImplProp.val_Kind (get x8 x10)) (ImplProp.val_Num (get x8 x10)) (ImplProp.val_Text (get x8 x10)))) fun r13 =>
  gd (decide (((List.length ((([32, 112] : List (UInt8)) ++ (r12).1) ++ ([61] : List (UInt8)))) + (List.length (r13).1)) < 68719476736)) (
  gd (decide (((List.length x7) + (List.length (((([32, 112] : List (UInt8)) ++ (r12).1) ++ ([61] : List (UInt8))) ++ (r13).1))) < 68719476736)) (
  G0 ((ImplTree.mk (ImplTree.tag x6) (ImplTree.key x6) (ImplTree.text x6) (ImplTree.props x6) (ImplTree.kids x6)), (x7 ++ (((([32, 112] : List (UInt8)) ++ (r12).1) ++ ([61] : List (UInt8))) ++ (r13).1)), x8, x9, (IntKind.i64.wrap (x10 + (1 : Int))), ())))))))) (
  E2 (x7, (ImplTree.kids x6), (((List.length (ImplTree.kids x6)) : Nat) : Int), (0 : Int), ()))

def impl_treeWrite.J6 (N : Nat) (R_impl_treeWrite : ImplTree → Option ((List UInt8) × Unit)) (E0 : ImplTree × (List UInt8) × (List (ImplProp)) × Int × Int × Unit → Option ((List UInt8) × Unit)) : ImplTree × (List UInt8) × Unit → Option ((List UInt8) × Unit) :=
fun (x4, x5, ()) =>
 E0 ((ImplTree.mk (ImplTree.tag x4) (ImplTree.key x4) (ImplTree.text x4) (ImplTree.props x4) (ImplTree.kids x4)), x5, (ImplTree.props x4), (((List.length (ImplTree.props x4)) : Nat) : Int), (0 : Int), ())

def impl_treeWrite.B (N : Nat) (R_impl_treeWrite : ImplTree → Option ((List UInt8) × Unit)) (E0 : ImplTree × (List UInt8) × (List (ImplProp)) × Int × Int × Unit → Option ((List UInt8) × Unit)) (x0 : ImplTree) : Option ((List UInt8) × Unit) :=
 br ((ImplTree.tag x0) == (-(1 : Int))) (
  bnd (impl_quote N (ImplTree.text x0)) fun r1 =>
  some ((r1).1, ())) (
  bnd (LibItoa N (ImplTree.tag x0)) fun r2 =>
 gd (decide (((List.length ([40, 116] : List (UInt8))) + (List.length (r2).1)) < 68719476736)) (
 br ((ImplTree.key x0) != (-(1 : Int))) (
  bnd (LibItoa N (ImplTree.key x0)) fun r3 =>
  gd (decide (((List.length ([32, 107] : List (UInt8))) + (List.length (r3).1)) < 68719476736)) (
  gd (decide (((List.length (([40, 116] : List (UInt8)) ++ (r2).1)) + (List.length (([32, 107] : List (UInt8)) ++ (r3).1))) < 68719476736)) (
  impl_treeWrite.J6 N R_impl_treeWrite E0 ((ImplTree.mk (ImplTree.tag x0) (ImplTree.key x0) (ImplTree.text x0) (ImplTree.props x0) (ImplTree.kids x0)), ((([40, 116] : List (UInt8)) ++ (r2).1) ++ (([32, 107] : List (UInt8)) ++ (r3).1)), ())))) (
  impl_treeWrite.J6 N R_impl_treeWrite E0 ((ImplTree.mk (ImplTree.tag x0) (ImplTree.key x0) (ImplTree.text x0) (ImplTree.props x0) (ImplTree.kids x0)), (([40, 116] : List (UInt8)) ++ (r2).1), ()))))

def impl_treeWrite.L2 (N : Nat) (R_impl_treeWrite : ImplTree → Option ((List UInt8) × Unit)) : Nat → (List UInt8) × (List (ImplTree)) × Int × Int × Unit → Option ((List UInt8) × Unit)
  | 0, _ => none
  | n + 1, x => impl_treeWrite.B2 N R_impl_treeWrite (impl_treeWrite.L2 N R_impl_treeWrite n) x

def impl_treeWrite.L0 (N : Nat) (R_impl_treeWrite : ImplTree → Option ((List UInt8) × Unit)) : Nat → ImplTree × (List UInt8) × (List (ImplProp)) × Int × Int × Unit → Option ((List UInt8) × Unit)
  | 0, _ => none
  | n + 1, x => impl_treeWrite.B0 N R_impl_treeWrite (impl_treeWrite.L0 N R_impl_treeWrite n) (impl_treeWrite.L2 N R_impl_treeWrite N) x

def impl_treeWrite.R (N : Nat) : Nat → ImplTree → Option ((List UInt8) × Unit)
  | 0, _ => none
  | d + 1, x0 => impl_treeWrite.B N (impl_treeWrite.R N d) (impl_treeWrite.L0 N (impl_treeWrite.R N d) N) x0

def impl_treeWrite (N : Nat) (x0 : ImplTree) : Option ((List UInt8) × Unit) := impl_treeWrite.R N N x0

def impl_TreeText.B (N : Nat) (x0 : ImplTree) : Option ((List UInt8) × Unit) :=
 bnd (impl_TreeOk N (ImplTree.mk (ImplTree.tag x0) (ImplTree.key x0) (ImplTree.text x0) (ImplTree.props x0) (ImplTree.kids x0))) fun r1 =>
 br (!(r1).1) (
  some (([] : List (UInt8)), ())) (
  bnd (impl_treeWrite N (ImplTree.mk (ImplTree.tag x0) (ImplTree.key x0) (ImplTree.text x0) (ImplTree.props x0) (ImplTree.kids x0))) fun r2 =>
 some ((r2).1, ()))

def impl_TreeText (N : Nat) (x0 : ImplTree) : Option ((List UInt8) × Unit) := impl_TreeText.B N x0

def spec_treeSize.B0 (N : Nat) (R_spec_treeSize : ImplTree → Int → Option (Int × Unit)) (G0 : Int × ImplTree × Int × Int × Unit → Option (Int × Unit)) : Int × ImplTree × Int × Int × Unit → Option (Int × Unit) :=
fun (x2, x3, x4, x5, ()) =>
 br (decide (x5 < (((List.length (ImplTree.kids x3)) : Nat) : Int))) (
  br (decide (x4 ≤ (200 : Int))) (
   gd (decide ((0 : Int) ≤ x5)) (
   gd (decide (x5 < (((List.length (ImplTree.kids x3)) : Nat) : Int))) (
   bnd (R_spec_treeSize (ImplTree.mk (ImplTree.tag (get (ImplTree.kids x3) x5)) (ImplTree.key (get (ImplTree.kids x3) x5)) (ImplTree.text (get (ImplTree.kids x3) x5)) (ImplTree.props (get (ImplTree.kids x3) x5)) (ImplTree.kids (get (ImplTree.kids x3) x5))) (IntKind.i64.wrap (x2 + (1 : Int)))) fun r7 =>
   G0 (x2, (ImplTree.mk (ImplTree.tag x3) (ImplTree.key x3) (ImplTree.text x3) (ImplTree.props x3) (ImplTree.kids x3)), (IntKind.i64.wrap (x4 + (r7).1)), (IntKind.i64.wrap (x5 + (1 : Int))), ())))) (
   some ((cond (decide ((201 : Int) < x4)) (201 : Int) x4), ()))) (
  some ((cond (decide ((201 : Int) < x4)) (201 : Int) x4), ()))

def spec_treeSize.B (N : Nat) (R_spec_treeSize : ImplTree → Int → Option (Int × Unit)) (E0 : Int × ImplTree × Int × Int × Unit → Option (Int × Unit)) (x0 : ImplTree) (x1 : Int) : Option (Int × Unit) :=
 br (decide (x1 > (24 : Int))) (
  some ((201 : Int), ())) (
  E0 (x1, (ImplTree.mk (ImplTree.tag x0) (ImplTree.key x0) (ImplTree.text x0) (ImplTree.props x0) (ImplTree.kids x0)), (1 : Int), (0 : Int), ()))

def spec_treeSize.L0 (N : Nat) (R_spec_treeSize : ImplTree → Int → Option (Int × Unit)) : Nat → Int × ImplTree × Int × Int × Unit → Option (Int × Unit)
  | 0, _ => none
  | n + 1, x => spec_treeSize.B0 N R_spec_treeSize (spec_treeSize.L0 N R_spec_treeSize n) x

def spec_treeSize.R (N : Nat) : Nat → ImplTree → Int → Option (Int × Unit)
  | 0, _, _ => none
  | d + 1, x0, x1 => spec_treeSize.B N (spec_treeSize.R N d) (spec_treeSize.L0 N (spec_treeSize.R N d) N) x0 x1

def spec_treeSize (N : Nat) (x0 : ImplTree) (x1 : Int) : Option (Int × Unit) := spec_treeSize.R N N x0 x1

def spec_decimal.B (N : Nat) (R_spec_decimal : Int → Option ((List UInt8) × Unit)) (x0 : Int) : Option ((List UInt8) × Unit) :=
 br (decide (x0 < (0 : Int))) (
  bnd (R_spec_decimal (IntKind.i64.wrap ((0 : Int) - x0))) fun r1 =>
  gd (decide (((List.length ([45] : List (UInt8))) + (List.length (r1).1)) < 68719476736)) (
  some ((([45] : List (UInt8)) ++ (r1).1), ()))) (
  br (decide (x0 < (10 : Int))) (
  gd (decide ((0 : Int) ≤ x0)) (
  gd (decide (x0 ≤ (IntKind.i64.wrap (x0 + (1 : Int))))) (
  gd (decide ((IntKind.i64.wrap (x0 + (1 : Int))) ≤ (((List.length ([48, 49, 50, 51, 52, 53, 54, 55, 56, 57] : List (UInt8))) : Nat) : Int))) (
  some ((sub ([48, 49, 50, 51, 52, 53, 54, 55, 56, 57] : List (UInt8)) x0 (IntKind.i64.wrap (x0 + (1 : Int)))), ()))))) (
  bnd (R_spec_decimal (IntKind.i64.wrap (Int.tdiv x0 (10 : Int)))) fun r2 =>
 bnd (R_spec_decimal (Int.tmod x0 (10 : Int))) fun r3 =>
 gd (decide (((List.length (r2).1) + (List.length (r3).1)) < 68719476736)) (
 some (((r2).1 ++ (r3).1), ()))))

def spec_decimal.R (N : Nat) : Nat → Int → Option ((List UInt8) × Unit)
  | 0, _ => none
  | d + 1, x0 => spec_decimal.B N (spec_decimal.R N d) x0

def spec_decimal (N : Nat) (x0 : Int) : Option ((List UInt8) × Unit) := spec_decimal.R N N x0

def spec_validShown.B0 (N : Nat) (G0 : (List UInt8) × Int × Unit → Option (Bool × Unit)) : (List UInt8) × Int × Unit → Option (Bool × Unit) :=
fun (x3, x4, ()) =>
 br (decide (x4 ≤ (1000 : Int))) (
  bnd (spec_decimal N (IntKind.i64.wrap ((0 : Int) - x4))) fun r6 =>
  br (x3 == (r6).1) (
   some (true, ())) (
   G0 (x3, (IntKind.i64.wrap (x4 + (1 : Int))), ()))) (
  some (false, ()))

def spec_validShown.B (N : Nat) (E0 : (List UInt8) × Int × Unit → Option (Bool × Unit)) (x0 : List UInt8) : Option (Bool × Unit) :=
 br ((((List.length x0) : Nat) : Int) == (0 : Int)) (
  bnd (spec_validWord N x0) fun r1 =>
  some ((r1).1, ())) (
  gd (decide ((0 : Int) < (((List.length x0) : Nat) : Int))) (
 br ((((UInt8.toNat (List.getD x0 (Int.toNat (0 : Int)) 0)) : Nat) : Int) != (45 : Int)) (
  bnd (spec_validWord N x0) fun r2 =>
  some ((r2).1, ())) (
  E0 (x0, (1 : Int), ()))))

def spec_validShown.L0 (N : Nat) : Nat → (List UInt8) × Int × Unit → Option (Bool × Unit)
  | 0, _ => none
  | n + 1, x => spec_validShown.B0 N (spec_validShown.L0 N n) x

def spec_validShown (N : Nat) (x0 : List UInt8) : Option (Bool × Unit) := spec_validShown.B N (spec_validShown.L0 N N) x0

def spec_validPropList.B0 (N : Nat) (G0 : (List (ImplProp)) × Int × Unit → Option (Bool × Unit)) : (List (ImplProp)) × Int × Unit → Option (Bool × Unit) :=
fun (x1, x2, ()) =>
 br (decide (x2 < (((List.length x1) : Nat) : Int))) (
  gd (decide ((0 : Int) ≤ x2)) (
  gd (decide (x2 < (((List.length x1) : Nat) : Int))) (
  bnd (spec_inRange N (ImplProp.name (get x1 x2)) (0 : Int) (3 : Int)) fun r4 =>
  br (!(r4).1) (
   some (false, ())) (
   gd (decide ((0 : Int) ≤ x2)) (
  gd (decide (x2 < (((List.length x1) : Nat) : Int))) (
  bnd (spec_validValue N (ImplValue.mk (ImplProp.val_Kind (get x1 x2)) (ImplProp.val_Num (get x1 x2)) (ImplProp.val_Text (get x1 x2)))) fun r5 =>
  br (!(r5).1) (
   some (false, ())) (
   br (decide (x2 > (0 : Int))) (
   gd (decide ((0 : Int) ≤ x2)) (
   gd (decide (x2 < (((List.length x1) : Nat) : Int))) (
   gd (decide ((0 : Int) ≤ (IntKind.i64.wrap (x2 - (1 : Int))))) (
   gd (decide ((IntKind.i64.wrap (x2 - (1 : Int))) < (((List.length x1) : Nat) : Int))) (
   br (decide ((ImplProp.name (get x1 x2)) ≤ (ImplProp.name (get x1 (IntKind.i64.wrap (x2 - (1 : Int))))))) (
    some (false, ())) (
    G0 (x1, (IntKind.i64.wrap (x2 + (1 : Int))), ()))))))) (
   G0 (x1, (IntKind.i64.wrap (x2 + (1 : Int))), ()))))))))) (
  some (true, ()))

def spec_validPropList.B (N : Nat) (E0 : (List (ImplProp)) × Int × Unit → Option (Bool × Unit)) (x0 : List (ImplProp)) : Option (Bool × Unit) :=
 E0 (x0, (0 : Int), ())

def spec_validPropList.L0 (N : Nat) : Nat → (List (ImplProp)) × Int × Unit → Option (Bool × Unit)
  | 0, _ => none
  | n + 1, x => spec_validPropList.B0 N (spec_validPropList.L0 N n) x

def spec_validPropList (N : Nat) (x0 : List (ImplProp)) : Option (Bool × Unit) := spec_validPropList.B N (spec_validPropList.L0 N N) x0

def spec_keysApart.B2 (N : Nat) (G0 : (List (ImplTree)) × Int × Unit → Option (Bool × Unit)) (G2 : (List (ImplTree)) × Int × Int × Unit → Option (Bool × Unit)) : (List (ImplTree)) × Int × Int × Unit → Option (Bool × Unit) :=
fun (x4, x5, x6, ()) =>
 br (decide (x6 < x5)) (
  gd (decide ((0 : Int) ≤ x5)) (
  gd (decide (x5 < (((List.length x4) : Nat) : Int))) (
  br ((ImplTree.key (get x4 x5)) != (-(1 : Int))) (
   gd (decide ((0 : Int) ≤ x5)) (
   gd (decide (x5 < (((List.length x4) : Nat) : Int))) (
   gd (decide ((0 : Int) ≤ x6)) (
   gd (decide (x6 < (((List.length x4) : Nat) : Int))) (
   br ((ImplTree.key (get x4 x5)) == (ImplTree.key (get x4 x6))) (
    some (false, ())) (
    G2 (x4, x5, (IntKind.i64.wrap (x6 + (1 : Int))), ()))))))) (
   G2 (x4, x5, (IntKind.i64.wrap (x6 + (1 : Int))), ()))))) (
  G0 (x4, (IntKind.i64.wrap (x5 + (1 : Int))), ()))

def spec_keysApart.B0 (N : Nat) (E2 : (List (ImplTree)) × Int × Int × Unit → Option (Bool × Unit)) : (List (ImplTree)) × Int × Unit → Option (Bool × Unit) :=
fun (x1, x2, ()) =>
 br (decide (x2 < (((List.length x1) : Nat) : Int))) (
  E2 (x1, x2, (0 : Int), ())) (
  some (true, ()))

def spec_keysApart.B (N : Nat) (E0 : (List (ImplTree)) × Int × Unit → Option (Bool × Unit)) (x0 : List (ImplTree)) : Option (Bool × Unit) :=
 E0 (x0, (0 : Int), ())

def spec_keysApart.L2 (N : Nat) (G0 : (List (ImplTree)) × Int × Unit → Option (Bool × Unit)) : Nat → (List (ImplTree)) × Int × Int × Unit → Option (Bool × Unit)
  | 0, _ => none
  | n + 1, x => spec_keysApart.B2 N G0 (spec_keysApart.L2 N G0 n) x

def spec_keysApart.L0 (N : Nat) : Nat → (List (ImplTree)) × Int × Unit → Option (Bool × Unit)
  | 0, _ => none
  | n + 1, x => spec_keysApart.B0 N (spec_keysApart.L2 N (spec_keysApart.L0 N n) N) x

def spec_keysApart (N : Nat) (x0 : List (ImplTree)) : Option (Bool × Unit) := spec_keysApart.B N (spec_keysApart.L0 N N) x0

def spec_validPart.B0 (N : Nat) (R_spec_validPart : ImplTree → Option (Bool × Unit)) (G0 : ImplTree × Int × Unit → Option (Bool × Unit)) : ImplTree × Int × Unit → Option (Bool × Unit) :=
fun (x5, x6, ()) =>
 br (decide (x6 < (((List.length (ImplTree.kids x5)) : Nat) : Int))) (
  gd (decide ((0 : Int) ≤ x6)) (
  gd (decide (x6 < (((List.length (ImplTree.kids x5)) : Nat) : Int))) (
  bnd (R_spec_validPart (ImplTree.mk (ImplTree.tag (get (ImplTree.kids x5) x6)) (ImplTree.key (get (ImplTree.kids x5) x6)) (ImplTree.text (get (ImplTree.kids x5) x6)) (ImplTree.props (get (ImplTree.kids x5) x6)) (ImplTree.kids (get (ImplTree.kids x5) x6)))) fun r8 =>
  br (!(r8).1) (
   some (false, ())) (
   G0 ((ImplTree.mk (ImplTree.tag x5) (ImplTree.key x5) (ImplTree.text x5) (ImplTree.props x5) (ImplTree.kids x5)), (IntKind.i64.wrap (x6 + (1 : Int))), ()))))) (
  bnd (spec_keysApart N (ImplTree.kids x5)) fun r9 =>
 some ((r9).1, ()))

def spec_validPart.B (N : Nat) (R_spec_validPart : ImplTree → Option (Bool × Unit)) (E0 : ImplTree × Int × Unit → Option (Bool × Unit)) (x0 : ImplTree) : Option (Bool × Unit) :=
 br ((ImplTree.tag x0) == (-(1 : Int))) (
  br ((ImplTree.key x0) == (-(1 : Int))) (
   br ((((List.length (ImplTree.props x0)) : Nat) : Int) == (0 : Int)) (
    br ((((List.length (ImplTree.kids x0)) : Nat) : Int) == (0 : Int)) (
     bnd (spec_validShown N (ImplTree.text x0)) fun r1 =>
     some ((r1).1, ())) (
     some (false, ()))) (
    some (false, ()))) (
   some (false, ()))) (
  bnd (spec_inRange N (ImplTree.tag x0) (0 : Int) (4 : Int)) fun r2 =>
 br (!(r2).1) (
  some (false, ())) (
  bnd (spec_inRange N (ImplTree.key x0) (-(1 : Int)) (99 : Int)) fun r3 =>
 br (!(r3).1) (
  some (false, ())) (
  br (!((ImplTree.text x0) == ([] : List (UInt8)))) (
  some (false, ())) (
  bnd (spec_validPropList N (ImplTree.props x0)) fun r4 =>
 br (!(r4).1) (
  some (false, ())) (
  E0 ((ImplTree.mk (ImplTree.tag x0) (ImplTree.key x0) (ImplTree.text x0) (ImplTree.props x0) (ImplTree.kids x0)), (0 : Int), ()))))))

def spec_validPart.L0 (N : Nat) (R_spec_validPart : ImplTree → Option (Bool × Unit)) : Nat → ImplTree × Int × Unit → Option (Bool × Unit)
  | 0, _ => none
  | n + 1, x => spec_validPart.B0 N R_spec_validPart (spec_validPart.L0 N R_spec_validPart n) x

def spec_validPart.R (N : Nat) : Nat → ImplTree → Option (Bool × Unit)
  | 0, _ => none
  | d + 1, x0 => spec_validPart.B N (spec_validPart.R N d) (spec_validPart.L0 N (spec_validPart.R N d) N) x0

def spec_validPart (N : Nat) (x0 : ImplTree) : Option (Bool × Unit) := spec_validPart.R N N x0

def spec_validTree.B (N : Nat) (x0 : ImplTree) : Option (Bool × Unit) :=
 bnd (spec_treeSize N (ImplTree.mk (ImplTree.tag x0) (ImplTree.key x0) (ImplTree.text x0) (ImplTree.props x0) (ImplTree.kids x0)) (1 : Int)) fun r1 =>
 br (decide ((r1).1 ≤ (200 : Int))) (
  bnd (spec_validPart N (ImplTree.mk (ImplTree.tag x0) (ImplTree.key x0) (ImplTree.text x0) (ImplTree.props x0) (ImplTree.kids x0))) fun r2 =>
  some ((r2).1, ())) (
  some (false, ()))

def spec_validTree (N : Nat) (x0 : ImplTree) : Option (Bool × Unit) := spec_validTree.B N x0

def spec_TreeOk.B (N : Nat) (x0 : ImplTree) : Option (Bool × Unit) :=
 bnd (spec_validTree N (ImplTree.mk (ImplTree.tag x0) (ImplTree.key x0) (ImplTree.text x0) (ImplTree.props x0) (ImplTree.kids x0))) fun r1 =>
 some ((r1).1, ())

def spec_TreeOk (N : Nat) (x0 : ImplTree) : Option (Bool × Unit) := spec_TreeOk.B N x0

def spec_sameProps.B0 (N : Nat) (G0 : (List (ImplProp)) × (List (ImplProp)) × Int × Unit → Option (Bool × Unit)) : (List (ImplProp)) × (List (ImplProp)) × Int × Unit → Option (Bool × Unit) :=
fun (x2, x3, x4, ()) =>
 br (decide (x4 < (((List.length x2) : Nat) : Int))) (
  gd (decide ((0 : Int) ≤ x4)) (
  gd (decide (x4 < (((List.length x2) : Nat) : Int))) (
  gd (decide ((0 : Int) ≤ x4)) (
  gd (decide (x4 < (((List.length x3) : Nat) : Int))) (
  br (!(((ImplProp.name (get x2 x4)) == (ImplProp.name (get x3 x4))) && (((ImplProp.val_Kind (get x2 x4)) == (ImplProp.val_Kind (get x3 x4))) && (((ImplProp.val_Num (get x2 x4)) == (ImplProp.val_Num (get x3 x4))) && ((ImplProp.val_Text (get x2 x4)) == (ImplProp.val_Text (get x3 x4))))))) (
   some (false, ())) (
   G0 (x2, x3, (IntKind.i64.wrap (x4 + (1 : Int))), ()))))))) (
  some (true, ()))

def spec_sameProps.B (N : Nat) (E0 : (List (ImplProp)) × (List (ImplProp)) × Int × Unit → Option (Bool × Unit)) (x0 : List (ImplProp)) (x1 : List (ImplProp)) : Option (Bool × Unit) :=
 br ((((List.length x0) : Nat) : Int) != (((List.length x1) : Nat) : Int)) (
  some (false, ())) (
  E0 (x0, x1, (0 : Int), ()))

def spec_sameProps.L0 (N : Nat) : Nat → (List (ImplProp)) × (List (ImplProp)) × Int × Unit → Option (Bool × Unit)
  | 0, _ => none
  | n + 1, x => spec_sameProps.B0 N (spec_sameProps.L0 N n) x

def spec_sameProps (N : Nat) (x0 : List (ImplProp)) (x1 : List (ImplProp)) : Option (Bool × Unit) := spec_sameProps.B N (spec_sameProps.L0 N N) x0 x1

def spec_sameTree.B0 (N : Nat) (R_spec_sameTree : ImplTree → ImplTree → Option (Bool × Unit)) (G0 : ImplTree × ImplTree × Int × Unit → Option (Bool × Unit)) : ImplTree × ImplTree × Int × Unit → Option (Bool × Unit) :=
fun (x3, x4, x5, ()) =>
 br (decide (x5 < (((List.length (ImplTree.kids x3)) : Nat) : Int))) (
  gd (decide ((0 : Int) ≤ x5)) (
  gd (decide (x5 < (((List.length (ImplTree.kids x3)) : Nat) : Int))) (
  gd (decide ((0 : Int) ≤ x5)) (
  gd (decide (x5 < (((List.length (ImplTree.kids x4)) : Nat) : Int))) (
  bnd (R_spec_sameTree (ImplTree.mk (ImplTree.tag (get (ImplTree.kids x3) x5)) (ImplTree.key (get (ImplTree.kids x3) x5)) (ImplTree.text (get (ImplTree.kids x3) x5)) (ImplTree.props (get (ImplTree.kids x3) x5)) (ImplTree.kids (get (ImplTree.kids x3) x5))) (ImplTree.mk (ImplTree.tag (get (ImplTree.kids x4) x5)) (ImplTree.key (get (ImplTree.kids x4) x5)) (ImplTree.text (get (ImplTree.kids x4) x5)) (ImplTree.props (get (ImplTree.kids x4) x5)) (ImplTree.kids (get (ImplTree.kids x4) x5)))) fun r7 =>
  br (!(r7).1) (
   some (false, ())) (
   G0 ((ImplTree.mk (ImplTree.tag x3) (ImplTree.key x3) (ImplTree.text x3) (ImplTree.props x3) (ImplTree.kids x3)), (ImplTree.mk (ImplTree.tag x4) (ImplTree.key x4) (ImplTree.text x4) (ImplTree.props x4) (ImplTree.kids x4)), (IntKind.i64.wrap (x5 + (1 : Int))), ()))))))) (
  some (true, ()))

def spec_sameTree.B (N : Nat) (R_spec_sameTree : ImplTree → ImplTree → Option (Bool × Unit)) (E0 : ImplTree × ImplTree × Int × Unit → Option (Bool × Unit)) (x0 : ImplTree) (x1 : ImplTree) : Option (Bool × Unit) :=
 br ((ImplTree.tag x0) != (ImplTree.tag x1)) (
  some (false, ())) (
  br ((ImplTree.key x0) != (ImplTree.key x1)) (
  some (false, ())) (
  br (!((ImplTree.text x0) == (ImplTree.text x1))) (
  some (false, ())) (
  bnd (spec_sameProps N (ImplTree.props x0) (ImplTree.props x1)) fun r2 =>
 br (!(r2).1) (
  some (false, ())) (
  br ((((List.length (ImplTree.kids x0)) : Nat) : Int) != (((List.length (ImplTree.kids x1)) : Nat) : Int)) (
  some (false, ())) (
  E0 ((ImplTree.mk (ImplTree.tag x0) (ImplTree.key x0) (ImplTree.text x0) (ImplTree.props x0) (ImplTree.kids x0)), (ImplTree.mk (ImplTree.tag x1) (ImplTree.key x1) (ImplTree.text x1) (ImplTree.props x1) (ImplTree.kids x1)), (0 : Int), ()))))))

def spec_sameTree.L0 (N : Nat) (R_spec_sameTree : ImplTree → ImplTree → Option (Bool × Unit)) : Nat → ImplTree × ImplTree × Int × Unit → Option (Bool × Unit)
  | 0, _ => none
  | n + 1, x => spec_sameTree.B0 N R_spec_sameTree (spec_sameTree.L0 N R_spec_sameTree n) x

def spec_sameTree.R (N : Nat) : Nat → ImplTree → ImplTree → Option (Bool × Unit)
  | 0, _, _ => none
  | d + 1, x0, x1 => spec_sameTree.B N (spec_sameTree.R N d) (spec_sameTree.L0 N (spec_sameTree.R N d) N) x0 x1

def spec_sameTree (N : Nat) (x0 : ImplTree) (x1 : ImplTree) : Option (Bool × Unit) := spec_sameTree.R N N x0 x1

def spec_SameTree.B (N : Nat) (x0 : ImplTree) (x1 : ImplTree) : Option (Bool × Unit) :=
 bnd (spec_sameTree N (ImplTree.mk (ImplTree.tag x0) (ImplTree.key x0) (ImplTree.text x0) (ImplTree.props x0) (ImplTree.kids x0)) (ImplTree.mk (ImplTree.tag x1) (ImplTree.key x1) (ImplTree.text x1) (ImplTree.props x1) (ImplTree.kids x1))) fun r2 =>
 some ((r2).1, ())

def spec_SameTree (N : Nat) (x0 : ImplTree) (x1 : ImplTree) : Option (Bool × Unit) := spec_SameTree.B N x0 x1

def spec_DrawTreeOk.B (N : Nat) (x0 : List (Int)) : Option (ImplTree × Unit) :=
 bnd (spec_newSource N x0) fun r1 =>
 bnd (spec_source_whole N (r1).1) fun r2 =>
 some ((ImplTree.mk (ImplTree.tag ((r2).2).1) (ImplTree.key ((r2).2).1) (ImplTree.text ((r2).2).1) (ImplTree.props ((r2).2).1) (ImplTree.kids ((r2).2).1)), ())

def spec_DrawTreeOk (N : Nat) (x0 : List (Int)) : Option (ImplTree × Unit) := spec_DrawTreeOk.B N x0

def impl_treeReader_peek.B (N : Nat) (x0 : ImplTreeReader) : Option (ImplTreeReader × Int × Unit) :=
 br (decide ((ImplTreeReader.at_ x0) < (((List.length (ImplTreeReader.s x0)) : Nat) : Int))) (
  gd (decide ((0 : Int) ≤ (ImplTreeReader.at_ x0))) (
  gd (decide ((ImplTreeReader.at_ x0) < (((List.length (ImplTreeReader.s x0)) : Nat) : Int))) (
  some (x0, (((UInt8.toNat (List.getD (ImplTreeReader.s x0) (Int.toNat (ImplTreeReader.at_ x0)) 0)) : Nat) : Int), ())))) (
  some (x0, (0 : Int), ()))

def impl_treeReader_peek (N : Nat) (x0 : ImplTreeReader) : Option (ImplTreeReader × Int × Unit) := impl_treeReader_peek.B N x0

def impl_treeReader_take.J2 (N : Nat) : ImplTreeReader × Unit → Option (ImplTreeReader × Unit) :=
fun (x3, ()) =>
 some ((ImplTreeReader.mk (ImplTreeReader.s x3) (IntKind.i64.wrap ((ImplTreeReader.at_ x3) + (1 : Int))) (ImplTreeReader.ok x3)), ())

def impl_treeReader_take.B (N : Nat) (x0 : ImplTreeReader) (x1 : Int) : Option (ImplTreeReader × Unit) :=
 bnd (impl_treeReader_peek N x0) fun r2 =>
 br (((r2).2).1 != x1) (
  impl_treeReader_take.J2 N ((ImplTreeReader.mk (ImplTreeReader.s (r2).1) (ImplTreeReader.at_ (r2).1) false), ())) (
  impl_treeReader_take.J2 N ((r2).1, ()))

def impl_treeReader_take (N : Nat) (x0 : ImplTreeReader) (x1 : Int) : Option (ImplTreeReader × Unit) := impl_treeReader_take.B N x0 x1

def impl_treeReader_quoted.B0 (N : Nat) (G0 : ImplTreeReader × Int × Unit → Option (ImplTreeReader × (List UInt8) × Unit)) : ImplTreeReader × Int × Unit → Option (ImplTreeReader × (List UInt8) × Unit) :=
fun (x2, x3, ()) =>
 br (decide ((ImplTreeReader.at_ x2) < (((List.length (ImplTreeReader.s x2)) : Nat) : Int))) (
  gd (decide ((0 : Int) ≤ (ImplTreeReader.at_ x2))) (
  gd (decide ((ImplTreeReader.at_ x2) < (((List.length (ImplTreeReader.s x2)) : Nat) : Int))) (
  br ((((UInt8.toNat (List.getD (ImplTreeReader.s x2) (Int.toNat (ImplTreeReader.at_ x2)) 0)) : Nat) : Int) != (39 : Int)) (
   G0 ((ImplTreeReader.mk (ImplTreeReader.s x2) (IntKind.i64.wrap ((ImplTreeReader.at_ x2) + (1 : Int))) (ImplTreeReader.ok x2)), x3, ())) (
   br (!(ImplTreeReader.ok x2)) (
   some ((ImplTreeReader.mk (ImplTreeReader.s x2) (ImplTreeReader.at_ x2) false), ([] : List (UInt8)), ())) (
   br (decide ((ImplTreeReader.at_ x2) ≥ (((List.length (ImplTreeReader.s x2)) : Nat) : Int))) (
   some ((ImplTreeReader.mk (ImplTreeReader.s x2) (ImplTreeReader.at_ x2) false), ([] : List (UInt8)), ())) (
   gd (decide ((0 : Int) ≤ x3)) (
  gd (decide (x3 ≤ (IntKind.i64.wrap ((IntKind.i64.wrap ((ImplTreeReader.at_ x2) + (1 : Int))) - (1 : Int))))) (
  gd (decide ((IntKind.i64.wrap ((IntKind.i64.wrap ((ImplTreeReader.at_ x2) + (1 : Int))) - (1 : Int))) ≤ (((List.length (ImplTreeReader.s x2)) : Nat) : Int))) (
  some ((ImplTreeReader.mk (ImplTreeReader.s x2) (IntKind.i64.wrap ((ImplTreeReader.at_ x2) + (1 : Int))) (ImplTreeReader.ok x2)), (sub (ImplTreeReader.s x2) x3 (IntKind.i64.wrap ((IntKind.i64.wrap ((ImplTreeReader.at_ x2) + (1 : Int))) - (1 : Int)))), ())))))))))) (
  br (!(ImplTreeReader.ok x2)) (
  some ((ImplTreeReader.mk (ImplTreeReader.s x2) (ImplTreeReader.at_ x2) false), ([] : List (UInt8)), ())) (
  br (decide ((ImplTreeReader.at_ x2) ≥ (((List.length (ImplTreeReader.s x2)) : Nat) : Int))) (
  some ((ImplTreeReader.mk (ImplTreeReader.s x2) (ImplTreeReader.at_ x2) false), ([] : List (UInt8)), ())) (
  gd (decide ((0 : Int) ≤ x3)) (
 gd (decide (x3 ≤ (IntKind.i64.wrap ((IntKind.i64.wrap ((ImplTreeReader.at_ x2) + (1 : Int))) - (1 : Int))))) (
 gd (decide ((IntKind.i64.wrap ((IntKind.i64.wrap ((ImplTreeReader.at_ x2) + (1 : Int))) - (1 : Int))) ≤ (((List.length (ImplTreeReader.s x2)) : Nat) : Int))) (
 some ((ImplTreeReader.mk (ImplTreeReader.s x2) (IntKind.i64.wrap ((ImplTreeReader.at_ x2) + (1 : Int))) (ImplTreeReader.ok x2)), (sub (ImplTreeReader.s x2) x3 (IntKind.i64.wrap ((IntKind.i64.wrap ((ImplTreeReader.at_ x2) + (1 : Int))) - (1 : Int)))), ())))))))

def impl_treeReader_quoted.B (N : Nat) (E0 : ImplTreeReader × Int × Unit → Option (ImplTreeReader × (List UInt8) × Unit)) (x0 : ImplTreeReader) : Option (ImplTreeReader × (List UInt8) × Unit) :=
 bnd (impl_treeReader_take N x0 (39 : Int)) fun r1 =>
 E0 ((r1).1, (ImplTreeReader.at_ (r1).1), ())

def impl_treeReader_quoted.L0 (N : Nat) : Nat → ImplTreeReader × Int × Unit → Option (ImplTreeReader × (List UInt8) × Unit)
  | 0, _ => none
  | n + 1, x => impl_treeReader_quoted.B0 N (impl_treeReader_quoted.L0 N n) x

def impl_treeReader_quoted (N : Nat) (x0 : ImplTreeReader) : Option (ImplTreeReader × (List UInt8) × Unit) := impl_treeReader_quoted.B N (impl_treeReader_quoted.L0 N N) x0

def impl_treeReader_num.B0 (N : Nat) (G0 : ImplTreeReader × Int × Unit → Option (ImplTreeReader × Int × Unit)) : ImplTreeReader × Int × Unit → Option (ImplTreeReader × Int × Unit) :=
fun (x2, x3, ()) =>
 bnd (impl_treeReader_peek N x2) fun r5 =>
 br (decide (((r5).2).1 ≥ (48 : Int))) (
  bnd (impl_treeReader_peek N (r5).1) fun r6 =>
  br (decide (((r6).2).1 ≤ (57 : Int))) (
   G0 ((ImplTreeReader.mk (ImplTreeReader.s (r6).1) (IntKind.i64.wrap ((ImplTreeReader.at_ (r6).1) + (1 : Int))) (ImplTreeReader.ok (r6).1)), x3, ())) (
   br (!(ImplTreeReader.ok (r6).1)) (
   some ((ImplTreeReader.mk (ImplTreeReader.s (r6).1) (ImplTreeReader.at_ (r6).1) false), (0 : Int), ())) (
   br (decide ((ImplTreeReader.at_ (r6).1) > (((List.length (ImplTreeReader.s (r6).1)) : Nat) : Int))) (
   some ((ImplTreeReader.mk (ImplTreeReader.s (r6).1) (ImplTreeReader.at_ (r6).1) false), (0 : Int), ())) (
   br (decide (x3 > (((List.length (ImplTreeReader.s (r6).1)) : Nat) : Int))) (
   some ((ImplTreeReader.mk (ImplTreeReader.s (r6).1) (ImplTreeReader.at_ (r6).1) false), (0 : Int), ())) (
   gd (decide ((0 : Int) ≤ x3)) (
  gd (decide (x3 ≤ (ImplTreeReader.at_ (r6).1))) (
  gd (decide ((ImplTreeReader.at_ (r6).1) ≤ (((List.length (ImplTreeReader.s (r6).1)) : Nat) : Int))) (
  bnd (LibAtoi N (sub (ImplTreeReader.s (r6).1) x3 (ImplTreeReader.at_ (r6).1))) fun r7 =>
  br (!((r7).2).1) (
   some ((ImplTreeReader.mk (ImplTreeReader.s (r6).1) (ImplTreeReader.at_ (r6).1) false), (r7).1, ())) (
   some ((r6).1, (r7).1, ())))))))))) (
  br (!(ImplTreeReader.ok (r5).1)) (
  some ((ImplTreeReader.mk (ImplTreeReader.s (r5).1) (ImplTreeReader.at_ (r5).1) false), (0 : Int), ())) (
  br (decide ((ImplTreeReader.at_ (r5).1) > (((List.length (ImplTreeReader.s (r5).1)) : Nat) : Int))) (
  some ((ImplTreeReader.mk (ImplTreeReader.s (r5).1) (ImplTreeReader.at_ (r5).1) false), (0 : Int), ())) (
  br (decide (x3 > (((List.length (ImplTreeReader.s (r5).1)) : Nat) : Int))) (
  some ((ImplTreeReader.mk (ImplTreeReader.s (r5).1) (ImplTreeReader.at_ (r5).1) false), (0 : Int), ())) (
  gd (decide ((0 : Int) ≤ x3)) (
 gd (decide (x3 ≤ (ImplTreeReader.at_ (r5).1))) (
 gd (decide ((ImplTreeReader.at_ (r5).1) ≤ (((List.length (ImplTreeReader.s (r5).1)) : Nat) : Int))) (
 bnd (LibAtoi N (sub (ImplTreeReader.s (r5).1) x3 (ImplTreeReader.at_ (r5).1))) fun r8 =>
 br (!((r8).2).1) (
  some ((ImplTreeReader.mk (ImplTreeReader.s (r5).1) (ImplTreeReader.at_ (r5).1) false), (r8).1, ())) (
  some ((r5).1, (r8).1, ())))))))))

def impl_treeReader_num.B (N : Nat) (E0 : ImplTreeReader × Int × Unit → Option (ImplTreeReader × Int × Unit)) (x0 : ImplTreeReader) : Option (ImplTreeReader × Int × Unit) :=
 bnd (impl_treeReader_peek N x0) fun r1 =>
 br (((r1).2).1 == (45 : Int)) (
  E0 ((ImplTreeReader.mk (ImplTreeReader.s (r1).1) (IntKind.i64.wrap ((ImplTreeReader.at_ (r1).1) + (1 : Int))) (ImplTreeReader.ok (r1).1)), (ImplTreeReader.at_ x0), ())) (
  E0 ((r1).1, (ImplTreeReader.at_ x0), ()))

def impl_treeReader_num.L0 (N : Nat) : Nat → ImplTreeReader × Int × Unit → Option (ImplTreeReader × Int × Unit)
  | 0, _ => none
  | n + 1, x => impl_treeReader_num.B0 N (impl_treeReader_num.L0 N n) x

def impl_treeReader_num (N : Nat) (x0 : ImplTreeReader) : Option (ImplTreeReader × Int × Unit) := impl_treeReader_num.B N (impl_treeReader_num.L0 N N) x0

def impl_number.B (N : Nat) (x0 : Int) : Option (ImplValue × Unit) :=
 some ((ImplValue.mk (1 : Int) x0 ([] : List (UInt8))), ())

def impl_number (N : Nat) (x0 : Int) : Option (ImplValue × Unit) := impl_number.B N x0

def impl_treeReader_value.B (N : Nat) (x0 : ImplTreeReader) : Option (ImplTreeReader × ImplValue × Unit) :=
 bnd (impl_treeReader_peek N x0) fun r1 =>
 br (((r1).2).1 == (39 : Int)) (
  bnd (impl_treeReader_quoted N (r1).1) fun r2 =>
  some ((r2).1, (ImplValue.mk (2 : Int) (0 : Int) ((r2).2).1), ())) (
  br (((r1).2).1 == (45 : Int)) (
  br (decide ((IntKind.i64.wrap ((ImplTreeReader.at_ (r1).1) + (1 : Int))) ≥ (((List.length (ImplTreeReader.s (r1).1)) : Nat) : Int))) (
   some ((ImplTreeReader.mk (ImplTreeReader.s (r1).1) (IntKind.i64.wrap ((ImplTreeReader.at_ (r1).1) + (1 : Int))) (ImplTreeReader.ok (r1).1)), (ImplValue.mk (0 : Int) (0 : Int) ([] : List (UInt8))), ())) (
   gd (decide ((0 : Int) ≤ (IntKind.i64.wrap ((ImplTreeReader.at_ (r1).1) + (1 : Int))))) (
  gd (decide ((IntKind.i64.wrap ((ImplTreeReader.at_ (r1).1) + (1 : Int))) < (((List.length (ImplTreeReader.s (r1).1)) : Nat) : Int))) (
  br (decide ((((UInt8.toNat (List.getD (ImplTreeReader.s (r1).1) (Int.toNat (IntKind.i64.wrap ((ImplTreeReader.at_ (r1).1) + (1 : Int)))) 0)) : Nat) : Int) < (48 : Int))) (
   some ((ImplTreeReader.mk (ImplTreeReader.s (r1).1) (IntKind.i64.wrap ((ImplTreeReader.at_ (r1).1) + (1 : Int))) (ImplTreeReader.ok (r1).1)), (ImplValue.mk (0 : Int) (0 : Int) ([] : List (UInt8))), ())) (
   gd (decide ((0 : Int) ≤ (IntKind.i64.wrap ((ImplTreeReader.at_ (r1).1) + (1 : Int))))) (
  gd (decide ((IntKind.i64.wrap ((ImplTreeReader.at_ (r1).1) + (1 : Int))) < (((List.length (ImplTreeReader.s (r1).1)) : Nat) : Int))) (
  br (decide ((((UInt8.toNat (List.getD (ImplTreeReader.s (r1).1) (Int.toNat (IntKind.i64.wrap ((ImplTreeReader.at_ (r1).1) + (1 : Int)))) 0)) : Nat) : Int) > (57 : Int))) (
   some ((ImplTreeReader.mk (ImplTreeReader.s (r1).1) (IntKind.i64.wrap ((ImplTreeReader.at_ (r1).1) + (1 : Int))) (ImplTreeReader.ok (r1).1)), (ImplValue.mk (0 : Int) (0 : Int) ([] : List (UInt8))), ())) (
   bnd (impl_treeReader_num N (r1).1) fun r3 =>
  bnd (impl_number N ((r3).2).1) fun r4 =>
  some ((r3).1, (r4).1, ()))))))))) (
  bnd (impl_treeReader_num N (r1).1) fun r5 =>
 bnd (impl_number N ((r5).2).1) fun r6 =>
 some ((r5).1, (r6).1, ())))

def impl_treeReader_value (N : Nat) (x0 : ImplTreeReader) : Option (ImplTreeReader × ImplValue × Unit) := impl_treeReader_value.B N x0

def impl_treeReader_tree.B0 (N : Nat) (R_impl_treeReader_tree : ImplTreeReader → Int → Option (ImplTreeReader × ImplTree × Unit)) (G0 : ImplTreeReader × Int × ImplTree × ImplTree × Unit → Option (ImplTreeReader × ImplTree × Unit)) : ImplTreeReader × Int × ImplTree × ImplTree × Unit → Option (ImplTreeReader × ImplTree × Unit) :=
fun (x7, x8, x9, x10, ()) =>
 br (ImplTreeReader.ok x7) (
  bnd (impl_treeReader_peek N x7) fun r12 =>
  br (((r12).2).1 == (32 : Int)) (
   bnd (impl_treeReader_peek N (ImplTreeReader.mk (ImplTreeReader.s (r12).1) (IntKind.i64.wrap ((ImplTreeReader.at_ (r12).1) + (1 : Int))) (ImplTreeReader.ok (r12).1))) fun r13 =>
   br (((r13).2).1 == (107 : Int)) (
    bnd (impl_treeReader_num N (ImplTreeReader.mk (ImplTreeReader.s (r13).1) (IntKind.i64.wrap ((ImplTreeReader.at_ (r13).1) + (1 : Int))) (ImplTreeReader.ok (r13).1))) fun r14 =>
    G0 ((r14).1, x8, (ImplTree.mk (ImplTree.tag x9) (ImplTree.key x9) (ImplTree.text x9) (ImplTree.props x9) (ImplTree.kids x9)), (ImplTree.mk (ImplTree.tag x10) ((r14).2).1 (ImplTree.text x10) (ImplTree.props x10) (ImplTree.kids x10)), ())) (
    br (((r13).2).1 == (112 : Int)) (
    bnd (impl_treeReader_num N (ImplTreeReader.mk (ImplTreeReader.s (r13).1) (IntKind.i64.wrap ((ImplTreeReader.at_ (r13).1) + (1 : Int))) (ImplTreeReader.ok (r13).1))) fun r15 =>
    bnd (impl_treeReader_take N (r15).1 (61 : Int)) fun r16 =>
    bnd (impl_treeReader_value N (r16).1) fun r17 =>
    gd (decide (((List.length (ImplTree.props x10)) + (List.length ([(ImplProp.mk ((r15).2).1 (ImplValue.kind ((r17).2).1) (ImplValue.num ((r17).2).1) (ImplValue.text ((r17).2).1))] : List (ImplProp)))) < 68719476736)) (
    G0 ((r17).1, x8, (ImplTree.mk (ImplTree.tag x9) (ImplTree.key x9) (ImplTree.text x9) (ImplTree.props x9) (ImplTree.kids x9)), (ImplTree.mk (ImplTree.tag x10) (ImplTree.key x10) (ImplTree.text x10) ((ImplTree.props x10) ++ ([(ImplProp.mk ((r15).2).1 (ImplValue.kind ((r17).2).1) (ImplValue.num ((r17).2).1) (ImplValue.text ((r17).2).1))] : List (ImplProp))) (ImplTree.kids x10)), ()))) (
    bnd (R_impl_treeReader_tree (r13).1 (IntKind.i64.wrap (x8 + (1 : Int)))) fun r18 =>
   gd (decide (((List.length (ImplTree.kids x10)) + (List.length ([(ImplTree.mk (ImplTree.tag ((r18).2).1) (ImplTree.key ((r18).2).1) (ImplTree.text ((r18).2).1) (ImplTree.props ((r18).2).1) (ImplTree.kids ((r18).2).1))] : List (ImplTree)))) < 68719476736)) (
   G0 ((r18).1, x8, (ImplTree.mk (ImplTree.tag x9) (ImplTree.key x9) (ImplTree.text x9) (ImplTree.props x9) (ImplTree.kids x9)), (ImplTree.mk (ImplTree.tag x10) (ImplTree.key x10) (ImplTree.text x10) (ImplTree.props x10) ((ImplTree.kids x10) ++ ([(ImplTree.mk (ImplTree.tag ((r18).2).1) (ImplTree.key ((r18).2).1) (ImplTree.text ((r18).2).1) (ImplTree.props ((r18).2).1) (ImplTree.kids ((r18).2).1))] : List (ImplTree)))), ()))))) (
   bnd (impl_treeReader_take N (r12).1 (41 : Int)) fun r19 =>
  some ((r19).1, (ImplTree.mk (ImplTree.tag x10) (ImplTree.key x10) (ImplTree.text x10) (ImplTree.props x10) (ImplTree.kids x10)), ()))) (
  bnd (impl_treeReader_take N x7 (41 : Int)) fun r20 =>
 some ((r20).1, (ImplTree.mk (ImplTree.tag x10) (ImplTree.key x10) (ImplTree.text x10) (ImplTree.props x10) (ImplTree.kids x10)), ()))

def impl_treeReader_tree.B (N : Nat) (R_impl_treeReader_tree : ImplTreeReader → Int → Option (ImplTreeReader × ImplTree × Unit)) (E0 : ImplTreeReader × Int × ImplTree × ImplTree × Unit → Option (ImplTreeReader × ImplTree × Unit)) (x0 : ImplTreeReader) (x1 : Int) : Option (ImplTreeReader × ImplTree × Unit) :=
 br (decide (x1 > (24 : Int))) (
  some ((ImplTreeReader.mk (ImplTreeReader.s x0) (ImplTreeReader.at_ x0) false), (ImplTree.mk (0 : Int) (0 : Int) ([] : List (UInt8)) ([] : List (ImplProp)) ([] : List (ImplTree))), ())) (
  bnd (impl_treeReader_peek N x0) fun r2 =>
 br (((r2).2).1 == (39 : Int)) (
  bnd (impl_treeReader_quoted N (r2).1) fun r3 =>
  some ((r3).1, (ImplTree.mk (-(1 : Int)) (-(1 : Int)) ((r3).2).1 ([] : List (ImplProp)) ([] : List (ImplTree))), ())) (
  bnd (impl_treeReader_take N (r2).1 (40 : Int)) fun r4 =>
 bnd (impl_treeReader_take N (r4).1 (116 : Int)) fun r5 =>
 bnd (impl_treeReader_num N (r5).1) fun r6 =>
 E0 ((r6).1, x1, (ImplTree.mk (0 : Int) (0 : Int) ([] : List (UInt8)) ([] : List (ImplProp)) ([] : List (ImplTree))), (ImplTree.mk ((r6).2).1 (-(1 : Int)) ([] : List (UInt8)) ([] : List (ImplProp)) ([] : List (ImplTree))), ())))

def impl_treeReader_tree.L0 (N : Nat) (R_impl_treeReader_tree : ImplTreeReader → Int → Option (ImplTreeReader × ImplTree × Unit)) : Nat → ImplTreeReader × Int × ImplTree × ImplTree × Unit → Option (ImplTreeReader × ImplTree × Unit)
  | 0, _ => none
  | n + 1, x => impl_treeReader_tree.B0 N R_impl_treeReader_tree (impl_treeReader_tree.L0 N R_impl_treeReader_tree n) x

def impl_treeReader_tree.R (N : Nat) : Nat → ImplTreeReader → Int → Option (ImplTreeReader × ImplTree × Unit)
  | 0, _, _ => none
  | d + 1, x0, x1 => impl_treeReader_tree.B N (impl_treeReader_tree.R N d) (impl_treeReader_tree.L0 N (impl_treeReader_tree.R N d) N) x0 x1

def impl_treeReader_tree (N : Nat) (x0 : ImplTreeReader) (x1 : Int) : Option (ImplTreeReader × ImplTree × Unit) := impl_treeReader_tree.R N N x0 x1

def impl_TreeRead.B (N : Nat) (x0 : List UInt8) : Option (ImplTree × Bool × Unit) :=
 br (decide ((((List.length x0) : Nat) : Int) > (8000 : Int))) (
  some ((ImplTree.mk (0 : Int) (0 : Int) ([] : List (UInt8)) ([] : List (ImplProp)) ([] : List (ImplTree))), false, ())) (
  bnd (impl_treeReader_tree N (ImplTreeReader.mk x0 (0 : Int) true) (1 : Int)) fun r1 =>
 br (!(ImplTreeReader.ok (r1).1)) (
  some ((ImplTree.mk (0 : Int) (0 : Int) ([] : List (UInt8)) ([] : List (ImplProp)) ([] : List (ImplTree))), false, ())) (
  br ((ImplTreeReader.at_ (r1).1) != (((List.length x0) : Nat) : Int)) (
  some ((ImplTree.mk (0 : Int) (0 : Int) ([] : List (UInt8)) ([] : List (ImplProp)) ([] : List (ImplTree))), false, ())) (
  bnd (impl_TreeOk N (ImplTree.mk (ImplTree.tag ((r1).2).1) (ImplTree.key ((r1).2).1) (ImplTree.text ((r1).2).1) (ImplTree.props ((r1).2).1) (ImplTree.kids ((r1).2).1))) fun r2 =>
 br (!(r2).1) (
  some ((ImplTree.mk (0 : Int) (0 : Int) ([] : List (UInt8)) ([] : List (ImplProp)) ([] : List (ImplTree))), false, ())) (
  bnd (impl_treeWrite N (ImplTree.mk (ImplTree.tag ((r1).2).1) (ImplTree.key ((r1).2).1) (ImplTree.text ((r1).2).1) (ImplTree.props ((r1).2).1) (ImplTree.kids ((r1).2).1))) fun r3 =>
 br (!((r3).1 == x0)) (
  some ((ImplTree.mk (0 : Int) (0 : Int) ([] : List (UInt8)) ([] : List (ImplProp)) ([] : List (ImplTree))), false, ())) (
  some ((ImplTree.mk (ImplTree.tag ((r1).2).1) (ImplTree.key ((r1).2).1) (ImplTree.text ((r1).2).1) (ImplTree.props ((r1).2).1) (ImplTree.kids ((r1).2).1)), true, ()))))))

def impl_TreeRead (N : Nat) (x0 : List UInt8) : Option (ImplTree × Bool × Unit) := impl_TreeRead.B N x0

def laws_FnTreeOk.B (N : Nat) (x0 : List (Int)) : Option (Bool × Unit) :=
 br (decide ((((List.length x0) : Nat) : Int) > (1048576 : Int))) (
  some (true, ())) (
  bnd (spec_DrawTreeOk N x0) fun r1 =>
 bnd (impl_TreeOk N (ImplTree.mk (ImplTree.tag (r1).1) (ImplTree.key (r1).1) (ImplTree.text (r1).1) (ImplTree.props (r1).1) (ImplTree.kids (r1).1))) fun r2 =>
 bnd (spec_TreeOk N (ImplTree.mk (ImplTree.tag (r1).1) (ImplTree.key (r1).1) (ImplTree.text (r1).1) (ImplTree.props (r1).1) (ImplTree.kids (r1).1))) fun r3 =>
 br (!((r2).1 == (r3).1)) (
  some (((r2).1 == (r3).1), ())) (
  br (!(r2).1) (
  some (((r2).1 == (r3).1), ())) (
  bnd (impl_TreeText N (ImplTree.mk (ImplTree.tag (r1).1) (ImplTree.key (r1).1) (ImplTree.text (r1).1) (ImplTree.props (r1).1) (ImplTree.kids (r1).1))) fun r4 =>
 br (decide ((((List.length (r4).1) : Nat) : Int) > (8000 : Int))) (
  some (((r2).1 == (r3).1), ())) (
  bnd (impl_TreeText N (ImplTree.mk (ImplTree.tag (r1).1) (ImplTree.key (r1).1) (ImplTree.text (r1).1) (ImplTree.props (r1).1) (ImplTree.kids (r1).1))) fun r5 =>
 bnd (impl_TreeRead N (r5).1) fun r6 =>
 br ((r6).2).1 (
  bnd (spec_SameTree N (ImplTree.mk (ImplTree.tag (r6).1) (ImplTree.key (r6).1) (ImplTree.text (r6).1) (ImplTree.props (r6).1) (ImplTree.kids (r6).1)) (ImplTree.mk (ImplTree.tag (r1).1) (ImplTree.key (r1).1) (ImplTree.text (r1).1) (ImplTree.props (r1).1) (ImplTree.kids (r1).1))) fun r7 =>
  some ((r7).1, ())) (
  some (false, ()))))))

def laws_FnTreeOk (N : Nat) (x0 : List (Int)) : Option (Bool × Unit) := laws_FnTreeOk.B N x0
end
end Go.Ev
