/- The functions that the law reaches, written as plain functions; nothing is claimed here. -/
import Derived.Test.YtlncbgahhpjgkaaDoorEvE
set_option linter.all false
set_option linter.unusedVariables false
set_option linter.unusedSimpArgs false
/- F -/
set_option maxRecDepth 10000
namespace Go.Ev
noncomputable section
def spec_newSource.B (N : Nat) (x0 : List (Int)) : Option (SpecSource × Unit) :=
 some ((SpecSource.mk x0 (0 : Int) (4000 : Int)), ())

def spec_newSource (N : Nat) (x0 : List (Int)) : Option (SpecSource × Unit) := spec_newSource.B N x0

def spec_source_pick.B (N : Nat) (x0 : SpecSource) (x1 : Int) : Option (SpecSource × Int × Unit) :=
 br (decide (x1 ≤ (1 : Int))) (
  some (x0, (0 : Int), ())) (
  br (decide ((SpecSource.left x0) ≤ (0 : Int))) (
  some (x0, (0 : Int), ())) (
  br ((((List.length (SpecSource.code x0)) : Nat) : Int) == (0 : Int)) (
  some (x0, (0 : Int), ())) (
  gd (!(decide ((((List.length (SpecSource.code x0)) : Nat) : Int) = (0 : Int)))) (
 gd (decide ((0 : Int) ≤ (Int.tmod (SpecSource.at_ x0) (((List.length (SpecSource.code x0)) : Nat) : Int)))) (
 gd (decide ((Int.tmod (SpecSource.at_ x0) (((List.length (SpecSource.code x0)) : Nat) : Int)) < (((List.length (SpecSource.code x0)) : Nat) : Int))) (
 gd (!(decide ((((List.length (SpecSource.code x0)) : Nat) : Int) = (0 : Int)))) (
 br (decide (x1 > (256 : Int))) (
  gd (!(decide ((((List.length (SpecSource.code x0)) : Nat) : Int) = (0 : Int)))) (
  gd (decide ((0 : Int) ≤ (Int.tmod (IntKind.i64.wrap ((SpecSource.at_ x0) + (1 : Int))) (((List.length (SpecSource.code x0)) : Nat) : Int)))) (
  gd (decide ((Int.tmod (IntKind.i64.wrap ((SpecSource.at_ x0) + (1 : Int))) (((List.length (SpecSource.code x0)) : Nat) : Int)) < (((List.length (SpecSource.code x0)) : Nat) : Int))) (
  gd (!(decide (x1 = (0 : Int)))) (
  some ((SpecSource.mk (SpecSource.code x0) (IntKind.i64.wrap ((IntKind.i64.wrap ((SpecSource.at_ x0) + (1 : Int))) + (1 : Int))) (IntKind.i64.wrap ((SpecSource.left x0) - (1 : Int)))), (Int.tmod (IntKind.i64.wrap ((IntKind.i64.wrap ((IntKind.i64.wrap ((IntKind.i64.wrap (get (SpecSource.code x0) (Int.tmod (SpecSource.at_ x0) (((List.length (SpecSource.code x0)) : Nat) : Int)))) + (IntKind.i64.wrap ((IntKind.i64.wrap (Int.tdiv (SpecSource.at_ x0) (((List.length (SpecSource.code x0)) : Nat) : Int))) * (31 : Int))))) * (256 : Int))) + (IntKind.i64.wrap (get (SpecSource.code x0) (Int.tmod (IntKind.i64.wrap ((SpecSource.at_ x0) + (1 : Int))) (((List.length (SpecSource.code x0)) : Nat) : Int)))))) x1), ())))))) (
  gd (!(decide (x1 = (0 : Int)))) (
 some ((SpecSource.mk (SpecSource.code x0) (IntKind.i64.wrap ((SpecSource.at_ x0) + (1 : Int))) (IntKind.i64.wrap ((SpecSource.left x0) - (1 : Int)))), (Int.tmod (IntKind.i64.wrap ((IntKind.i64.wrap (get (SpecSource.code x0) (Int.tmod (SpecSource.at_ x0) (((List.length (SpecSource.code x0)) : Nat) : Int)))) + (IntKind.i64.wrap ((IntKind.i64.wrap (Int.tdiv (SpecSource.at_ x0) (((List.length (SpecSource.code x0)) : Nat) : Int))) * (31 : Int))))) x1), ()))))))))))

def spec_source_pick (N : Nat) (x0 : SpecSource) (x1 : Int) : Option (SpecSource × Int × Unit) := spec_source_pick.B N x0 x1

def spec_source_one.B (N : Nat) (x0 : SpecSource) (x1 : List (Int)) : Option (SpecSource × Int × Unit) :=
 bnd (spec_source_pick N x0 (((List.length x1) : Nat) : Int)) fun r2 =>
 gd (decide ((0 : Int) ≤ ((r2).2).1)) (
 gd (decide (((r2).2).1 < (((List.length x1) : Nat) : Int))) (
 some ((r2).1, (get x1 ((r2).2).1), ())))

def spec_source_one (N : Nat) (x0 : SpecSource) (x1 : List (Int)) : Option (SpecSource × Int × Unit) := spec_source_one.B N x0 x1

def spec_source_rarely.B (N : Nat) (x0 : SpecSource) : Option (SpecSource × Bool × Unit) :=
 bnd (spec_source_pick N x0 (40 : Int)) fun r1 =>
 some ((r1).1, (((r1).2).1 == (1 : Int)), ())

def spec_source_rarely (N : Nat) (x0 : SpecSource) : Option (SpecSource × Bool × Unit) := spec_source_rarely.B N x0

def spec_source_text.B0 (N : Nat) (G0 : SpecSource × (List UInt8) × Int × Unit → Option (SpecSource × (List UInt8) × Unit)) : SpecSource × (List UInt8) × Int × Unit → Option (SpecSource × (List UInt8) × Unit) :=
fun (x2, x3, x4, ()) =>
 br (decide (x4 > (0 : Int))) (
  bnd (spec_source_pick N x2 (6 : Int)) fun r6 =>
  gd (decide ((0 : Int) ≤ ((r6).2).1)) (
  gd (decide (((r6).2).1 < (((List.length ([([97] : List (UInt8)), ([98] : List (UInt8)), ([122, 57] : List (UInt8)), ([32] : List (UInt8)), ([48] : List (UInt8)), ([108, 111, 110, 103] : List (UInt8))] : List (List (UInt8)))) : Nat) : Int))) (
  gd (decide (((List.length x3) + (List.length (get ([([97] : List (UInt8)), ([98] : List (UInt8)), ([122, 57] : List (UInt8)), ([32] : List (UInt8)), ([48] : List (UInt8)), ([108, 111, 110, 103] : List (UInt8))] : List (List (UInt8))) ((r6).2).1))) < 68719476736)) (
  G0 ((r6).1, (x3 ++ (get ([([97] : List (UInt8)), ([98] : List (UInt8)), ([122, 57] : List (UInt8)), ([32] : List (UInt8)), ([48] : List (UInt8)), ([108, 111, 110, 103] : List (UInt8))] : List (List (UInt8))) ((r6).2).1)), (IntKind.i64.wrap (x4 - (1 : Int))), ()))))) (
  bnd (spec_source_rarely N x2) fun r7 =>
 br ((r7).2).1 (
  gd (decide (((List.length x3) + (List.length ([81] : List (UInt8)))) < 68719476736)) (
  some ((r7).1, (x3 ++ ([81] : List (UInt8))), ()))) (
  some ((r7).1, x3, ())))

def spec_source_text.B (N : Nat) (E0 : SpecSource × (List UInt8) × Int × Unit → Option (SpecSource × (List UInt8) × Unit)) (x0 : SpecSource) : Option (SpecSource × (List UInt8) × Unit) :=
 bnd (spec_source_pick N x0 (4 : Int)) fun r1 =>
 E0 ((r1).1, ([] : List (UInt8)), ((r1).2).1, ())

def spec_source_text.L0 (N : Nat) : Nat → SpecSource × (List UInt8) × Int × Unit → Option (SpecSource × (List UInt8) × Unit)
  | 0, _ => none
  | n + 1, x => spec_source_text.B0 N (spec_source_text.L0 N n) x

def spec_source_text (N : Nat) (x0 : SpecSource) : Option (SpecSource × (List UInt8) × Unit) := spec_source_text.B N (spec_source_text.L0 N N) x0

def spec_source_value.B (N : Nat) (x0 : SpecSource) : Option (SpecSource × ImplValue × Unit) :=
 bnd (spec_source_pick N x0 (6 : Int)) fun r1 =>
 br (((r1).2).1 == (0 : Int)) (
  some ((r1).1, (ImplValue.mk (0 : Int) (0 : Int) ([] : List (UInt8))), ())) (
  br (((r1).2).1 == (1 : Int)) (
  bnd (spec_source_text N (r1).1) fun r2 =>
  some ((r2).1, (ImplValue.mk (2 : Int) (0 : Int) ((r2).2).1), ())) (
  br (((r1).2).1 == (2 : Int)) (
  bnd (spec_source_one N (r1).1 ([(0 : Int), (1 : Int), (-(1 : Int)), (1000 : Int), (-(1000 : Int)), (500 : Int), (1001 : Int)] : List (Int))) fun r3 =>
  some ((r3).1, (ImplValue.mk (1 : Int) ((r3).2).1 ([] : List (UInt8))), ())) (
  bnd (spec_source_pick N (r1).1 (6 : Int)) fun r4 =>
 some ((r4).1, (ImplValue.mk (1 : Int) (IntKind.i64.wrap (((r4).2).1 - (1 : Int))) ([] : List (UInt8))), ()))))

def spec_source_value (N : Nat) (x0 : SpecSource) : Option (SpecSource × ImplValue × Unit) := spec_source_value.B N x0

def spec_inRange.B (N : Nat) (x0 : Int) (x1 : Int) (x2 : Int) : Option (Bool × Unit) :=
 br (decide (x0 ≥ x1)) (
  some ((decide (x0 ≤ x2)), ())) (
  some (false, ()))

def spec_inRange (N : Nat) (x0 : Int) (x1 : Int) (x2 : Int) : Option (Bool × Unit) := spec_inRange.B N x0 x1 x2

def spec_plainByte.B (N : Nat) (x0 : Int) : Option (Bool × Unit) :=
 br (decide (x0 ≥ (97 : Int))) (
  br (decide (x0 ≤ (122 : Int))) (
   some (true, ())) (
   br (decide (x0 ≥ (48 : Int))) (
   br (decide (x0 ≤ (57 : Int))) (
    some (true, ())) (
    some ((x0 == (32 : Int)), ()))) (
   some ((x0 == (32 : Int)), ())))) (
  br (decide (x0 ≥ (48 : Int))) (
  br (decide (x0 ≤ (57 : Int))) (
   some (true, ())) (
   some ((x0 == (32 : Int)), ()))) (
  some ((x0 == (32 : Int)), ())))

def spec_plainByte (N : Nat) (x0 : Int) : Option (Bool × Unit) := spec_plainByte.B N x0

def spec_validWord.B0 (N : Nat) (G0 : (List UInt8) × Int × Unit → Option (Bool × Unit)) : (List UInt8) × Int × Unit → Option (Bool × Unit) :=
fun (x1, x2, ()) =>
 br (decide (x2 < (((List.length x1) : Nat) : Int))) (
  gd (decide ((0 : Int) ≤ x2)) (
  gd (decide (x2 < (((List.length x1) : Nat) : Int))) (
  bnd (spec_plainByte N (((UInt8.toNat (List.getD x1 (Int.toNat x2) 0)) : Nat) : Int)) fun r4 =>
  br (!(r4).1) (
   some (false, ())) (
   G0 (x1, (IntKind.i64.wrap (x2 + (1 : Int))), ()))))) (
  some (true, ()))

def spec_validWord.B (N : Nat) (E0 : (List UInt8) × Int × Unit → Option (Bool × Unit)) (x0 : List UInt8) : Option (Bool × Unit) :=
 br (decide ((((List.length x0) : Nat) : Int) > (12 : Int))) (
  some (false, ())) (
  E0 (x0, (0 : Int), ()))

def spec_validWord.L0 (N : Nat) : Nat → (List UInt8) × Int × Unit → Option (Bool × Unit)
  | 0, _ => none
  | n + 1, x => spec_validWord.B0 N (spec_validWord.L0 N n) x

def spec_validWord (N : Nat) (x0 : List UInt8) : Option (Bool × Unit) := spec_validWord.B N (spec_validWord.L0 N N) x0

def spec_validValue.B (N : Nat) (x0 : ImplValue) : Option (Bool × Unit) :=
 br ((ImplValue.kind x0) == (0 : Int)) (
  br ((ImplValue.num x0) == (0 : Int)) (
   some (((ImplValue.text x0) == ([] : List (UInt8))), ())) (
   some (false, ()))) (
  br ((ImplValue.kind x0) == (1 : Int)) (
  bnd (spec_inRange N (ImplValue.num x0) (-(1000 : Int)) (1000 : Int)) fun r1 =>
  br (r1).1 (
   some (((ImplValue.text x0) == ([] : List (UInt8))), ())) (
   some (false, ()))) (
  br ((ImplValue.kind x0) == (2 : Int)) (
  br ((ImplValue.num x0) == (0 : Int)) (
   bnd (spec_validWord N (ImplValue.text x0)) fun r2 =>
   some ((r2).1, ())) (
   some (false, ()))) (
  some (false, ()))))

def spec_validValue (N : Nat) (x0 : ImplValue) : Option (Bool × Unit) := spec_validValue.B N x0

def spec_source_good.B (N : Nat) (x0 : SpecSource) : Option (SpecSource × ImplValue × Unit) :=
 bnd (spec_source_value N x0) fun r1 =>
 bnd (spec_validValue N ((r1).2).1) fun r2 =>
 br (!(r2).1) (
  some ((r1).1, (ImplValue.mk (1 : Int) (2 : Int) ([] : List (UInt8))), ())) (
  some ((r1).1, ((r1).2).1, ()))

def spec_source_good (N : Nat) (x0 : SpecSource) : Option (SpecSource × ImplValue × Unit) := spec_source_good.B N x0

def spec_keyless.B2 (N : Nat) (G0 : (List (ImplTree)) × Int × Unit → Option ((List (ImplTree)) × Unit)) (G2 : (List (ImplTree)) × Int × Int × Unit → Option ((List (ImplTree)) × Unit)) : (List (ImplTree)) × Int × Int × Unit → Option ((List (ImplTree)) × Unit) :=
fun (x4, x5, x6, ()) =>
 br (decide (x6 < x5)) (
  gd (decide ((0 : Int) ≤ x5)) (
  gd (decide (x5 < (((List.length x4) : Nat) : Int))) (
  br ((ImplTree.key (get x4 x5)) != (-(1 : Int))) (
   gd (decide ((0 : Int) ≤ x5)) (
   gd (decide (x5 < (((List.length x4) : Nat) : Int))) (
   gd (decide ((0 : Int) ≤ x6)) (
   gd (decide (x6 < (((List.length x4) : Nat) : Int))) (
   br ((ImplTree.key (get x4 x5)) == (ImplTree.key (get x4 x6))) (
    gd (decide ((0 : Int) ≤ x5)) (
    gd (decide (x5 < (((List.length x4) : Nat) : Int))) (
    G2 ((List.set x4 (Int.toNat x5) (ImplTree.mk (ImplTree.tag (get x4 x5)) (-(1 : Int)) (ImplTree.text (get x4 x5)) (ImplTree.props (get x4 x5)) (ImplTree.kids (get x4 x5)))), x5, (IntKind.i64.wrap (x6 + (1 : Int))), ())))) (
    G2 (x4, x5, (IntKind.i64.wrap (x6 + (1 : Int))), ()))))))) (
   G2 (x4, x5, (IntKind.i64.wrap (x6 + (1 : Int))), ()))))) (
  G0 (x4, (IntKind.i64.wrap (x5 + (1 : Int))), ()))

def spec_keyless.B0 (N : Nat) (E2 : (List (ImplTree)) × Int × Int × Unit → Option ((List (ImplTree)) × Unit)) : (List (ImplTree)) × Int × Unit → Option ((List (ImplTree)) × Unit) :=
fun (x1, x2, ()) =>
 br (decide (x2 < (((List.length x1) : Nat) : Int))) (
  E2 (x1, x2, (0 : Int), ())) (
  some (x1, ()))

def spec_keyless.B (N : Nat) (E0 : (List (ImplTree)) × Int × Unit → Option ((List (ImplTree)) × Unit)) (x0 : List (ImplTree)) : Option ((List (ImplTree)) × Unit) :=
 E0 (x0, (0 : Int), ())

def spec_keyless.L2 (N : Nat) (G0 : (List (ImplTree)) × Int × Unit → Option ((List (ImplTree)) × Unit)) : Nat → (List (ImplTree)) × Int × Int × Unit → Option ((List (ImplTree)) × Unit)
  | 0, _ => none
  | n + 1, x => spec_keyless.B2 N G0 (spec_keyless.L2 N G0 n) x

def spec_keyless.L0 (N : Nat) : Nat → (List (ImplTree)) × Int × Unit → Option ((List (ImplTree)) × Unit)
  | 0, _ => none
  | n + 1, x => spec_keyless.B0 N (spec_keyless.L2 N (spec_keyless.L0 N n) N) x

def spec_keyless (N : Nat) (x0 : List (ImplTree)) : Option ((List (ImplTree)) × Unit) := spec_keyless.B N (spec_keyless.L0 N N) x0

def spec_source_tree.B4 (N : Nat) (R_spec_source_tree : SpecSource → Int → Option (SpecSource × ImplTree × Unit)) (G4 : SpecSource × ImplTree × ImplTree × Int × Unit → Option (SpecSource × ImplTree × Unit)) : SpecSource × ImplTree × ImplTree × Int × Unit → Option (SpecSource × ImplTree × Unit) :=
fun (x25, x26, x27, x28, ()) =>
 br (decide (x28 < (((List.length (ImplTree.kids x27)) : Nat) : Int))) (
  gd (decide ((0 : Int) ≤ x28)) (
  gd (decide (x28 < (((List.length (ImplTree.kids x27)) : Nat) : Int))) (
  br ((ImplTree.tag (get (ImplTree.kids x27) x28)) == (-(1 : Int))) (
   gd (decide ((0 : Int) ≤ x28)) (
   gd (decide (x28 < (((List.length (ImplTree.kids x27)) : Nat) : Int))) (
   G4 (x25, (ImplTree.mk (ImplTree.tag x26) (ImplTree.key x26) (ImplTree.text x26) (ImplTree.props x26) (ImplTree.kids x26)), (ImplTree.mk (ImplTree.tag x27) (ImplTree.key x27) (ImplTree.text x27) (ImplTree.props x27) (List.set (ImplTree.kids x27) (Int.toNat x28) (ImplTree.mk (ImplTree.tag (get (ImplTree.kids x27) x28)) (-(1 : Int)) (ImplTree.text (get (ImplTree.kids x27) x28)) (ImplTree.props (get (ImplTree.kids x27) x28)) (ImplTree.kids (get (ImplTree.kids x27) x28))))), (IntKind.i64.wrap (x28 + (1 : Int))), ())))) (
   G4 (x25, (ImplTree.mk (ImplTree.tag x26) (ImplTree.key x26) (ImplTree.text x26) (ImplTree.props x26) (ImplTree.kids x26)), (ImplTree.mk (ImplTree.tag x27) (ImplTree.key x27) (ImplTree.text x27) (ImplTree.props x27) (ImplTree.kids x27)), (IntKind.i64.wrap (x28 + (1 : Int))), ()))))) (
  bnd (spec_source_rarely N x25) fun r30 =>
 br ((r30).2).1 (
  some ((r30).1, (ImplTree.mk (ImplTree.tag x27) (100 : Int) (ImplTree.text x27) (ImplTree.props x27) (ImplTree.kids x27)), ())) (
  some ((r30).1, (ImplTree.mk (ImplTree.tag x27) (ImplTree.key x27) (ImplTree.text x27) (ImplTree.props x27) (ImplTree.kids x27)), ())))

def spec_source_tree.B2 (N : Nat) (R_spec_source_tree : SpecSource → Int → Option (SpecSource × ImplTree × Unit)) (G2 : SpecSource × Int × ImplTree × ImplTree × Int × Unit → Option (SpecSource × ImplTree × Unit)) (E4 : SpecSource × ImplTree × ImplTree × Int × Unit → Option (SpecSource × ImplTree × Unit)) : SpecSource × Int × ImplTree × ImplTree × Int × Unit → Option (SpecSource × ImplTree × Unit) :=
fun (x16, x17, x18, x19, x20, ()) =>
 br (decide (x20 > (0 : Int))) (
  bnd (spec_source_pick N x16 (2 : Int)) fun r22 =>
  bnd (R_spec_source_tree (r22).1 (IntKind.i64.wrap ((IntKind.i64.wrap (x17 - (1 : Int))) - ((r22).2).1))) fun r23 =>
  gd (decide (((List.length (ImplTree.kids x19)) + (List.length ([(ImplTree.mk (ImplTree.tag ((r23).2).1) (ImplTree.key ((r23).2).1) (ImplTree.text ((r23).2).1) (ImplTree.props ((r23).2).1) (ImplTree.kids ((r23).2).1))] : List (ImplTree)))) < 68719476736)) (
  G2 ((r23).1, x17, (ImplTree.mk (ImplTree.tag x18) (ImplTree.key x18) (ImplTree.text x18) (ImplTree.props x18) (ImplTree.kids x18)), (ImplTree.mk (ImplTree.tag x19) (ImplTree.key x19) (ImplTree.text x19) (ImplTree.props x19) ((ImplTree.kids x19) ++ ([(ImplTree.mk (ImplTree.tag ((r23).2).1) (ImplTree.key ((r23).2).1) (ImplTree.text ((r23).2).1) (ImplTree.props ((r23).2).1) (ImplTree.kids ((r23).2).1))] : List (ImplTree)))), (IntKind.i64.wrap (x20 - (1 : Int))), ()))) (
  bnd (spec_keyless N (ImplTree.kids x19)) fun r24 =>
 E4 (x16, (ImplTree.mk (ImplTree.tag x18) (ImplTree.key x18) (ImplTree.text x18) (ImplTree.props x18) (ImplTree.kids x18)), (ImplTree.mk (ImplTree.tag x19) (ImplTree.key x19) (ImplTree.text x19) (ImplTree.props x19) (r24).1), (0 : Int), ()))

def spec_source_tree.B0 (N : Nat) (R_spec_source_tree : SpecSource → Int → Option (SpecSource × ImplTree × Unit)) (G0 : SpecSource × Int × ImplTree × ImplTree × Int × Unit → Option (SpecSource × ImplTree × Unit)) (E2 : SpecSource × Int × ImplTree × ImplTree × Int × Unit → Option (SpecSource × ImplTree × Unit)) : SpecSource × Int × ImplTree × ImplTree × Int × Unit → Option (SpecSource × ImplTree × Unit) :=
fun (x7, x8, x9, x10, x11, ()) =>
 br (decide (x11 < (4 : Int))) (
  bnd (spec_source_pick N x7 (3 : Int)) fun r13 =>
  br (((r13).2).1 == (0 : Int)) (
   bnd (spec_source_good N (r13).1) fun r14 =>
   gd (decide (((List.length (ImplTree.props x10)) + (List.length ([(ImplProp.mk x11 (ImplValue.kind ((r14).2).1) (ImplValue.num ((r14).2).1) (ImplValue.text ((r14).2).1))] : List (ImplProp)))) < 68719476736)) (
   G0 ((r14).1, x8, (ImplTree.mk (ImplTree.tag x9) (ImplTree.key x9) (ImplTree.text x9) (ImplTree.props x9) (ImplTree.kids x9)), (ImplTree.mk (ImplTree.tag x10) (ImplTree.key x10) (ImplTree.text x10) ((ImplTree.props x10) ++ ([(ImplProp.mk x11 (ImplValue.kind ((r14).2).1) (ImplValue.num ((r14).2).1) (ImplValue.text ((r14).2).1))] : List (ImplProp))) (ImplTree.kids x10)), (IntKind.i64.wrap (x11 + (1 : Int))), ()))) (
   G0 ((r13).1, x8, (ImplTree.mk (ImplTree.tag x9) (ImplTree.key x9) (ImplTree.text x9) (ImplTree.props x9) (ImplTree.kids x9)), (ImplTree.mk (ImplTree.tag x10) (ImplTree.key x10) (ImplTree.text x10) (ImplTree.props x10) (ImplTree.kids x10)), (IntKind.i64.wrap (x11 + (1 : Int))), ()))) (
  bnd (spec_source_pick N x7 (5 : Int)) fun r15 =>
 E2 ((r15).1, x8, (ImplTree.mk (ImplTree.tag x9) (ImplTree.key x9) (ImplTree.text x9) (ImplTree.props x9) (ImplTree.kids x9)), (ImplTree.mk (ImplTree.tag x10) (ImplTree.key x10) (ImplTree.text x10) (ImplTree.props x10) (ImplTree.kids x10)), ((r15).2).1, ()))

def spec_source_tree.B (N : Nat) (R_spec_source_tree : SpecSource → Int → Option (SpecSource × ImplTree × Unit)) (E0 : SpecSource × Int × ImplTree × ImplTree × Int × Unit → Option (SpecSource × ImplTree × Unit)) (x0 : SpecSource) (x1 : Int) : Option (SpecSource × ImplTree × Unit) :=
 br (decide (x1 ≤ (0 : Int))) (
  bnd (spec_source_pick N x0 (4 : Int)) fun r2 =>
  gd (decide ((0 : Int) ≤ ((r2).2).1)) (
  gd (decide (((r2).2).1 < (((List.length ([([] : List (UInt8)), ([97] : List (UInt8)), ([98, 32, 99] : List (UInt8)), ([108, 111, 110, 103, 32, 116, 101, 120, 116, 32, 49, 50] : List (UInt8))] : List (List (UInt8)))) : Nat) : Int))) (
  some ((r2).1, (ImplTree.mk (-(1 : Int)) (-(1 : Int)) (get ([([] : List (UInt8)), ([97] : List (UInt8)), ([98, 32, 99] : List (UInt8)), ([108, 111, 110, 103, 32, 116, 101, 120, 116, 32, 49, 50] : List (UInt8))] : List (List (UInt8))) ((r2).2).1) ([] : List (ImplProp)) ([] : List (ImplTree))), ())))) (
  bnd (spec_source_pick N x0 (4 : Int)) fun r3 =>
 br (((r3).2).1 == (0 : Int)) (
  bnd (spec_source_pick N (r3).1 (4 : Int)) fun r4 =>
  gd (decide ((0 : Int) ≤ ((r4).2).1)) (
  gd (decide (((r4).2).1 < (((List.length ([([] : List (UInt8)), ([97] : List (UInt8)), ([98, 32, 99] : List (UInt8)), ([108, 111, 110, 103, 32, 116, 101, 120, 116, 32, 49, 50] : List (UInt8))] : List (List (UInt8)))) : Nat) : Int))) (
  some ((r4).1, (ImplTree.mk (-(1 : Int)) (-(1 : Int)) (get ([([] : List (UInt8)), ([97] : List (UInt8)), ([98, 32, 99] : List (UInt8)), ([108, 111, 110, 103, 32, 116, 101, 120, 116, 32, 49, 50] : List (UInt8))] : List (List (UInt8))) ((r4).2).1) ([] : List (ImplProp)) ([] : List (ImplTree))), ())))) (
  bnd (spec_source_pick N (r3).1 (5 : Int)) fun r5 =>
 bnd (spec_source_one N (r5).1 ([(-(1 : Int)), (-(1 : Int)), (0 : Int), (1 : Int), (2 : Int), (50 : Int), (99 : Int)] : List (Int))) fun r6 =>
 E0 ((r6).1, x1, (ImplTree.mk (0 : Int) (0 : Int) ([] : List (UInt8)) ([] : List (ImplProp)) ([] : List (ImplTree))), (ImplTree.mk ((r5).2).1 ((r6).2).1 ([] : List (UInt8)) ([] : List (ImplProp)) ([] : List (ImplTree))), (0 : Int), ())))

def spec_source_tree.L4 (N : Nat) (R_spec_source_tree : SpecSource → Int → Option (SpecSource × ImplTree × Unit)) : Nat → SpecSource × ImplTree × ImplTree × Int × Unit → Option (SpecSource × ImplTree × Unit)
  | 0, _ => none
  | n + 1, x => spec_source_tree.B4 N R_spec_source_tree (spec_source_tree.L4 N R_spec_source_tree n) x

def spec_source_tree.L2 (N : Nat) (R_spec_source_tree : SpecSource → Int → Option (SpecSource × ImplTree × Unit)) : Nat → SpecSource × Int × ImplTree × ImplTree × Int × Unit → Option (SpecSource × ImplTree × Unit)
  | 0, _ => none
  | n + 1, x => spec_source_tree.B2 N R_spec_source_tree (spec_source_tree.L2 N R_spec_source_tree n) (spec_source_tree.L4 N R_spec_source_tree N) x

def spec_source_tree.L0 (N : Nat) (R_spec_source_tree : SpecSource → Int → Option (SpecSource × ImplTree × Unit)) : Nat → SpecSource × Int × ImplTree × ImplTree × Int × Unit → Option (SpecSource × ImplTree × Unit)
  | 0, _ => none
  | n + 1, x => spec_source_tree.B0 N R_spec_source_tree (spec_source_tree.L0 N R_spec_source_tree n) (spec_source_tree.L2 N R_spec_source_tree N) x

def spec_source_tree.R (N : Nat) : Nat → SpecSource → Int → Option (SpecSource × ImplTree × Unit)
  | 0, _, _ => none
  | d + 1, x0, x1 => spec_source_tree.B N (spec_source_tree.R N d) (spec_source_tree.L0 N (spec_source_tree.R N d) N) x0 x1

def spec_source_tree (N : Nat) (x0 : SpecSource) (x1 : Int) : Option (SpecSource × ImplTree × Unit) := spec_source_tree.R N N x0 x1

def spec_source_whole.B (N : Nat) (x0 : SpecSource) : Option (SpecSource × ImplTree × Unit) :=
 bnd (spec_source_tree N x0 (4 : Int)) fun r1 =>
 br ((ImplTree.tag ((r1).2).1) == (-(1 : Int))) (
  bnd (spec_source_pick N (r1).1 (5 : Int)) fun r2 =>
  br (decide (((r2).2).1 > (0 : Int))) (
   bnd (spec_source_tree N (r2).1 (2 : Int)) fun r3 =>
   some ((r3).1, (ImplTree.mk (0 : Int) (-(1 : Int)) ([] : List (UInt8)) ([] : List (ImplProp)) ([(ImplTree.mk (ImplTree.tag ((r1).2).1) (ImplTree.key ((r1).2).1) (ImplTree.text ((r1).2).1) (ImplTree.props ((r1).2).1) (ImplTree.kids ((r1).2).1)), (ImplTree.mk (ImplTree.tag ((r3).2).1) (ImplTree.key ((r3).2).1) (ImplTree.text ((r3).2).1) (ImplTree.props ((r3).2).1) (ImplTree.kids ((r3).2).1))] : List (ImplTree))), ())) (
   some ((r2).1, (ImplTree.mk (ImplTree.tag ((r1).2).1) (ImplTree.key ((r1).2).1) (ImplTree.text ((r1).2).1) (ImplTree.props ((r1).2).1) (ImplTree.kids ((r1).2).1)), ()))) (
  some ((r1).1, (ImplTree.mk (ImplTree.tag ((r1).2).1) (ImplTree.key ((r1).2).1) (ImplTree.text ((r1).2).1) (ImplTree.props ((r1).2).1) (ImplTree.kids ((r1).2).1)), ()))

def spec_source_whole (N : Nat) (x0 : SpecSource) : Option (SpecSource × ImplTree × Unit) := spec_source_whole.B N x0

def spec_copyTree.B0 (N : Nat) (R_spec_copyTree : ImplTree → Option (ImplTree × Unit)) (G0 : ImplTree × ImplTree × ImplTree × Int × Unit → Option (ImplTree × Unit)) : ImplTree × ImplTree × ImplTree × Int × Unit → Option (ImplTree × Unit) :=
fun (x1, x2, x3, x4, ()) =>
 br (decide (x4 < (((List.length (ImplTree.kids x1)) : Nat) : Int))) (
  gd (decide ((0 : Int) ≤ x4)) (
  gd (decide (x4 < (((List.length (ImplTree.kids x1)) : Nat) : Int))) (
  bnd (R_spec_copyTree (ImplTree.mk (ImplTree.tag (get (ImplTree.kids x1) x4)) (ImplTree.key (get (ImplTree.kids x1) x4)) (ImplTree.text (get (ImplTree.kids x1) x4)) (ImplTree.props (get (ImplTree.kids x1) x4)) (ImplTree.kids (get (ImplTree.kids x1) x4)))) fun r6 =>
  gd (decide (((List.length (ImplTree.kids x3)) + (List.length ([(ImplTree.mk (ImplTree.tag (r6).1) (ImplTree.key (r6).1) (ImplTree.text (r6).1) (ImplTree.props (r6).1) (ImplTree.kids (r6).1))] : List (ImplTree)))) < 68719476736)) (
  G0 ((ImplTree.mk (ImplTree.tag x1) (ImplTree.key x1) (ImplTree.text x1) (ImplTree.props x1) (ImplTree.kids x1)), (ImplTree.mk (ImplTree.tag x2) (ImplTree.key x2) (ImplTree.text x2) (ImplTree.props x2) (ImplTree.kids x2)), (ImplTree.mk (ImplTree.tag x3) (ImplTree.key x3) (ImplTree.text x3) (ImplTree.props x3) ((ImplTree.kids x3) ++ ([(ImplTree.mk (ImplTree.tag (r6).1) (ImplTree.key (r6).1) (ImplTree.text (r6).1) (ImplTree.props (r6).1) (ImplTree.kids (r6).1))] : List (ImplTree)))), (IntKind.i64.wrap (x4 + (1 : Int))), ()))))) (
  some ((ImplTree.mk (ImplTree.tag x3) (ImplTree.key x3) (ImplTree.text x3) (ImplTree.props x3) (ImplTree.kids x3)), ()))

def spec_copyTree.B (N : Nat) (R_spec_copyTree : ImplTree → Option (ImplTree × Unit)) (E0 : ImplTree × ImplTree × ImplTree × Int × Unit → Option (ImplTree × Unit)) (x0 : ImplTree) : Option (ImplTree × Unit) :=
 gd (decide (((List.length ([] : List (ImplProp))) + (List.length (ImplTree.props x0))) < 68719476736)) (
 E0 ((ImplTree.mk (ImplTree.tag x0) (ImplTree.key x0) (ImplTree.text x0) (ImplTree.props x0) (ImplTree.kids x0)), (ImplTree.mk (0 : Int) (0 : Int) ([] : List (UInt8)) ([] : List (ImplProp)) ([] : List (ImplTree))), (ImplTree.mk (ImplTree.tag x0) (ImplTree.key x0) (ImplTree.text x0) (([] : List (ImplProp)) ++ (ImplTree.props x0)) ([] : List (ImplTree))), (0 : Int), ()))

def spec_copyTree.L0 (N : Nat) (R_spec_copyTree : ImplTree → Option (ImplTree × Unit)) : Nat → ImplTree × ImplTree × ImplTree × Int × Unit → Option (ImplTree × Unit)
  | 0, _ => none
  | n + 1, x => spec_copyTree.B0 N R_spec_copyTree (spec_copyTree.L0 N R_spec_copyTree n) x

def spec_copyTree.R (N : Nat) : Nat → ImplTree → Option (ImplTree × Unit)
  | 0, _ => none
  | d + 1, x0 => spec_copyTree.B N (spec_copyTree.R N d) (spec_copyTree.L0 N (spec_copyTree.R N d) N) x0

def spec_copyTree (N : Nat) (x0 : ImplTree) : Option (ImplTree × Unit) := spec_copyTree.R N N x0

def spec_source_turnedTree.B5 (N : Nat) (R_spec_source_turnedTree : SpecSource → ImplTree → Int → Option (SpecSource × ImplTree × Unit)) (G5 : SpecSource × ImplTree × ImplTree × Int × Unit → Option (SpecSource × ImplTree × Unit)) : SpecSource × ImplTree × ImplTree × Int × Unit → Option (SpecSource × ImplTree × Unit) :=
fun (x33, x34, x35, x36, ()) =>
 br (decide (x36 < (((List.length (ImplTree.kids x35)) : Nat) : Int))) (
  gd (decide ((0 : Int) ≤ x36)) (
  gd (decide (x36 < (((List.length (ImplTree.kids x35)) : Nat) : Int))) (
  br ((ImplTree.tag (get (ImplTree.kids x35) x36)) == (-(1 : Int))) (
   gd (decide ((0 : Int) ≤ x36)) (
   gd (decide (x36 < (((List.length (ImplTree.kids x35)) : Nat) : Int))) (
   G5 (x33, (ImplTree.mk (ImplTree.tag x34) (ImplTree.key x34) (ImplTree.text x34) (ImplTree.props x34) (ImplTree.kids x34)), (ImplTree.mk (ImplTree.tag x35) (ImplTree.key x35) (ImplTree.text x35) (ImplTree.props x35) (List.set (ImplTree.kids x35) (Int.toNat x36) (ImplTree.mk (ImplTree.tag (get (ImplTree.kids x35) x36)) (-(1 : Int)) (ImplTree.text (get (ImplTree.kids x35) x36)) (ImplTree.props (get (ImplTree.kids x35) x36)) (ImplTree.kids (get (ImplTree.kids x35) x36))))), (IntKind.i64.wrap (x36 + (1 : Int))), ())))) (
   G5 (x33, (ImplTree.mk (ImplTree.tag x34) (ImplTree.key x34) (ImplTree.text x34) (ImplTree.props x34) (ImplTree.kids x34)), (ImplTree.mk (ImplTree.tag x35) (ImplTree.key x35) (ImplTree.text x35) (ImplTree.props x35) (ImplTree.kids x35)), (IntKind.i64.wrap (x36 + (1 : Int))), ()))))) (
  some (x33, (ImplTree.mk (ImplTree.tag x35) (ImplTree.key x35) (ImplTree.text x35) (ImplTree.props x35) (ImplTree.kids x35)), ()))

def spec_source_turnedTree.J28 (N : Nat) (R_spec_source_turnedTree : SpecSource → ImplTree → Int → Option (SpecSource × ImplTree × Unit)) (E5 : SpecSource × ImplTree × ImplTree × Int × Unit → Option (SpecSource × ImplTree × Unit)) : SpecSource × ImplTree × ImplTree × Unit → Option (SpecSource × ImplTree × Unit) :=
fun (x29, x30, x31, ()) =>
 bnd (spec_keyless N (ImplTree.kids x31)) fun r32 =>
 E5 (x29, (ImplTree.mk (ImplTree.tag x30) (ImplTree.key x30) (ImplTree.text x30) (ImplTree.props x30) (ImplTree.kids x30)), (ImplTree.mk (ImplTree.tag x31) (ImplTree.key x31) (ImplTree.text x31) (ImplTree.props x31) (r32).1), (0 : Int), ())

def spec_source_turnedTree.J26 (N : Nat) (R_spec_source_turnedTree : SpecSource → ImplTree → Int → Option (SpecSource × ImplTree × Unit)) (E5 : SpecSource × ImplTree × ImplTree × Int × Unit → Option (SpecSource × ImplTree × Unit)) : SpecSource × ImplTree × ImplTree × Unit → Option (SpecSource × ImplTree × Unit) :=
fun (x25, x26, x27, ()) =>
 bnd (spec_source_pick N x25 (6 : Int)) fun r28 =>
 br (((r28).2).1 == (0 : Int)) (
  br (decide ((((List.length (ImplTree.props x27)) : Nat) : Int) > (0 : Int))) (
   gd (decide ((1 : Int) ≤ (((List.length (ImplTree.props x27)) : Nat) : Int))) (
   gd (decide ((((List.length (ImplTree.props x27)) : Nat) : Int) ≤ (((List.length (ImplTree.props x27)) : Nat) : Int))) (
   spec_source_turnedTree.J28 N R_spec_source_turnedTree E5 ((r28).1, (ImplTree.mk (ImplTree.tag x26) (ImplTree.key x26) (ImplTree.text x26) (ImplTree.props x26) (ImplTree.kids x26)), (ImplTree.mk (ImplTree.tag x27) (ImplTree.key x27) (ImplTree.text x27) (sub (ImplTree.props x27) (1 : Int) (((List.length (ImplTree.props x27)) : Nat) : Int)) (ImplTree.kids x27)), ())))) (
   spec_source_turnedTree.J28 N R_spec_source_turnedTree E5 ((r28).1, (ImplTree.mk (ImplTree.tag x26) (ImplTree.key x26) (ImplTree.text x26) (ImplTree.props x26) (ImplTree.kids x26)), (ImplTree.mk (ImplTree.tag x27) (ImplTree.key x27) (ImplTree.text x27) (ImplTree.props x27) (ImplTree.kids x27)), ()))) (
  spec_source_turnedTree.J28 N R_spec_source_turnedTree E5 ((r28).1, (ImplTree.mk (ImplTree.tag x26) (ImplTree.key x26) (ImplTree.text x26) (ImplTree.props x26) (ImplTree.kids x26)), (ImplTree.mk (ImplTree.tag x27) (ImplTree.key x27) (ImplTree.text x27) (ImplTree.props x27) (ImplTree.kids x27)), ()))

def spec_source_turnedTree.B2 (N : Nat) (R_spec_source_turnedTree : SpecSource → ImplTree → Int → Option (SpecSource × ImplTree × Unit)) (G2 : SpecSource × ImplTree × ImplTree × Int × Unit → Option (SpecSource × ImplTree × Unit)) (E5 : SpecSource × ImplTree × ImplTree × Int × Unit → Option (SpecSource × ImplTree × Unit)) : SpecSource × ImplTree × ImplTree × Int × Unit → Option (SpecSource × ImplTree × Unit) :=
fun (x14, x15, x16, x17, ()) =>
 br (decide (x17 > (0 : Int))) (
  br (decide ((((List.length (ImplTree.kids x16)) : Nat) : Int) > (0 : Int))) (
   bnd (spec_source_pick N x14 (((List.length (ImplTree.kids x16)) : Nat) : Int)) fun r19 =>
   bnd (spec_source_pick N (r19).1 (((List.length (ImplTree.kids x16)) : Nat) : Int)) fun r20 =>
   bnd (spec_source_pick N (r20).1 (4 : Int)) fun r21 =>
   br (((r21).2).1 == (0 : Int)) (
    gd (decide ((0 : Int) ≤ ((r19).2).1)) (
    gd (decide (((r19).2).1 ≤ (((List.length (ImplTree.kids x16)) : Nat) : Int))) (
    gd (decide (((List.length ([] : List (ImplTree))) + (List.length (sub (ImplTree.kids x16) (0 : Int) ((r19).2).1))) < 68719476736)) (
    gd (decide ((0 : Int) ≤ (IntKind.i64.wrap (((r19).2).1 + (1 : Int))))) (
    gd (decide ((IntKind.i64.wrap (((r19).2).1 + (1 : Int))) ≤ (((List.length (ImplTree.kids x16)) : Nat) : Int))) (
    gd (decide ((((List.length (ImplTree.kids x16)) : Nat) : Int) ≤ (((List.length (ImplTree.kids x16)) : Nat) : Int))) (
    gd (decide (((List.length (([] : List (ImplTree)) ++ (sub (ImplTree.kids x16) (0 : Int) ((r19).2).1))) + (List.length (sub (ImplTree.kids x16) (IntKind.i64.wrap (((r19).2).1 + (1 : Int))) (((List.length (ImplTree.kids x16)) : Nat) : Int)))) < 68719476736)) (
    G2 ((r21).1, (ImplTree.mk (ImplTree.tag x15) (ImplTree.key x15) (ImplTree.text x15) (ImplTree.props x15) (ImplTree.kids x15)), (ImplTree.mk (ImplTree.tag x16) (ImplTree.key x16) (ImplTree.text x16) (ImplTree.props x16) ((([] : List (ImplTree)) ++ (sub (ImplTree.kids x16) (0 : Int) ((r19).2).1)) ++ (sub (ImplTree.kids x16) (IntKind.i64.wrap (((r19).2).1 + (1 : Int))) (((List.length (ImplTree.kids x16)) : Nat) : Int)))), (IntKind.i64.wrap (x17 - (1 : Int))), ()))))))))) (
    br (((r21).2).1 == (1 : Int)) (
    gd (decide ((0 : Int) ≤ ((r19).2).1)) (
    gd (decide (((r19).2).1 ≤ (((List.length (ImplTree.kids x16)) : Nat) : Int))) (
    gd (decide (((List.length ([] : List (ImplTree))) + (List.length (sub (ImplTree.kids x16) (0 : Int) ((r19).2).1))) < 68719476736)) (
    bnd (spec_source_tree N (r21).1 (1 : Int)) fun r22 =>
    gd (decide (((List.length (([] : List (ImplTree)) ++ (sub (ImplTree.kids x16) (0 : Int) ((r19).2).1))) + (List.length ([(ImplTree.mk (ImplTree.tag ((r22).2).1) (ImplTree.key ((r22).2).1) (ImplTree.text ((r22).2).1) (ImplTree.props ((r22).2).1) (ImplTree.kids ((r22).2).1))] : List (ImplTree)))) < 68719476736)) (
    gd (decide ((0 : Int) ≤ ((r19).2).1)) (
    gd (decide (((r19).2).1 ≤ (((List.length (ImplTree.kids x16)) : Nat) : Int))) (
    gd (decide ((((List.length (ImplTree.kids x16)) : Nat) : Int) ≤ (((List.length (ImplTree.kids x16)) : Nat) : Int))) (
    gd (decide (((List.length ((([] : List (ImplTree)) ++ (sub (ImplTree.kids x16) (0 : Int) ((r19).2).1)) ++ ([(ImplTree.mk (ImplTree.tag ((r22).2).1) (ImplTree.key ((r22).2).1) (ImplTree.text ((r22).2).1) (ImplTree.props ((r22).2).1) (ImplTree.kids ((r22).2).1))] : List (ImplTree)))) + (List.length (sub (ImplTree.kids x16) ((r19).2).1 (((List.length (ImplTree.kids x16)) : Nat) : Int)))) < 68719476736)) (
    G2 ((r22).1, (ImplTree.mk (ImplTree.tag x15) (ImplTree.key x15) (ImplTree.text x15) (ImplTree.props x15) (ImplTree.kids x15)), (ImplTree.mk (ImplTree.tag x16) (ImplTree.key x16) (ImplTree.text x16) (ImplTree.props x16) (((([] : List (ImplTree)) ++ (sub (ImplTree.kids x16) (0 : Int) ((r19).2).1)) ++ ([(ImplTree.mk (ImplTree.tag ((r22).2).1) (ImplTree.key ((r22).2).1) (ImplTree.text ((r22).2).1) (ImplTree.props ((r22).2).1) (ImplTree.kids ((r22).2).1))] : List (ImplTree))) ++ (sub (ImplTree.kids x16) ((r19).2).1 (((List.length (ImplTree.kids x16)) : Nat) : Int)))), (IntKind.i64.wrap (x17 - (1 : Int))), ())))))))))) (
    gd (decide ((0 : Int) ≤ ((r19).2).1)) (
   gd (decide (((r19).2).1 < (((List.length (ImplTree.kids x16)) : Nat) : Int))) (
   gd (decide ((0 : Int) ≤ ((r20).2).1)) (
   gd (decide (((r20).2).1 < (((List.length (ImplTree.kids x16)) : Nat) : Int))) (
   gd (decide ((0 : Int) ≤ ((r19).2).1)) (
   gd (decide (((r19).2).1 < (((List.length (ImplTree.kids x16)) : Nat) : Int))) (
   gd (decide ((0 : Int) ≤ ((r20).2).1)) (
   gd (decide (((r20).2).1 < (((List.length (List.set (ImplTree.kids x16) (Int.toNat ((r19).2).1) (ImplTree.mk (ImplTree.tag (get (ImplTree.kids x16) ((r20).2).1)) (ImplTree.key (get (ImplTree.kids x16) ((r20).2).1)) (ImplTree.text (get (ImplTree.kids x16) ((r20).2).1)) (ImplTree.props (get (ImplTree.kids x16) ((r20).2).1)) (ImplTree.kids (get (ImplTree.kids x16) ((r20).2).1))))) : Nat) : Int))) (
   G2 ((r21).1, (ImplTree.mk (ImplTree.tag x15) (ImplTree.key x15) (ImplTree.text x15) (ImplTree.props x15) (ImplTree.kids x15)), (ImplTree.mk (ImplTree.tag x16) (ImplTree.key x16) (ImplTree.text x16) (ImplTree.props x16) (List.set (List.set (ImplTree.kids x16) (Int.toNat ((r19).2).1) (ImplTree.mk (ImplTree.tag (get (ImplTree.kids x16) ((r20).2).1)) (ImplTree.key (get (ImplTree.kids x16) ((r20).2).1)) (ImplTree.text (get (ImplTree.kids x16) ((r20).2).1)) (ImplTree.props (get (ImplTree.kids x16) ((r20).2).1)) (ImplTree.kids (get (ImplTree.kids x16) ((r20).2).1)))) (Int.toNat ((r20).2).1) (ImplTree.mk (ImplTree.tag (get (ImplTree.kids x16) ((r19).2).1)) (ImplTree.key (get (ImplTree.kids x16) ((r19).2).1)) (ImplTree.text (get (ImplTree.kids x16) ((r19).2).1)) (ImplTree.props (get (ImplTree.kids x16) ((r19).2).1)) (ImplTree.kids (get (ImplTree.kids x16) ((r19).2).1))))), (IntKind.i64.wrap (x17 - (1 : Int))), ())))))))))))) (
   bnd (spec_source_pick N x14 (4 : Int)) fun r23 =>
  br (((r23).2).1 == (0 : Int)) (
   br (decide ((((List.length (ImplTree.props x16)) : Nat) : Int) > (0 : Int))) (
    bnd (spec_source_good N (r23).1) fun r24 =>
    gd (decide ((0 : Int) < (((List.length (ImplTree.props x16)) : Nat) : Int))) (
    spec_source_turnedTree.J26 N R_spec_source_turnedTree E5 ((r24).1, (ImplTree.mk (ImplTree.tag x15) (ImplTree.key x15) (ImplTree.text x15) (ImplTree.props x15) (ImplTree.kids x15)), (ImplTree.mk (ImplTree.tag x16) (ImplTree.key x16) (ImplTree.text x16) (List.set (ImplTree.props x16) (Int.toNat (0 : Int)) (ImplProp.mk (ImplProp.name (get (ImplTree.props x16) (0 : Int))) (ImplValue.kind ((r24).2).1) (ImplValue.num ((r24).2).1) (ImplValue.text ((r24).2).1))) (ImplTree.kids x16)), ()))) (
    spec_source_turnedTree.J26 N R_spec_source_turnedTree E5 ((r23).1, (ImplTree.mk (ImplTree.tag x15) (ImplTree.key x15) (ImplTree.text x15) (ImplTree.props x15) (ImplTree.kids x15)), (ImplTree.mk (ImplTree.tag x16) (ImplTree.key x16) (ImplTree.text x16) (ImplTree.props x16) (ImplTree.kids x16)), ()))) (
   spec_source_turnedTree.J26 N R_spec_source_turnedTree E5 ((r23).1, (ImplTree.mk (ImplTree.tag x15) (ImplTree.key x15) (ImplTree.text x15) (ImplTree.props x15) (ImplTree.kids x15)), (ImplTree.mk (ImplTree.tag x16) (ImplTree.key x16) (ImplTree.text x16) (ImplTree.props x16) (ImplTree.kids x16)), ())))) (
  bnd (spec_source_pick N x14 (4 : Int)) fun r38 =>
 br (((r38).2).1 == (0 : Int)) (
  br (decide ((((List.length (ImplTree.props x16)) : Nat) : Int) > (0 : Int))) (
   bnd (spec_source_good N (r38).1) fun r39 =>
   gd (decide ((0 : Int) < (((List.length (ImplTree.props x16)) : Nat) : Int))) (
   spec_source_turnedTree.J26 N R_spec_source_turnedTree E5 ((r39).1, (ImplTree.mk (ImplTree.tag x15) (ImplTree.key x15) (ImplTree.text x15) (ImplTree.props x15) (ImplTree.kids x15)), (ImplTree.mk (ImplTree.tag x16) (ImplTree.key x16) (ImplTree.text x16) (List.set (ImplTree.props x16) (Int.toNat (0 : Int)) (ImplProp.mk (ImplProp.name (get (ImplTree.props x16) (0 : Int))) (ImplValue.kind ((r39).2).1) (ImplValue.num ((r39).2).1) (ImplValue.text ((r39).2).1))) (ImplTree.kids x16)), ()))) (
   spec_source_turnedTree.J26 N R_spec_source_turnedTree E5 ((r38).1, (ImplTree.mk (ImplTree.tag x15) (ImplTree.key x15) (ImplTree.text x15) (ImplTree.props x15) (ImplTree.kids x15)), (ImplTree.mk (ImplTree.tag x16) (ImplTree.key x16) (ImplTree.text x16) (ImplTree.props x16) (ImplTree.kids x16)), ()))) (
  spec_source_turnedTree.J26 N R_spec_source_turnedTree E5 ((r38).1, (ImplTree.mk (ImplTree.tag x15) (ImplTree.key x15) (ImplTree.text x15) (ImplTree.props x15) (ImplTree.kids x15)), (ImplTree.mk (ImplTree.tag x16) (ImplTree.key x16) (ImplTree.text x16) (ImplTree.props x16) (ImplTree.kids x16)), ())))

def spec_source_turnedTree.B0 (N : Nat) (R_spec_source_turnedTree : SpecSource → ImplTree → Int → Option (SpecSource × ImplTree × Unit)) (G0 : SpecSource × Int × ImplTree × ImplTree × Int × Unit → Option (SpecSource × ImplTree × Unit)) (E2 : SpecSource × ImplTree × ImplTree × Int × Unit → Option (SpecSource × ImplTree × Unit)) : SpecSource × Int × ImplTree × ImplTree × Int × Unit → Option (SpecSource × ImplTree × Unit) :=
fun (x5, x6, x7, x8, x9, ()) =>
 br (decide (x9 < (((List.length (ImplTree.kids x8)) : Nat) : Int))) (
  bnd (spec_source_pick N x5 (2 : Int)) fun r11 =>
  br (((r11).2).1 == (0 : Int)) (
   br (decide (x6 > (0 : Int))) (
    gd (decide ((0 : Int) ≤ x9)) (
    gd (decide (x9 < (((List.length (ImplTree.kids x8)) : Nat) : Int))) (
    bnd (R_spec_source_turnedTree (r11).1 (ImplTree.mk (ImplTree.tag (get (ImplTree.kids x8) x9)) (ImplTree.key (get (ImplTree.kids x8) x9)) (ImplTree.text (get (ImplTree.kids x8) x9)) (ImplTree.props (get (ImplTree.kids x8) x9)) (ImplTree.kids (get (ImplTree.kids x8) x9))) (IntKind.i64.wrap (x6 - (1 : Int)))) fun r12 =>
    gd (decide ((0 : Int) ≤ x9)) (
    gd (decide (x9 < (((List.length (ImplTree.kids x8)) : Nat) : Int))) (
    G0 ((r12).1, x6, (ImplTree.mk (ImplTree.tag x7) (ImplTree.key x7) (ImplTree.text x7) (ImplTree.props x7) (ImplTree.kids x7)), (ImplTree.mk (ImplTree.tag x8) (ImplTree.key x8) (ImplTree.text x8) (ImplTree.props x8) (List.set (ImplTree.kids x8) (Int.toNat x9) (ImplTree.mk (ImplTree.tag ((r12).2).1) (ImplTree.key ((r12).2).1) (ImplTree.text ((r12).2).1) (ImplTree.props ((r12).2).1) (ImplTree.kids ((r12).2).1)))), (IntKind.i64.wrap (x9 + (1 : Int))), ())))))) (
    G0 ((r11).1, x6, (ImplTree.mk (ImplTree.tag x7) (ImplTree.key x7) (ImplTree.text x7) (ImplTree.props x7) (ImplTree.kids x7)), (ImplTree.mk (ImplTree.tag x8) (ImplTree.key x8) (ImplTree.text x8) (ImplTree.props x8) (ImplTree.kids x8)), (IntKind.i64.wrap (x9 + (1 : Int))), ()))) (
   G0 ((r11).1, x6, (ImplTree.mk (ImplTree.tag x7) (ImplTree.key x7) (ImplTree.text x7) (ImplTree.props x7) (ImplTree.kids x7)), (ImplTree.mk (ImplTree.tag x8) (ImplTree.key x8) (ImplTree.text x8) (ImplTree.props x8) (ImplTree.kids x8)), (IntKind.i64.wrap (x9 + (1 : Int))), ()))) (
  bnd (spec_source_pick N x5 (4 : Int)) fun r13 =>
 E2 ((r13).1, (ImplTree.mk (ImplTree.tag x7) (ImplTree.key x7) (ImplTree.text x7) (ImplTree.props x7) (ImplTree.kids x7)), (ImplTree.mk (ImplTree.tag x8) (ImplTree.key x8) (ImplTree.text x8) (ImplTree.props x8) (ImplTree.kids x8)), ((r13).2).1, ()))

def spec_source_turnedTree.B (N : Nat) (R_spec_source_turnedTree : SpecSource → ImplTree → Int → Option (SpecSource × ImplTree × Unit)) (E0 : SpecSource × Int × ImplTree × ImplTree × Int × Unit → Option (SpecSource × ImplTree × Unit)) (x0 : SpecSource) (x1 : ImplTree) (x2 : Int) : Option (SpecSource × ImplTree × Unit) :=
 bnd (spec_copyTree N (ImplTree.mk (ImplTree.tag x1) (ImplTree.key x1) (ImplTree.text x1) (ImplTree.props x1) (ImplTree.kids x1))) fun r3 =>
 br ((ImplTree.tag x1) == (-(1 : Int))) (
  bnd (spec_source_pick N x0 (3 : Int)) fun r4 =>
  br (((r4).2).1 == (0 : Int)) (
   some ((r4).1, (ImplTree.mk (ImplTree.tag (r3).1) (ImplTree.key (r3).1) ([110, 101, 119] : List (UInt8)) (ImplTree.props (r3).1) (ImplTree.kids (r3).1)), ())) (
   some ((r4).1, (ImplTree.mk (ImplTree.tag (r3).1) (ImplTree.key (r3).1) (ImplTree.text (r3).1) (ImplTree.props (r3).1) (ImplTree.kids (r3).1)), ()))) (
  E0 (x0, x2, (ImplTree.mk (0 : Int) (0 : Int) ([] : List (UInt8)) ([] : List (ImplProp)) ([] : List (ImplTree))), (ImplTree.mk (ImplTree.tag (r3).1) (ImplTree.key (r3).1) (ImplTree.text (r3).1) (ImplTree.props (r3).1) (ImplTree.kids (r3).1)), (0 : Int), ()))

def spec_source_turnedTree.L5 (N : Nat) (R_spec_source_turnedTree : SpecSource → ImplTree → Int → Option (SpecSource × ImplTree × Unit)) : Nat → SpecSource × ImplTree × ImplTree × Int × Unit → Option (SpecSource × ImplTree × Unit)
  | 0, _ => none
  | n + 1, x => spec_source_turnedTree.B5 N R_spec_source_turnedTree (spec_source_turnedTree.L5 N R_spec_source_turnedTree n) x

def spec_source_turnedTree.L2 (N : Nat) (R_spec_source_turnedTree : SpecSource → ImplTree → Int → Option (SpecSource × ImplTree × Unit)) : Nat → SpecSource × ImplTree × ImplTree × Int × Unit → Option (SpecSource × ImplTree × Unit)
  | 0, _ => none
  | n + 1, x => spec_source_turnedTree.B2 N R_spec_source_turnedTree (spec_source_turnedTree.L2 N R_spec_source_turnedTree n) (spec_source_turnedTree.L5 N R_spec_source_turnedTree N) x

def spec_source_turnedTree.L0 (N : Nat) (R_spec_source_turnedTree : SpecSource → ImplTree → Int → Option (SpecSource × ImplTree × Unit)) : Nat → SpecSource × Int × ImplTree × ImplTree × Int × Unit → Option (SpecSource × ImplTree × Unit)
  | 0, _ => none
  | n + 1, x => spec_source_turnedTree.B0 N R_spec_source_turnedTree (spec_source_turnedTree.L0 N R_spec_source_turnedTree n) (spec_source_turnedTree.L2 N R_spec_source_turnedTree N) x

def spec_source_turnedTree.R (N : Nat) : Nat → SpecSource → ImplTree → Int → Option (SpecSource × ImplTree × Unit)
  | 0, _, _, _ => none
  | d + 1, x0, x1, x2 => spec_source_turnedTree.B N (spec_source_turnedTree.R N d) (spec_source_turnedTree.L0 N (spec_source_turnedTree.R N d) N) x0 x1 x2

def spec_source_turnedTree (N : Nat) (x0 : SpecSource) (x1 : ImplTree) (x2 : Int) : Option (SpecSource × ImplTree × Unit) := spec_source_turnedTree.R N N x0 x1 x2

def spec_DrawTreeEdits.B (N : Nat) (x0 : List (Int)) : Option (ImplTree × ImplTree × Unit) :=
 bnd (spec_newSource N x0) fun r1 =>
 bnd (spec_source_whole N (r1).1) fun r2 =>
 bnd (spec_source_pick N (r2).1 (3 : Int)) fun r3 =>
 br (((r3).2).1 == (0 : Int)) (
  bnd (spec_source_whole N (r3).1) fun r4 =>
  some ((ImplTree.mk (ImplTree.tag ((r2).2).1) (ImplTree.key ((r2).2).1) (ImplTree.text ((r2).2).1) (ImplTree.props ((r2).2).1) (ImplTree.kids ((r2).2).1)), (ImplTree.mk (ImplTree.tag ((r4).2).1) (ImplTree.key ((r4).2).1) (ImplTree.text ((r4).2).1) (ImplTree.props ((r4).2).1) (ImplTree.kids ((r4).2).1)), ())) (
  bnd (spec_source_turnedTree N (r3).1 (ImplTree.mk (ImplTree.tag ((r2).2).1) (ImplTree.key ((r2).2).1) (ImplTree.text ((r2).2).1) (ImplTree.props ((r2).2).1) (ImplTree.kids ((r2).2).1)) (3 : Int)) fun r5 =>
 some ((ImplTree.mk (ImplTree.tag ((r2).2).1) (ImplTree.key ((r2).2).1) (ImplTree.text ((r2).2).1) (ImplTree.props ((r2).2).1) (ImplTree.kids ((r2).2).1)), (ImplTree.mk (ImplTree.tag ((r5).2).1) (ImplTree.key ((r5).2).1) (ImplTree.text ((r5).2).1) (ImplTree.props ((r5).2).1) (ImplTree.kids ((r5).2).1)), ()))

def spec_DrawTreeEdits (N : Nat) (x0 : List (Int)) : Option (ImplTree × ImplTree × Unit) := spec_DrawTreeEdits.B N x0

def spec_source_way.B0 (N : Nat) (G0 : SpecSource × ImplTree × (List (Int)) × Unit → Option (SpecSource × (List (Int)) × Unit)) : SpecSource × ImplTree × (List (Int)) × Unit → Option (SpecSource × (List (Int)) × Unit) :=
fun (x2, x3, x4, ()) =>
 bnd (spec_source_pick N x2 (4 : Int)) fun r6 =>
 br (decide (((r6).2).1 > (0 : Int))) (
  br (decide ((((List.length (ImplTree.kids x3)) : Nat) : Int) > (0 : Int))) (
   bnd (spec_source_pick N (r6).1 (((List.length (ImplTree.kids x3)) : Nat) : Int)) fun r7 =>
   gd (decide (((List.length x4) + (List.length ([((r7).2).1] : List (Int)))) < 68719476736)) (
   gd (decide ((0 : Int) ≤ ((r7).2).1)) (
   gd (decide (((r7).2).1 < (((List.length (ImplTree.kids x3)) : Nat) : Int))) (
   G0 ((r7).1, (ImplTree.mk (ImplTree.tag (get (ImplTree.kids x3) ((r7).2).1)) (ImplTree.key (get (ImplTree.kids x3) ((r7).2).1)) (ImplTree.text (get (ImplTree.kids x3) ((r7).2).1)) (ImplTree.props (get (ImplTree.kids x3) ((r7).2).1)) (ImplTree.kids (get (ImplTree.kids x3) ((r7).2).1))), (x4 ++ ([((r7).2).1] : List (Int))), ()))))) (
   bnd (spec_source_rarely N (r6).1) fun r8 =>
  br ((r8).2).1 (
   bnd (spec_source_one N (r8).1 ([(-(1 : Int)), (0 : Int), (9 : Int)] : List (Int))) fun r9 =>
   gd (decide (((List.length x4) + (List.length ([((r9).2).1] : List (Int)))) < 68719476736)) (
   some ((r9).1, (x4 ++ ([((r9).2).1] : List (Int))), ()))) (
   some ((r8).1, x4, ())))) (
  bnd (spec_source_rarely N (r6).1) fun r10 =>
 br ((r10).2).1 (
  bnd (spec_source_one N (r10).1 ([(-(1 : Int)), (0 : Int), (9 : Int)] : List (Int))) fun r11 =>
  gd (decide (((List.length x4) + (List.length ([((r11).2).1] : List (Int)))) < 68719476736)) (
  some ((r11).1, (x4 ++ ([((r11).2).1] : List (Int))), ()))) (
  some ((r10).1, x4, ())))

def spec_source_way.B (N : Nat) (E0 : SpecSource × ImplTree × (List (Int)) × Unit → Option (SpecSource × (List (Int)) × Unit)) (x0 : SpecSource) (x1 : ImplTree) : Option (SpecSource × (List (Int)) × Unit) :=
 E0 (x0, (ImplTree.mk (ImplTree.tag x1) (ImplTree.key x1) (ImplTree.text x1) (ImplTree.props x1) (ImplTree.kids x1)), ([] : List (Int)), ())

def spec_source_way.L0 (N : Nat) : Nat → SpecSource × ImplTree × (List (Int)) × Unit → Option (SpecSource × (List (Int)) × Unit)
  | 0, _ => none
  | n + 1, x => spec_source_way.B0 N (spec_source_way.L0 N n) x

def spec_source_way (N : Nat) (x0 : SpecSource) (x1 : ImplTree) : Option (SpecSource × (List (Int)) × Unit) := spec_source_way.B N (spec_source_way.L0 N N) x0 x1

def spec_DrawWayAfter.B (N : Nat) (x0 : List (Int)) : Option (ImplTree × ImplTree × (List (Int)) × Unit) :=
 bnd (spec_newSource N x0) fun r1 =>
 bnd (spec_DrawTreeEdits N x0) fun r2 =>
 bnd (spec_source_pick N (r1).1 (3 : Int)) fun r3 =>
 bnd (spec_source_way N (r3).1 (ImplTree.mk (ImplTree.tag (r2).1) (ImplTree.key (r2).1) (ImplTree.text (r2).1) (ImplTree.props (r2).1) (ImplTree.kids (r2).1))) fun r4 =>
 some ((ImplTree.mk (ImplTree.tag (r2).1) (ImplTree.key (r2).1) (ImplTree.text (r2).1) (ImplTree.props (r2).1) (ImplTree.kids (r2).1)), (ImplTree.mk (ImplTree.tag ((r2).2).1) (ImplTree.key ((r2).2).1) (ImplTree.text ((r2).2).1) (ImplTree.props ((r2).2).1) (ImplTree.kids ((r2).2).1)), ((r4).2).1, ())

def spec_DrawWayAfter (N : Nat) (x0 : List (Int)) : Option (ImplTree × ImplTree × (List (Int)) × Unit) := spec_DrawWayAfter.B N x0

def impl_word.B0 (N : Nat) (G0 : (List UInt8) × Int × Unit → Option (Bool × Unit)) : (List UInt8) × Int × Unit → Option (Bool × Unit) :=
fun (x1, x2, ()) =>
 br (decide (x2 < (((List.length x1) : Nat) : Int))) (
  gd (decide ((0 : Int) ≤ x2)) (
  gd (decide (x2 < (((List.length x1) : Nat) : Int))) (
  br (decide ((((UInt8.toNat (List.getD x1 (Int.toNat x2) 0)) : Nat) : Int) ≥ (97 : Int))) (
   br (decide ((((UInt8.toNat (List.getD x1 (Int.toNat x2) 0)) : Nat) : Int) ≤ (122 : Int))) (
    G0 (x1, (IntKind.i64.wrap (x2 + (1 : Int))), ())) (
    br (decide ((((UInt8.toNat (List.getD x1 (Int.toNat x2) 0)) : Nat) : Int) ≥ (48 : Int))) (
    br (decide ((((UInt8.toNat (List.getD x1 (Int.toNat x2) 0)) : Nat) : Int) ≤ (57 : Int))) (
     G0 (x1, (IntKind.i64.wrap (x2 + (1 : Int))), ())) (
     br (!((((UInt8.toNat (List.getD x1 (Int.toNat x2) 0)) : Nat) : Int) == (32 : Int))) (
     some (false, ())) (
     G0 (x1, (IntKind.i64.wrap (x2 + (1 : Int))), ())))) (
    br (!((((UInt8.toNat (List.getD x1 (Int.toNat x2) 0)) : Nat) : Int) == (32 : Int))) (
    some (false, ())) (
    G0 (x1, (IntKind.i64.wrap (x2 + (1 : Int))), ()))))) (
   br (decide ((((UInt8.toNat (List.getD x1 (Int.toNat x2) 0)) : Nat) : Int) ≥ (48 : Int))) (
   br (decide ((((UInt8.toNat (List.getD x1 (Int.toNat x2) 0)) : Nat) : Int) ≤ (57 : Int))) (
    G0 (x1, (IntKind.i64.wrap (x2 + (1 : Int))), ())) (
    br (!((((UInt8.toNat (List.getD x1 (Int.toNat x2) 0)) : Nat) : Int) == (32 : Int))) (
    some (false, ())) (
    G0 (x1, (IntKind.i64.wrap (x2 + (1 : Int))), ())))) (
   br (!((((UInt8.toNat (List.getD x1 (Int.toNat x2) 0)) : Nat) : Int) == (32 : Int))) (
   some (false, ())) (
   G0 (x1, (IntKind.i64.wrap (x2 + (1 : Int))), ()))))))) (
  some ((decide ((((List.length x1) : Nat) : Int) ≤ (12 : Int))), ()))

def impl_word.B (N : Nat) (E0 : (List UInt8) × Int × Unit → Option (Bool × Unit)) (x0 : List UInt8) : Option (Bool × Unit) :=
 E0 (x0, (0 : Int), ())

def impl_word.L0 (N : Nat) : Nat → (List UInt8) × Int × Unit → Option (Bool × Unit)
  | 0, _ => none
  | n + 1, x => impl_word.B0 N (impl_word.L0 N n) x

def impl_word (N : Nat) (x0 : List UInt8) : Option (Bool × Unit) := impl_word.B N (impl_word.L0 N N) x0

def impl_within.B (N : Nat) (x0 : Int) (x1 : Int) (x2 : Int) : Option (Bool × Unit) :=
 br (decide (x0 ≥ x1)) (
  some ((decide (x0 ≤ x2)), ())) (
  some (false, ()))

def impl_within (N : Nat) (x0 : Int) (x1 : Int) (x2 : Int) : Option (Bool × Unit) := impl_within.B N x0 x1 x2

def impl_shown.B (N : Nat) (x0 : List UInt8) : Option (Bool × Unit) :=
 bnd (impl_word N x0) fun r1 =>
 br (r1).1 (
  some (true, ())) (
  bnd (LibAtoi N x0) fun r2 =>
 br ((r2).2).1 (
  bnd (impl_within N (r2).1 (-(1000 : Int)) (1000 : Int)) fun r3 =>
  br (r3).1 (
   bnd (LibItoa N (r2).1) fun r4 =>
   some (((r4).1 == x0), ())) (
   some (false, ()))) (
  some (false, ())))

def impl_shown (N : Nat) (x0 : List UInt8) : Option (Bool × Unit) := impl_shown.B N x0

def impl_ValOk.B (N : Nat) (x0 : ImplValue) : Option (Bool × Unit) :=
 br ((ImplValue.kind x0) == (0 : Int)) (
  br ((ImplValue.num x0) == (0 : Int)) (
   some (((ImplValue.text x0) == ([] : List (UInt8))), ())) (
   some (false, ()))) (
  br ((ImplValue.kind x0) == (1 : Int)) (
  bnd (impl_within N (ImplValue.num x0) (-(1000 : Int)) (1000 : Int)) fun r1 =>
  br (r1).1 (
   some (((ImplValue.text x0) == ([] : List (UInt8))), ())) (
   some (false, ()))) (
  br ((ImplValue.kind x0) == (2 : Int)) (
  br ((ImplValue.num x0) == (0 : Int)) (
   bnd (impl_word N (ImplValue.text x0)) fun r2 =>
   some ((r2).1, ())) (
   some (false, ()))) (
  some (false, ()))))

def impl_ValOk (N : Nat) (x0 : ImplValue) : Option (Bool × Unit) := impl_ValOk.B N x0

def impl_treeFits.B2 (N : Nat) (R_impl_treeFits : ImplTree → Int → Int → Option (Int × Bool × Unit)) (G2 : Int × Int × (List (Int)) × (List (ImplTree)) × Int × Int × Unit → Option (Int × Bool × Unit)) : Int × Int × (List (Int)) × (List (ImplTree)) × Int × Int × Unit → Option (Int × Bool × Unit) :=
fun (x16, x17, x18, x19, x20, x21, ()) =>
 br (decide (x21 < x20)) (
  gd (decide ((0 : Int) ≤ x21)) (
  gd (decide (x21 < (((List.length x19) : Nat) : Int))) (
  br ((ImplTree.key (get x19 x21)) != (-(1 : Int))) (
   br (mapHas x18 (ImplTree.key (get x19 x21))) (
    some (x17, false, ())) (
    bnd (R_impl_treeFits (ImplTree.mk (ImplTree.tag (get x19 x21)) (ImplTree.key (get x19 x21)) (ImplTree.text (get x19 x21)) (ImplTree.props (get x19 x21)) (ImplTree.kids (get x19 x21))) (IntKind.i64.wrap (x16 + (1 : Int))) x17) fun r23 =>
   br (!((r23).2).1) (
    some ((r23).1, false, ())) (
    G2 (x16, (r23).1, (mapPut x18 (ImplTree.key (get x19 x21))), x19, x20, (IntKind.i64.wrap (x21 + (1 : Int))), ())))) (
   bnd (R_impl_treeFits (ImplTree.mk (ImplTree.tag (get x19 x21)) (ImplTree.key (get x19 x21)) (ImplTree.text (get x19 x21)) (ImplTree.props (get x19 x21)) (ImplTree.kids (get x19 x21))) (IntKind.i64.wrap (x16 + (1 : Int))) x17) fun r24 =>
  br (!((r24).2).1) (
   some ((r24).1, false, ())) (
   G2 (x16, (r24).1, (mapPut x18 (ImplTree.key (get x19 x21))), x19, x20, (IntKind.i64.wrap (x21 + (1 : Int))), ())))))) (
  some (x17, true, ()))

def impl_treeFits.B0 (N : Nat) (R_impl_treeFits : ImplTree → Int → Int → Option (Int × Bool × Unit)) (G0 : Int × Int × ImplTree × (List (ImplProp)) × Int × Int × Unit → Option (Int × Bool × Unit)) (E2 : Int × Int × (List (Int)) × (List (ImplTree)) × Int × Int × Unit → Option (Int × Bool × Unit)) : Int × Int × ImplTree × (List (ImplProp)) × Int × Int × Unit → Option (Int × Bool × Unit) :=
fun (x6, x7, x8, x9, x10, x11, ()) =>
 br (decide (x11 < x10)) (
  gd (decide ((0 : Int) ≤ x11)) (
  gd (decide (x11 < (((List.length x9) : Nat) : Int))) (
  bnd (impl_within N (ImplProp.name (get x9 x11)) (0 : Int) (3 : Int)) fun r13 =>
  br (!(r13).1) (
   some (x7, false, ())) (
   br (decide (x11 > (0 : Int))) (
   gd (decide ((0 : Int) ≤ (IntKind.i64.wrap (x11 - (1 : Int))))) (
   gd (decide ((IntKind.i64.wrap (x11 - (1 : Int))) < (((List.length (ImplTree.props x8)) : Nat) : Int))) (
   br (decide ((ImplProp.name (get x9 x11)) ≤ (ImplProp.name (get (ImplTree.props x8) (IntKind.i64.wrap (x11 - (1 : Int))))))) (
    some (x7, false, ())) (
    bnd (impl_ValOk N (ImplValue.mk (ImplProp.val_Kind (get x9 x11)) (ImplProp.val_Num (get x9 x11)) (ImplProp.val_Text (get x9 x11)))) fun r14 =>
   br (!(r14).1) (
    some (x7, false, ())) (
    G0 (x6, x7, (ImplTree.mk (ImplTree.tag x8) (ImplTree.key x8) (ImplTree.text x8) (ImplTree.props x8) (ImplTree.kids x8)), x9, x10, (IntKind.i64.wrap (x11 + (1 : Int))), ())))))) (
   bnd (impl_ValOk N (ImplValue.mk (ImplProp.val_Kind (get x9 x11)) (ImplProp.val_Num (get x9 x11)) (ImplProp.val_Text (get x9 x11)))) fun r15 =>
  br (!(r15).1) (
   some (x7, false, ())) (
   G0 (x6, x7, (ImplTree.mk (ImplTree.tag x8) (ImplTree.key x8) (ImplTree.text x8) (ImplTree.props x8) (ImplTree.kids x8)), x9, x10, (IntKind.i64.wrap (x11 + (1 : Int))), ()))))))) (
  E2 (x6, x7, ([] : List (Int)), (ImplTree.kids x8), (((List.length (ImplTree.kids x8)) : Nat) : Int), (0 : Int), ()))

def impl_treeFits.B (N : Nat) (R_impl_treeFits : ImplTree → Int → Int → Option (Int × Bool × Unit)) (E0 : Int × Int × ImplTree × (List (ImplProp)) × Int × Int × Unit → Option (Int × Bool × Unit)) (x0 : ImplTree) (x1 : Int) (x2 : Int) : Option (Int × Bool × Unit) :=
 br (decide (x1 > (24 : Int))) (
  some ((IntKind.i64.wrap (x2 - (1 : Int))), false, ())) (
  br (decide ((IntKind.i64.wrap (x2 - (1 : Int))) < (0 : Int))) (
  some ((IntKind.i64.wrap (x2 - (1 : Int))), false, ())) (
  br ((ImplTree.tag x0) == (-(1 : Int))) (
  br ((ImplTree.key x0) == (-(1 : Int))) (
   bnd (impl_shown N (ImplTree.text x0)) fun r3 =>
   br (r3).1 (
    br ((((List.length (ImplTree.props x0)) : Nat) : Int) == (0 : Int)) (
     some ((IntKind.i64.wrap (x2 - (1 : Int))), ((((List.length (ImplTree.kids x0)) : Nat) : Int) == (0 : Int)), ())) (
     some ((IntKind.i64.wrap (x2 - (1 : Int))), false, ()))) (
    some ((IntKind.i64.wrap (x2 - (1 : Int))), false, ()))) (
   some ((IntKind.i64.wrap (x2 - (1 : Int))), false, ()))) (
  bnd (impl_within N (ImplTree.tag x0) (0 : Int) (4 : Int)) fun r4 =>
 br (!(r4).1) (
  some ((IntKind.i64.wrap (x2 - (1 : Int))), false, ())) (
  bnd (impl_within N (ImplTree.key x0) (-(1 : Int)) (99 : Int)) fun r5 =>
 br (!(r5).1) (
  some ((IntKind.i64.wrap (x2 - (1 : Int))), false, ())) (
  br (!((ImplTree.text x0) == ([] : List (UInt8)))) (
  some ((IntKind.i64.wrap (x2 - (1 : Int))), false, ())) (
  E0 (x1, (IntKind.i64.wrap (x2 - (1 : Int))), (ImplTree.mk (ImplTree.tag x0) (ImplTree.key x0) (ImplTree.text x0) (ImplTree.props x0) (ImplTree.kids x0)), (ImplTree.props x0), (((List.length (ImplTree.props x0)) : Nat) : Int), (0 : Int), ())))))))

def impl_treeFits.L2 (N : Nat) (R_impl_treeFits : ImplTree → Int → Int → Option (Int × Bool × Unit)) : Nat → Int × Int × (List (Int)) × (List (ImplTree)) × Int × Int × Unit → Option (Int × Bool × Unit)
  | 0, _ => none
  | n + 1, x => impl_treeFits.B2 N R_impl_treeFits (impl_treeFits.L2 N R_impl_treeFits n) x

def impl_treeFits.L0 (N : Nat) (R_impl_treeFits : ImplTree → Int → Int → Option (Int × Bool × Unit)) : Nat → Int × Int × ImplTree × (List (ImplProp)) × Int × Int × Unit → Option (Int × Bool × Unit)
  | 0, _ => none
  | n + 1, x => impl_treeFits.B0 N R_impl_treeFits (impl_treeFits.L0 N R_impl_treeFits n) (impl_treeFits.L2 N R_impl_treeFits N) x

def impl_treeFits.R (N : Nat) : Nat → ImplTree → Int → Int → Option (Int × Bool × Unit)
  | 0, _, _, _ => none
  | d + 1, x0, x1, x2 => impl_treeFits.B N (impl_treeFits.R N d) (impl_treeFits.L0 N (impl_treeFits.R N d) N) x0 x1 x2

def impl_treeFits (N : Nat) (x0 : ImplTree) (x1 : Int) (x2 : Int) : Option (Int × Bool × Unit) := impl_treeFits.R N N x0 x1 x2

def impl_TreeOk.B (N : Nat) (x0 : ImplTree) : Option (Bool × Unit) :=
 bnd (impl_treeFits N (ImplTree.mk (ImplTree.tag x0) (ImplTree.key x0) (ImplTree.text x0) (ImplTree.props x0) (ImplTree.kids x0)) (1 : Int) (200 : Int)) fun r1 =>
 some (((r1).2).1, ())

def impl_TreeOk (N : Nat) (x0 : ImplTree) : Option (Bool × Unit) := impl_TreeOk.B N x0

def impl_partners.J14 (N : Nat) (G0 : ImplTree × (List (Int)) × (List (Bool)) × (List (ImplTree)) × Int × Int × Unit → Option ((List (Int)) × Unit)) : ImplTree × (List (Int)) × (List (Bool)) × Int × (List (ImplTree)) × Int × Int × Unit → Option ((List (Int)) × Unit) :=
fun (x21, x22, x23, x24, x25, x26, x27, ()) =>
 gd (decide (((List.length x22) + (List.length ([x24] : List (Int)))) < 68719476736)) (
 G0 ((ImplTree.mk (ImplTree.tag x21) (ImplTree.key x21) (ImplTree.text x21) (ImplTree.props x21) (ImplTree.kids x21)), (x22 ++ ([x24] : List (Int))), x23, x25, x26, (IntKind.i64.wrap (x27 + (1 : Int))), ()))

def impl_partners.B2 (N : Nat) (G0 : ImplTree × (List (Int)) × (List (Bool)) × (List (ImplTree)) × Int × Int × Unit → Option ((List (Int)) × Unit)) (G2 : ImplTree × (List (Int)) × (List (Bool)) × ImplTree × Int × (List (ImplTree)) × Int × Int × (List (ImplTree)) × Int × Int × Unit → Option ((List (Int)) × Unit)) : ImplTree × (List (Int)) × (List (Bool)) × ImplTree × Int × (List (ImplTree)) × Int × Int × (List (ImplTree)) × Int × Int × Unit → Option ((List (Int)) × Unit) :=
fun (x9, x10, x11, x12, x13, x14, x15, x16, x17, x18, x19, ()) =>
 br (decide (x19 < x18)) (
  gd (decide ((0 : Int) ≤ x19)) (
  gd (decide (x19 < (((List.length x17) : Nat) : Int))) (
  gd (decide ((0 : Int) ≤ x19)) (
  gd (decide (x19 < (((List.length x11) : Nat) : Int))) (
  br (!(get x11 x19)) (
   br ((ImplTree.tag (get x17 x19)) == (ImplTree.tag x12)) (
    br ((ImplTree.key (get x17 x19)) == (ImplTree.key x12)) (
     gd (decide ((0 : Int) ≤ x19)) (
     gd (decide (x19 < (((List.length x11) : Nat) : Int))) (
     impl_partners.J14 N G0 ((ImplTree.mk (ImplTree.tag x9) (ImplTree.key x9) (ImplTree.text x9) (ImplTree.props x9) (ImplTree.kids x9)), x10, (List.set x11 (Int.toNat x19) true), x19, x14, x15, x16, ())))) (
     G2 ((ImplTree.mk (ImplTree.tag x9) (ImplTree.key x9) (ImplTree.text x9) (ImplTree.props x9) (ImplTree.kids x9)), x10, x11, (ImplTree.mk (ImplTree.tag x12) (ImplTree.key x12) (ImplTree.text x12) (ImplTree.props x12) (ImplTree.kids x12)), x13, x14, x15, x16, x17, x18, (IntKind.i64.wrap (x19 + (1 : Int))), ()))) (
    G2 ((ImplTree.mk (ImplTree.tag x9) (ImplTree.key x9) (ImplTree.text x9) (ImplTree.props x9) (ImplTree.kids x9)), x10, x11, (ImplTree.mk (ImplTree.tag x12) (ImplTree.key x12) (ImplTree.text x12) (ImplTree.props x12) (ImplTree.kids x12)), x13, x14, x15, x16, x17, x18, (IntKind.i64.wrap (x19 + (1 : Int))), ()))) (
   G2 ((ImplTree.mk (ImplTree.tag x9) (ImplTree.key x9) (ImplTree.text x9) (ImplTree.props x9) (ImplTree.kids x9)), x10, x11, (ImplTree.mk (ImplTree.tag x12) (ImplTree.key x12) (ImplTree.text x12) (ImplTree.props x12) (ImplTree.kids x12)), x13, x14, x15, x16, x17, x18, (IntKind.i64.wrap (x19 + (1 : Int))), ()))))))) (
  impl_partners.J14 N G0 ((ImplTree.mk (ImplTree.tag x9) (ImplTree.key x9) (ImplTree.text x9) (ImplTree.props x9) (ImplTree.kids x9)), x10, x11, x13, x14, x15, x16, ()))

def impl_partners.B0 (N : Nat) (E2 : ImplTree × (List (Int)) × (List (Bool)) × ImplTree × Int × (List (ImplTree)) × Int × Int × (List (ImplTree)) × Int × Int × Unit → Option ((List (Int)) × Unit)) : ImplTree × (List (Int)) × (List (Bool)) × (List (ImplTree)) × Int × Int × Unit → Option ((List (Int)) × Unit) :=
fun (x2, x3, x4, x5, x6, x7, ()) =>
 br (decide (x7 < x6)) (
  gd (decide ((0 : Int) ≤ x7)) (
  gd (decide (x7 < (((List.length x5) : Nat) : Int))) (
  E2 ((ImplTree.mk (ImplTree.tag x2) (ImplTree.key x2) (ImplTree.text x2) (ImplTree.props x2) (ImplTree.kids x2)), x3, x4, (ImplTree.mk (ImplTree.tag (get x5 x7)) (ImplTree.key (get x5 x7)) (ImplTree.text (get x5 x7)) (ImplTree.props (get x5 x7)) (ImplTree.kids (get x5 x7))), (-(1 : Int)), x5, x6, x7, (ImplTree.kids x2), (((List.length (ImplTree.kids x2)) : Nat) : Int), (0 : Int), ())))) (
  some (x3, ()))

def impl_partners.B (N : Nat) (E0 : ImplTree × (List (Int)) × (List (Bool)) × (List (ImplTree)) × Int × Int × Unit → Option ((List (Int)) × Unit)) (x0 : ImplTree) (x1 : ImplTree) : Option ((List (Int)) × Unit) :=
 gd (decide ((((List.length (ImplTree.kids x0)) : Nat) : Int) = (((List.length (ImplTree.kids x0)) : Nat) : Int))) (
 gd (decide ((0 : Int) ≤ (((List.length (ImplTree.kids x0)) : Nat) : Int))) (
 gd (decide ((((List.length (ImplTree.kids x0)) : Nat) : Int) < ((68719476736 : Nat) : Int))) (
 E0 ((ImplTree.mk (ImplTree.tag x0) (ImplTree.key x0) (ImplTree.text x0) (ImplTree.props x0) (ImplTree.kids x0)), ([] : List (Int)), (List.replicate (Int.toNat (((List.length (ImplTree.kids x0)) : Nat) : Int)) false), (ImplTree.kids x1), (((List.length (ImplTree.kids x1)) : Nat) : Int), (0 : Int), ()))))

def impl_partners.L2 (N : Nat) (G0 : ImplTree × (List (Int)) × (List (Bool)) × (List (ImplTree)) × Int × Int × Unit → Option ((List (Int)) × Unit)) : Nat → ImplTree × (List (Int)) × (List (Bool)) × ImplTree × Int × (List (ImplTree)) × Int × Int × (List (ImplTree)) × Int × Int × Unit → Option ((List (Int)) × Unit)
  | 0, _ => none
  | n + 1, x => impl_partners.B2 N G0 (impl_partners.L2 N G0 n) x

def impl_partners.L0 (N : Nat) : Nat → ImplTree × (List (Int)) × (List (Bool)) × (List (ImplTree)) × Int × Int × Unit → Option ((List (Int)) × Unit)
  | 0, _ => none
  | n + 1, x => impl_partners.B0 N (impl_partners.L2 N (impl_partners.L0 N n) N) x

def impl_partners (N : Nat) (x0 : ImplTree) (x1 : ImplTree) : Option ((List (Int)) × Unit) := impl_partners.B N (impl_partners.L0 N N) x0 x1

def impl_wayAfter.B0 (N : Nat) (G0 : ImplTree × ImplTree × (List (Int)) × (List (Int)) × Int × Int × Unit → Option ((List (Int)) × Bool × Unit)) : ImplTree × ImplTree × (List (Int)) × (List (Int)) × Int × Int × Unit → Option ((List (Int)) × Bool × Unit) :=
fun (x3, x4, x5, x6, x7, x8, ()) =>
 br (decide (x8 < x7)) (
  gd (decide ((0 : Int) ≤ x8)) (
  gd (decide (x8 < (((List.length x6) : Nat) : Int))) (
  bnd (impl_within N (get x6 x8) (0 : Int) (IntKind.i64.wrap ((((List.length (ImplTree.kids x3)) : Nat) : Int) - (1 : Int)))) fun r10 =>
  br (!(r10).1) (
   some (([] : List (Int)), false, ())) (
   bnd (impl_partners N (ImplTree.mk (ImplTree.tag x3) (ImplTree.key x3) (ImplTree.text x3) (ImplTree.props x3) (ImplTree.kids x3)) (ImplTree.mk (ImplTree.tag x4) (ImplTree.key x4) (ImplTree.text x4) (ImplTree.props x4) (ImplTree.kids x4))) fun r11 =>
  bnd (LibIndex N (r11).1 (get x6 x8)) fun r12 =>
  br (decide ((r12).1 < (0 : Int))) (
   some (([] : List (Int)), false, ())) (
   gd (decide (((List.length x5) + (List.length ([(r12).1] : List (Int)))) < 68719476736)) (
  gd (decide ((0 : Int) ≤ (get x6 x8))) (
  gd (decide ((get x6 x8) < (((List.length (ImplTree.kids x3)) : Nat) : Int))) (
  gd (decide ((0 : Int) ≤ (r12).1)) (
  gd (decide ((r12).1 < (((List.length (ImplTree.kids x4)) : Nat) : Int))) (
  G0 ((ImplTree.mk (ImplTree.tag (get (ImplTree.kids x3) (get x6 x8))) (ImplTree.key (get (ImplTree.kids x3) (get x6 x8))) (ImplTree.text (get (ImplTree.kids x3) (get x6 x8))) (ImplTree.props (get (ImplTree.kids x3) (get x6 x8))) (ImplTree.kids (get (ImplTree.kids x3) (get x6 x8)))), (ImplTree.mk (ImplTree.tag (get (ImplTree.kids x4) (r12).1)) (ImplTree.key (get (ImplTree.kids x4) (r12).1)) (ImplTree.text (get (ImplTree.kids x4) (r12).1)) (ImplTree.props (get (ImplTree.kids x4) (r12).1)) (ImplTree.kids (get (ImplTree.kids x4) (r12).1))), (x5 ++ ([(r12).1] : List (Int))), x6, x7, (IntKind.i64.wrap (x8 + (1 : Int))), ()))))))))))) (
  some (x5, true, ()))

def impl_wayAfter.B (N : Nat) (E0 : ImplTree × ImplTree × (List (Int)) × (List (Int)) × Int × Int × Unit → Option ((List (Int)) × Bool × Unit)) (x0 : ImplTree) (x1 : ImplTree) (x2 : List (Int)) : Option ((List (Int)) × Bool × Unit) :=
 br ((ImplTree.tag x0) != (ImplTree.tag x1)) (
  some (([] : List (Int)), false, ())) (
  br ((ImplTree.key x0) != (ImplTree.key x1)) (
  some (([] : List (Int)), false, ())) (
  E0 ((ImplTree.mk (ImplTree.tag x0) (ImplTree.key x0) (ImplTree.text x0) (ImplTree.props x0) (ImplTree.kids x0)), (ImplTree.mk (ImplTree.tag x1) (ImplTree.key x1) (ImplTree.text x1) (ImplTree.props x1) (ImplTree.kids x1)), ([] : List (Int)), x2, (((List.length x2) : Nat) : Int), (0 : Int), ())))

def impl_wayAfter.L0 (N : Nat) : Nat → ImplTree × ImplTree × (List (Int)) × (List (Int)) × Int × Int × Unit → Option ((List (Int)) × Bool × Unit)
  | 0, _ => none
  | n + 1, x => impl_wayAfter.B0 N (impl_wayAfter.L0 N n) x

def impl_wayAfter (N : Nat) (x0 : ImplTree) (x1 : ImplTree) (x2 : List (Int)) : Option ((List (Int)) × Bool × Unit) := impl_wayAfter.B N (impl_wayAfter.L0 N N) x0 x1 x2

def impl_WayAfter.B (N : Nat) (x0 : ImplTree) (x1 : ImplTree) (x2 : List (Int)) : Option ((List (Int)) × Bool × Unit) :=
 bnd (impl_TreeOk N (ImplTree.mk (ImplTree.tag x0) (ImplTree.key x0) (ImplTree.text x0) (ImplTree.props x0) (ImplTree.kids x0))) fun r3 =>
 br (!(r3).1) (
  some (([] : List (Int)), false, ())) (
  bnd (impl_TreeOk N (ImplTree.mk (ImplTree.tag x1) (ImplTree.key x1) (ImplTree.text x1) (ImplTree.props x1) (ImplTree.kids x1))) fun r4 =>
 br (!(r4).1) (
  some (([] : List (Int)), false, ())) (
  bnd (impl_wayAfter N (ImplTree.mk (ImplTree.tag x0) (ImplTree.key x0) (ImplTree.text x0) (ImplTree.props x0) (ImplTree.kids x0)) (ImplTree.mk (ImplTree.tag x1) (ImplTree.key x1) (ImplTree.text x1) (ImplTree.props x1) (ImplTree.kids x1)) x2) fun r5 =>
 some ((r5).1, ((r5).2).1, ())))

def impl_WayAfter (N : Nat) (x0 : ImplTree) (x1 : ImplTree) (x2 : List (Int)) : Option ((List (Int)) × Bool × Unit) := impl_WayAfter.B N x0 x1 x2

def spec_treeSize.B0 (N : Nat) (R_spec_treeSize : ImplTree → Int → Option (Int × Unit)) (G0 : Int × ImplTree × Int × Int × Unit → Option (Int × Unit)) : Int × ImplTree × Int × Int × Unit → Option (Int × Unit) :=
fun (x2, x3, x4, x5, ()) =>
 br (decide (x5 < (((List.length (ImplTree.kids x3)) : Nat) : Int))) (
  br (decide (x4 ≤ (200 : Int))) (
   gd (decide ((0 : Int) ≤ x5)) (
   gd (decide (x5 < (((List.length (ImplTree.kids x3)) : Nat) : Int))) (
   bnd (R_spec_treeSize (ImplTree.mk (ImplTree.tag (get (ImplTree.kids x3) x5)) (ImplTree.key (get (ImplTree.kids x3) x5)) (ImplTree.text (get (ImplTree.kids x3) x5)) (ImplTree.props (get (ImplTree.kids x3) x5)) (ImplTree.kids (get (ImplTree.kids x3) x5))) (IntKind.i64.wrap (x2 + (1 : Int)))) fun r7 =>
   G0 (x2, (ImplTree.mk (ImplTree.tag x3) (ImplTree.key x3) (ImplTree.text x3) (ImplTree.props x3) (ImplTree.kids x3)), (IntKind.i64.wrap (x4 + (r7).1)), (IntKind.i64.wrap (x5 + (1 : Int))), ())))) (
   some ((cond (decide ((201 : Int) < x4)) (201 : Int) x4), ()))) (
  some ((cond (decide ((201 : Int) < x4)) (201 : Int) x4), ()))

def spec_treeSize.B (N : Nat) (R_spec_treeSize : ImplTree → Int → Option (Int × Unit)) (E0 : Int × ImplTree × Int × Int × Unit → Option (Int × Unit)) (x0 : ImplTree) (x1 : Int) : Option (Int × Unit) :=
 br (decide (x1 > (24 : Int))) (
  some ((201 : Int), ())) (
  E0 (x1, (ImplTree.mk (ImplTree.tag x0) (ImplTree.key x0) (ImplTree.text x0) (ImplTree.props x0) (ImplTree.kids x0)), (1 : Int), (0 : Int), ()))

def spec_treeSize.L0 (N : Nat) (R_spec_treeSize : ImplTree → Int → Option (Int × Unit)) : Nat → Int × ImplTree × Int × Int × Unit → Option (Int × Unit)
  | 0, _ => none
  | n + 1, x => spec_treeSize.B0 N R_spec_treeSize (spec_treeSize.L0 N R_spec_treeSize n) x

def spec_treeSize.R (N : Nat) : Nat → ImplTree → Int → Option (Int × Unit)
  | 0, _, _ => none
  | d + 1, x0, x1 => spec_treeSize.B N (spec_treeSize.R N d) (spec_treeSize.L0 N (spec_treeSize.R N d) N) x0 x1

def spec_treeSize (N : Nat) (x0 : ImplTree) (x1 : Int) : Option (Int × Unit) := spec_treeSize.R N N x0 x1

def spec_decimal.B (N : Nat) (R_spec_decimal : Int → Option ((List UInt8) × Unit)) (x0 : Int) : Option ((List UInt8) × Unit) :=
 br (decide (x0 < (0 : Int))) (
  bnd (R_spec_decimal (IntKind.i64.wrap ((0 : Int) - x0))) fun r1 =>
  gd (decide (((List.length ([45] : List (UInt8))) + (List.length (r1).1)) < 68719476736)) (
  some ((([45] : List (UInt8)) ++ (r1).1), ()))) (
  br (decide (x0 < (10 : Int))) (
  gd (decide ((0 : Int) ≤ x0)) (
  gd (decide (x0 ≤ (IntKind.i64.wrap (x0 + (1 : Int))))) (
  gd (decide ((IntKind.i64.wrap (x0 + (1 : Int))) ≤ (((List.length ([48, 49, 50, 51, 52, 53, 54, 55, 56, 57] : List (UInt8))) : Nat) : Int))) (
  some ((sub ([48, 49, 50, 51, 52, 53, 54, 55, 56, 57] : List (UInt8)) x0 (IntKind.i64.wrap (x0 + (1 : Int)))), ()))))) (
  bnd (R_spec_decimal (IntKind.i64.wrap (Int.tdiv x0 (10 : Int)))) fun r2 =>
 bnd (R_spec_decimal (Int.tmod x0 (10 : Int))) fun r3 =>
 gd (decide (((List.length (r2).1) + (List.length (r3).1)) < 68719476736)) (
 some (((r2).1 ++ (r3).1), ()))))

def spec_decimal.R (N : Nat) : Nat → Int → Option ((List UInt8) × Unit)
  | 0, _ => none
  | d + 1, x0 => spec_decimal.B N (spec_decimal.R N d) x0

def spec_decimal (N : Nat) (x0 : Int) : Option ((List UInt8) × Unit) := spec_decimal.R N N x0

def spec_validShown.B0 (N : Nat) (G0 : (List UInt8) × Int × Unit → Option (Bool × Unit)) : (List UInt8) × Int × Unit → Option (Bool × Unit) :=
fun (x3, x4, ()) =>
 br (decide (x4 ≤ (1000 : Int))) (
  bnd (spec_decimal N (IntKind.i64.wrap ((0 : Int) - x4))) fun r6 =>
  br (x3 == (r6).1) (
   some (true, ())) (
   G0 (x3, (IntKind.i64.wrap (x4 + (1 : Int))), ()))) (
  some (false, ()))

def spec_validShown.B (N : Nat) (E0 : (List UInt8) × Int × Unit → Option (Bool × Unit)) (x0 : List UInt8) : Option (Bool × Unit) :=
 br ((((List.length x0) : Nat) : Int) == (0 : Int)) (
  bnd (spec_validWord N x0) fun r1 =>
  some ((r1).1, ())) (
  gd (decide ((0 : Int) < (((List.length x0) : Nat) : Int))) (
 br ((((UInt8.toNat (List.getD x0 (Int.toNat (0 : Int)) 0)) : Nat) : Int) != (45 : Int)) (
  bnd (spec_validWord N x0) fun r2 =>
  some ((r2).1, ())) (
  E0 (x0, (1 : Int), ()))))

def spec_validShown.L0 (N : Nat) : Nat → (List UInt8) × Int × Unit → Option (Bool × Unit)
  | 0, _ => none
  | n + 1, x => spec_validShown.B0 N (spec_validShown.L0 N n) x

def spec_validShown (N : Nat) (x0 : List UInt8) : Option (Bool × Unit) := spec_validShown.B N (spec_validShown.L0 N N) x0

def spec_validPropList.B0 (N : Nat) (G0 : (List (ImplProp)) × Int × Unit → Option (Bool × Unit)) : (List (ImplProp)) × Int × Unit → Option (Bool × Unit) :=
fun (x1, x2, ()) =>
 br (decide (x2 < (((List.length x1) : Nat) : Int))) (
  gd (decide ((0 : Int) ≤ x2)) (
  gd (decide (x2 < (((List.length x1) : Nat) : Int))) (
  bnd (spec_inRange N (ImplProp.name (get x1 x2)) (0 : Int) (3 : Int)) fun r4 =>
  br (!(r4).1) (
   some (false, ())) (
   gd (decide ((0 : Int) ≤ x2)) (
  gd (decide (x2 < (((List.length x1) : Nat) : Int))) (
  bnd (spec_validValue N (ImplValue.mk (ImplProp.val_Kind (get x1 x2)) (ImplProp.val_Num (get x1 x2)) (ImplProp.val_Text (get x1 x2)))) fun r5 =>
  br (!(r5).1) (
   some (false, ())) (
   br (decide (x2 > (0 : Int))) (
   gd (decide ((0 : Int) ≤ x2)) (
   gd (decide (x2 < (((List.length x1) : Nat) : Int))) (
   gd (decide ((0 : Int) ≤ (IntKind.i64.wrap (x2 - (1 : Int))))) (
   gd (decide ((IntKind.i64.wrap (x2 - (1 : Int))) < (((List.length x1) : Nat) : Int))) (
   br (decide ((ImplProp.name (get x1 x2)) ≤ (ImplProp.name (get x1 (IntKind.i64.wrap (x2 - (1 : Int))))))) (
    some (false, ())) (
    G0 (x1, (IntKind.i64.wrap (x2 + (1 : Int))), ()))))))) (
   G0 (x1, (IntKind.i64.wrap (x2 + (1 : Int))), ()))))))))) (
  some (true, ()))

def spec_validPropList.B (N : Nat) (E0 : (List (ImplProp)) × Int × Unit → Option (Bool × Unit)) (x0 : List (ImplProp)) : Option (Bool × Unit) :=
 E0 (x0, (0 : Int), ())

def spec_validPropList.L0 (N : Nat) : Nat → (List (ImplProp)) × Int × Unit → Option (Bool × Unit)
  | 0, _ => none
  | n + 1, x => spec_validPropList.B0 N (spec_validPropList.L0 N n) x

def spec_validPropList (N : Nat) (x0 : List (ImplProp)) : Option (Bool × Unit) := spec_validPropList.B N (spec_validPropList.L0 N N) x0

def spec_keysApart.B2 (N : Nat) (G0 : (List (ImplTree)) × Int × Unit → Option (Bool × Unit)) (G2 : (List (ImplTree)) × Int × Int × Unit → Option (Bool × Unit)) : (List (ImplTree)) × Int × Int × Unit → Option (Bool × Unit) :=
fun (x4, x5, x6, ()) =>
 br (decide (x6 < x5)) (
  gd (decide ((0 : Int) ≤ x5)) (
  gd (decide (x5 < (((List.length x4) : Nat) : Int))) (
  br ((ImplTree.key (get x4 x5)) != (-(1 : Int))) (
   gd (decide ((0 : Int) ≤ x5)) (
   gd (decide (x5 < (((List.length x4) : Nat) : Int))) (
   gd (decide ((0 : Int) ≤ x6)) (
   gd (decide (x6 < (((List.length x4) : Nat) : Int))) (
   br ((ImplTree.key (get x4 x5)) == (ImplTree.key (get x4 x6))) (
    some (false, ())) (
    G2 (x4, x5, (IntKind.i64.wrap (x6 + (1 : Int))), ()))))))) (
   G2 (x4, x5, (IntKind.i64.wrap (x6 + (1 : Int))), ()))))) (
  G0 (x4, (IntKind.i64.wrap (x5 + (1 : Int))), ()))

def spec_keysApart.B0 (N : Nat) (E2 : (List (ImplTree)) × Int × Int × Unit → Option (Bool × Unit)) : (List (ImplTree)) × Int × Unit → Option (Bool × Unit) :=
fun (x1, x2, ()) =>
 br (decide (x2 < (((List.length x1) : Nat) : Int))) (
  E2 (x1, x2, (0 : Int), ())) (
  some (true, ()))

def spec_keysApart.B (N : Nat) (E0 : (List (ImplTree)) × Int × Unit → Option (Bool × Unit)) (x0 : List (ImplTree)) : Option (Bool × Unit) :=
 E0 (x0, (0 : Int), ())

def spec_keysApart.L2 (N : Nat) (G0 : (List (ImplTree)) × Int × Unit → Option (Bool × Unit)) : Nat → (List (ImplTree)) × Int × Int × Unit → Option (Bool × Unit)
  | 0, _ => none
  | n + 1, x => spec_keysApart.B2 N G0 (spec_keysApart.L2 N G0 n) x

def spec_keysApart.L0 (N : Nat) : Nat → (List (ImplTree)) × Int × Unit → Option (Bool × Unit)
  | 0, _ => none
  | n + 1, x => spec_keysApart.B0 N (spec_keysApart.L2 N (spec_keysApart.L0 N n) N) x

def spec_keysApart (N : Nat) (x0 : List (ImplTree)) : Option (Bool × Unit) := spec_keysApart.B N (spec_keysApart.L0 N N) x0

def spec_validPart.B0 (N : Nat) (R_spec_validPart : ImplTree → Option (Bool × Unit)) (G0 : ImplTree × Int × Unit → Option (Bool × Unit)) : ImplTree × Int × Unit → Option (Bool × Unit) :=
fun (x5, x6, ()) =>
 br (decide (x6 < (((List.length (ImplTree.kids x5)) : Nat) : Int))) (
  gd (decide ((0 : Int) ≤ x6)) (
  gd (decide (x6 < (((List.length (ImplTree.kids x5)) : Nat) : Int))) (
  bnd (R_spec_validPart (ImplTree.mk (ImplTree.tag (get (ImplTree.kids x5) x6)) (ImplTree.key (get (ImplTree.kids x5) x6)) (ImplTree.text (get (ImplTree.kids x5) x6)) (ImplTree.props (get (ImplTree.kids x5) x6)) (ImplTree.kids (get (ImplTree.kids x5) x6)))) fun r8 =>
  br (!(r8).1) (
   some (false, ())) (
   G0 ((ImplTree.mk (ImplTree.tag x5) (ImplTree.key x5) (ImplTree.text x5) (ImplTree.props x5) (ImplTree.kids x5)), (IntKind.i64.wrap (x6 + (1 : Int))), ()))))) (
  bnd (spec_keysApart N (ImplTree.kids x5)) fun r9 =>
 some ((r9).1, ()))

def spec_validPart.B (N : Nat) (R_spec_validPart : ImplTree → Option (Bool × Unit)) (E0 : ImplTree × Int × Unit → Option (Bool × Unit)) (x0 : ImplTree) : Option (Bool × Unit) :=
 br ((ImplTree.tag x0) == (-(1 : Int))) (
  br ((ImplTree.key x0) == (-(1 : Int))) (
   br ((((List.length (ImplTree.props x0)) : Nat) : Int) == (0 : Int)) (
    br ((((List.length (ImplTree.kids x0)) : Nat) : Int) == (0 : Int)) (
     bnd (spec_validShown N (ImplTree.text x0)) fun r1 =>
     some ((r1).1, ())) (
     some (false, ()))) (
    some (false, ()))) (
   some (false, ()))) (
  bnd (spec_inRange N (ImplTree.tag x0) (0 : Int) (4 : Int)) fun r2 =>
 br (!(r2).1) (
  some (false, ())) (
  bnd (spec_inRange N (ImplTree.key x0) (-(1 : Int)) (99 : Int)) fun r3 =>
 br (!(r3).1) (
  some (false, ())) (
  br (!((ImplTree.text x0) == ([] : List (UInt8)))) (
  some (false, ())) (
  bnd (spec_validPropList N (ImplTree.props x0)) fun r4 =>
 br (!(r4).1) (
  some (false, ())) (
  E0 ((ImplTree.mk (ImplTree.tag x0) (ImplTree.key x0) (ImplTree.text x0) (ImplTree.props x0) (ImplTree.kids x0)), (0 : Int), ()))))))

def spec_validPart.L0 (N : Nat) (R_spec_validPart : ImplTree → Option (Bool × Unit)) : Nat → ImplTree × Int × Unit → Option (Bool × Unit)
  | 0, _ => none
  | n + 1, x => spec_validPart.B0 N R_spec_validPart (spec_validPart.L0 N R_spec_validPart n) x

def spec_validPart.R (N : Nat) : Nat → ImplTree → Option (Bool × Unit)
  | 0, _ => none
  | d + 1, x0 => spec_validPart.B N (spec_validPart.R N d) (spec_validPart.L0 N (spec_validPart.R N d) N) x0

def spec_validPart (N : Nat) (x0 : ImplTree) : Option (Bool × Unit) := spec_validPart.R N N x0

def spec_validTree.B (N : Nat) (x0 : ImplTree) : Option (Bool × Unit) :=
 bnd (spec_treeSize N (ImplTree.mk (ImplTree.tag x0) (ImplTree.key x0) (ImplTree.text x0) (ImplTree.props x0) (ImplTree.kids x0)) (1 : Int)) fun r1 =>
 br (decide ((r1).1 ≤ (200 : Int))) (
  bnd (spec_validPart N (ImplTree.mk (ImplTree.tag x0) (ImplTree.key x0) (ImplTree.text x0) (ImplTree.props x0) (ImplTree.kids x0))) fun r2 =>
  some ((r2).1, ())) (
  some (false, ()))

def spec_validTree (N : Nat) (x0 : ImplTree) : Option (Bool × Unit) := spec_validTree.B N x0

def spec_partAt.B0 (N : Nat) (G0 : (List (Int)) × ImplTree × ImplTree × Int × Unit → Option (ImplTree × Bool × Unit)) : (List (Int)) × ImplTree × ImplTree × Int × Unit → Option (ImplTree × Bool × Unit) :=
fun (x2, x3, x4, x5, ()) =>
 br (decide (x5 < (((List.length x2) : Nat) : Int))) (
  gd (decide ((0 : Int) ≤ x5)) (
  gd (decide (x5 < (((List.length x2) : Nat) : Int))) (
  bnd (spec_inRange N (get x2 x5) (0 : Int) (IntKind.i64.wrap ((((List.length (ImplTree.kids x3)) : Nat) : Int) - (1 : Int)))) fun r7 =>
  br (!(r7).1) (
   some ((ImplTree.mk (0 : Int) (0 : Int) ([] : List (UInt8)) ([] : List (ImplProp)) ([] : List (ImplTree))), false, ())) (
   gd (decide ((0 : Int) ≤ x5)) (
  gd (decide (x5 < (((List.length x2) : Nat) : Int))) (
  gd (decide ((0 : Int) ≤ (get x2 x5))) (
  gd (decide ((get x2 x5) < (((List.length (ImplTree.kids x3)) : Nat) : Int))) (
  G0 (x2, (ImplTree.mk (ImplTree.tag (get (ImplTree.kids x3) (get x2 x5))) (ImplTree.key (get (ImplTree.kids x3) (get x2 x5))) (ImplTree.text (get (ImplTree.kids x3) (get x2 x5))) (ImplTree.props (get (ImplTree.kids x3) (get x2 x5))) (ImplTree.kids (get (ImplTree.kids x3) (get x2 x5)))), (ImplTree.mk (ImplTree.tag x4) (ImplTree.key x4) (ImplTree.text x4) (ImplTree.props x4) (ImplTree.kids x4)), (IntKind.i64.wrap (x5 + (1 : Int))), ()))))))))) (
  some ((ImplTree.mk (ImplTree.tag x3) (ImplTree.key x3) (ImplTree.text x3) (ImplTree.props x3) (ImplTree.kids x3)), true, ()))

def spec_partAt.B (N : Nat) (E0 : (List (Int)) × ImplTree × ImplTree × Int × Unit → Option (ImplTree × Bool × Unit)) (x0 : ImplTree) (x1 : List (Int)) : Option (ImplTree × Bool × Unit) :=
 E0 (x1, (ImplTree.mk (ImplTree.tag x0) (ImplTree.key x0) (ImplTree.text x0) (ImplTree.props x0) (ImplTree.kids x0)), (ImplTree.mk (0 : Int) (0 : Int) ([] : List (UInt8)) ([] : List (ImplProp)) ([] : List (ImplTree))), (0 : Int), ())

def spec_partAt.L0 (N : Nat) : Nat → (List (Int)) × ImplTree × ImplTree × Int × Unit → Option (ImplTree × Bool × Unit)
  | 0, _ => none
  | n + 1, x => spec_partAt.B0 N (spec_partAt.L0 N n) x

def spec_partAt (N : Nat) (x0 : ImplTree) (x1 : List (Int)) : Option (ImplTree × Bool × Unit) := spec_partAt.B N (spec_partAt.L0 N N) x0 x1

def spec_partners.J14 (N : Nat) (G0 : (List (ImplTree)) × (List (ImplTree)) × (List (Int)) × (List (Bool)) × Int × Unit → Option ((List (Int)) × Unit)) : (List (ImplTree)) × (List (ImplTree)) × (List (Int)) × (List (Bool)) × Int × Int × Unit → Option ((List (Int)) × Unit) :=
fun (x16, x17, x18, x19, x20, x21, ()) =>
 gd (decide (((List.length x18) + (List.length ([x21] : List (Int)))) < 68719476736)) (
 G0 (x16, x17, (x18 ++ ([x21] : List (Int))), x19, (IntKind.i64.wrap (x20 + (1 : Int))), ()))

def spec_partners.B2 (N : Nat) (G0 : (List (ImplTree)) × (List (ImplTree)) × (List (Int)) × (List (Bool)) × Int × Unit → Option ((List (Int)) × Unit)) (G2 : (List (ImplTree)) × (List (ImplTree)) × (List (Int)) × (List (Bool)) × Int × Int × Int × Unit → Option ((List (Int)) × Unit)) : (List (ImplTree)) × (List (ImplTree)) × (List (Int)) × (List (Bool)) × Int × Int × Int × Unit → Option ((List (Int)) × Unit) :=
fun (x8, x9, x10, x11, x12, x13, x14, ()) =>
 br (decide (x14 < (((List.length x8) : Nat) : Int))) (
  br (decide (x13 < (0 : Int))) (
   gd (decide ((0 : Int) ≤ x14)) (
   gd (decide (x14 < (((List.length x11) : Nat) : Int))) (
   br (!(get x11 x14)) (
    gd (decide ((0 : Int) ≤ x14)) (
    gd (decide (x14 < (((List.length x8) : Nat) : Int))) (
    gd (decide ((0 : Int) ≤ x12)) (
    gd (decide (x12 < (((List.length x9) : Nat) : Int))) (
    br ((ImplTree.tag (get x8 x14)) == (ImplTree.tag (get x9 x12))) (
     gd (decide ((0 : Int) ≤ x14)) (
     gd (decide (x14 < (((List.length x8) : Nat) : Int))) (
     gd (decide ((0 : Int) ≤ x12)) (
     gd (decide (x12 < (((List.length x9) : Nat) : Int))) (
     br ((ImplTree.key (get x8 x14)) == (ImplTree.key (get x9 x12))) (
      G2 (x8, x9, x10, x11, x12, x14, (IntKind.i64.wrap (x14 + (1 : Int))), ())) (
      G2 (x8, x9, x10, x11, x12, x13, (IntKind.i64.wrap (x14 + (1 : Int))), ()))))))) (
     G2 (x8, x9, x10, x11, x12, x13, (IntKind.i64.wrap (x14 + (1 : Int))), ()))))))) (
    G2 (x8, x9, x10, x11, x12, x13, (IntKind.i64.wrap (x14 + (1 : Int))), ()))))) (
   br (decide (x13 ≥ (0 : Int))) (
   gd (decide ((0 : Int) ≤ x13)) (
   gd (decide (x13 < (((List.length x11) : Nat) : Int))) (
   spec_partners.J14 N G0 (x8, x9, x10, (List.set x11 (Int.toNat x13) true), x12, x13, ())))) (
   spec_partners.J14 N G0 (x8, x9, x10, x11, x12, x13, ())))) (
  br (decide (x13 ≥ (0 : Int))) (
  gd (decide ((0 : Int) ≤ x13)) (
  gd (decide (x13 < (((List.length x11) : Nat) : Int))) (
  spec_partners.J14 N G0 (x8, x9, x10, (List.set x11 (Int.toNat x13) true), x12, x13, ())))) (
  spec_partners.J14 N G0 (x8, x9, x10, x11, x12, x13, ())))

def spec_partners.B0 (N : Nat) (E2 : (List (ImplTree)) × (List (ImplTree)) × (List (Int)) × (List (Bool)) × Int × Int × Int × Unit → Option ((List (Int)) × Unit)) : (List (ImplTree)) × (List (ImplTree)) × (List (Int)) × (List (Bool)) × Int × Unit → Option ((List (Int)) × Unit) :=
fun (x2, x3, x4, x5, x6, ()) =>
 br (decide (x6 < (((List.length x3) : Nat) : Int))) (
  E2 (x2, x3, x4, x5, x6, (-(1 : Int)), (0 : Int), ())) (
  some (x4, ()))

def spec_partners.B (N : Nat) (E0 : (List (ImplTree)) × (List (ImplTree)) × (List (Int)) × (List (Bool)) × Int × Unit → Option ((List (Int)) × Unit)) (x0 : List (ImplTree)) (x1 : List (ImplTree)) : Option ((List (Int)) × Unit) :=
 gd (decide ((((List.length x0) : Nat) : Int) = (((List.length x0) : Nat) : Int))) (
 gd (decide ((0 : Int) ≤ (((List.length x0) : Nat) : Int))) (
 gd (decide ((((List.length x0) : Nat) : Int) < ((68719476736 : Nat) : Int))) (
 E0 (x0, x1, ([] : List (Int)), (List.replicate (Int.toNat (((List.length x0) : Nat) : Int)) false), (0 : Int), ()))))

def spec_partners.L2 (N : Nat) (G0 : (List (ImplTree)) × (List (ImplTree)) × (List (Int)) × (List (Bool)) × Int × Unit → Option ((List (Int)) × Unit)) : Nat → (List (ImplTree)) × (List (ImplTree)) × (List (Int)) × (List (Bool)) × Int × Int × Int × Unit → Option ((List (Int)) × Unit)
  | 0, _ => none
  | n + 1, x => spec_partners.B2 N G0 (spec_partners.L2 N G0 n) x

def spec_partners.L0 (N : Nat) : Nat → (List (ImplTree)) × (List (ImplTree)) × (List (Int)) × (List (Bool)) × Int × Unit → Option ((List (Int)) × Unit)
  | 0, _ => none
  | n + 1, x => spec_partners.B0 N (spec_partners.L2 N (spec_partners.L0 N n) N) x

def spec_partners (N : Nat) (x0 : List (ImplTree)) (x1 : List (ImplTree)) : Option ((List (Int)) × Unit) := spec_partners.B N (spec_partners.L0 N N) x0 x1

def spec_indexOf.B0 (N : Nat) (G0 : (List (Int)) × Int × Int × Unit → Option (Int × Unit)) : (List (Int)) × Int × Int × Unit → Option (Int × Unit) :=
fun (x2, x3, x4, ()) =>
 br (decide (x4 < (((List.length x2) : Nat) : Int))) (
  gd (decide ((0 : Int) ≤ x4)) (
  gd (decide (x4 < (((List.length x2) : Nat) : Int))) (
  br ((get x2 x4) == x3) (
   some (x4, ())) (
   G0 (x2, x3, (IntKind.i64.wrap (x4 + (1 : Int))), ()))))) (
  some ((-(1 : Int)), ()))

def spec_indexOf.B (N : Nat) (E0 : (List (Int)) × Int × Int × Unit → Option (Int × Unit)) (x0 : List (Int)) (x1 : Int) : Option (Int × Unit) :=
 E0 (x0, x1, (0 : Int), ())

def spec_indexOf.L0 (N : Nat) : Nat → (List (Int)) × Int × Int × Unit → Option (Int × Unit)
  | 0, _ => none
  | n + 1, x => spec_indexOf.B0 N (spec_indexOf.L0 N n) x

def spec_indexOf (N : Nat) (x0 : List (Int)) (x1 : Int) : Option (Int × Unit) := spec_indexOf.B N (spec_indexOf.L0 N N) x0 x1

def spec_wayAfter.B0 (N : Nat) (G0 : (List (Int)) × ImplTree × ImplTree × (List (Int)) × Int × Unit → Option ((List (Int)) × Bool × Unit)) : (List (Int)) × ImplTree × ImplTree × (List (Int)) × Int × Unit → Option ((List (Int)) × Bool × Unit) :=
fun (x3, x4, x5, x6, x7, ()) =>
 br (decide (x7 < (((List.length x3) : Nat) : Int))) (
  bnd (spec_partners N (ImplTree.kids x4) (ImplTree.kids x5)) fun r9 =>
  gd (decide ((0 : Int) ≤ x7)) (
  gd (decide (x7 < (((List.length x3) : Nat) : Int))) (
  bnd (spec_indexOf N (r9).1 (get x3 x7)) fun r10 =>
  br (decide ((r10).1 < (0 : Int))) (
   some (([] : List (Int)), false, ())) (
   gd (decide (((List.length x6) + (List.length ([(r10).1] : List (Int)))) < 68719476736)) (
  gd (decide ((0 : Int) ≤ x7)) (
  gd (decide (x7 < (((List.length x3) : Nat) : Int))) (
  gd (decide ((0 : Int) ≤ (get x3 x7))) (
  gd (decide ((get x3 x7) < (((List.length (ImplTree.kids x4)) : Nat) : Int))) (
  gd (decide ((0 : Int) ≤ (r10).1)) (
  gd (decide ((r10).1 < (((List.length (ImplTree.kids x5)) : Nat) : Int))) (
  G0 (x3, (ImplTree.mk (ImplTree.tag (get (ImplTree.kids x4) (get x3 x7))) (ImplTree.key (get (ImplTree.kids x4) (get x3 x7))) (ImplTree.text (get (ImplTree.kids x4) (get x3 x7))) (ImplTree.props (get (ImplTree.kids x4) (get x3 x7))) (ImplTree.kids (get (ImplTree.kids x4) (get x3 x7)))), (ImplTree.mk (ImplTree.tag (get (ImplTree.kids x5) (r10).1)) (ImplTree.key (get (ImplTree.kids x5) (r10).1)) (ImplTree.text (get (ImplTree.kids x5) (r10).1)) (ImplTree.props (get (ImplTree.kids x5) (r10).1)) (ImplTree.kids (get (ImplTree.kids x5) (r10).1))), (x6 ++ ([(r10).1] : List (Int))), (IntKind.i64.wrap (x7 + (1 : Int))), ())))))))))))) (
  some (x6, true, ()))

def spec_wayAfter.B (N : Nat) (E0 : (List (Int)) × ImplTree × ImplTree × (List (Int)) × Int × Unit → Option ((List (Int)) × Bool × Unit)) (x0 : ImplTree) (x1 : ImplTree) (x2 : List (Int)) : Option ((List (Int)) × Bool × Unit) :=
 br ((ImplTree.tag x0) != (ImplTree.tag x1)) (
  some (([] : List (Int)), false, ())) (
  br ((ImplTree.key x0) != (ImplTree.key x1)) (
  some (([] : List (Int)), false, ())) (
  E0 (x2, (ImplTree.mk (ImplTree.tag x0) (ImplTree.key x0) (ImplTree.text x0) (ImplTree.props x0) (ImplTree.kids x0)), (ImplTree.mk (ImplTree.tag x1) (ImplTree.key x1) (ImplTree.text x1) (ImplTree.props x1) (ImplTree.kids x1)), ([] : List (Int)), (0 : Int), ())))

def spec_wayAfter.L0 (N : Nat) : Nat → (List (Int)) × ImplTree × ImplTree × (List (Int)) × Int × Unit → Option ((List (Int)) × Bool × Unit)
  | 0, _ => none
  | n + 1, x => spec_wayAfter.B0 N (spec_wayAfter.L0 N n) x

def spec_wayAfter (N : Nat) (x0 : ImplTree) (x1 : ImplTree) (x2 : List (Int)) : Option ((List (Int)) × Bool × Unit) := spec_wayAfter.B N (spec_wayAfter.L0 N N) x0 x1 x2

def spec_WayAfter.B (N : Nat) (x0 : ImplTree) (x1 : ImplTree) (x2 : List (Int)) : Option ((List (Int)) × Bool × Unit) :=
 bnd (spec_validTree N (ImplTree.mk (ImplTree.tag x0) (ImplTree.key x0) (ImplTree.text x0) (ImplTree.props x0) (ImplTree.kids x0))) fun r3 =>
 br (!(r3).1) (
  some (([] : List (Int)), false, ())) (
  bnd (spec_validTree N (ImplTree.mk (ImplTree.tag x1) (ImplTree.key x1) (ImplTree.text x1) (ImplTree.props x1) (ImplTree.kids x1))) fun r4 =>
 br (!(r4).1) (
  some (([] : List (Int)), false, ())) (
  bnd (spec_partAt N (ImplTree.mk (ImplTree.tag x0) (ImplTree.key x0) (ImplTree.text x0) (ImplTree.props x0) (ImplTree.kids x0)) x2) fun r5 =>
 br (!((r5).2).1) (
  some (([] : List (Int)), false, ())) (
  bnd (spec_wayAfter N (ImplTree.mk (ImplTree.tag x0) (ImplTree.key x0) (ImplTree.text x0) (ImplTree.props x0) (ImplTree.kids x0)) (ImplTree.mk (ImplTree.tag x1) (ImplTree.key x1) (ImplTree.text x1) (ImplTree.props x1) (ImplTree.kids x1)) x2) fun r6 =>
 some ((r6).1, ((r6).2).1, ()))))

def spec_WayAfter (N : Nat) (x0 : ImplTree) (x1 : ImplTree) (x2 : List (Int)) : Option ((List (Int)) × Bool × Unit) := spec_WayAfter.B N x0 x1 x2

def spec_SameInts.B0 (N : Nat) (G0 : (List (Int)) × (List (Int)) × Int × Unit → Option (Bool × Unit)) : (List (Int)) × (List (Int)) × Int × Unit → Option (Bool × Unit) :=
fun (x2, x3, x4, ()) =>
 br (decide (x4 < (((List.length x2) : Nat) : Int))) (
  gd (decide ((0 : Int) ≤ x4)) (
  gd (decide (x4 < (((List.length x2) : Nat) : Int))) (
  gd (decide ((0 : Int) ≤ x4)) (
  gd (decide (x4 < (((List.length x3) : Nat) : Int))) (
  br ((get x2 x4) != (get x3 x4)) (
   some (false, ())) (
   G0 (x2, x3, (IntKind.i64.wrap (x4 + (1 : Int))), ()))))))) (
  some (true, ()))

def spec_SameInts.B (N : Nat) (E0 : (List (Int)) × (List (Int)) × Int × Unit → Option (Bool × Unit)) (x0 : List (Int)) (x1 : List (Int)) : Option (Bool × Unit) :=
 br ((((List.length x0) : Nat) : Int) != (((List.length x1) : Nat) : Int)) (
  some (false, ())) (
  E0 (x0, x1, (0 : Int), ()))

def spec_SameInts.L0 (N : Nat) : Nat → (List (Int)) × (List (Int)) × Int × Unit → Option (Bool × Unit)
  | 0, _ => none
  | n + 1, x => spec_SameInts.B0 N (spec_SameInts.L0 N n) x

def spec_SameInts (N : Nat) (x0 : List (Int)) (x1 : List (Int)) : Option (Bool × Unit) := spec_SameInts.B N (spec_SameInts.L0 N N) x0 x1

def impl_treesCopy.B0 (N : Nat) (R_impl_treesCopy : List (ImplTree) → Option ((List (ImplTree)) × Unit)) (R_impl_treeCopy : ImplTree → Option (ImplTree × Unit)) (G0 : (List (ImplTree)) × (List (ImplTree)) × Int × Int × Unit → Option ((List (ImplTree)) × Unit)) : (List (ImplTree)) × (List (ImplTree)) × Int × Int × Unit → Option ((List (ImplTree)) × Unit) :=
fun (x1, x2, x3, x4, ()) =>
 br (decide (x4 < x3)) (
  gd (decide ((0 : Int) ≤ x4)) (
  gd (decide (x4 < (((List.length x2) : Nat) : Int))) (
  bnd (R_impl_treeCopy (ImplTree.mk (ImplTree.tag (get x2 x4)) (ImplTree.key (get x2 x4)) (ImplTree.text (get x2 x4)) (ImplTree.props (get x2 x4)) (ImplTree.kids (get x2 x4)))) fun r6 =>
  gd (decide (((List.length x1) + (List.length ([(ImplTree.mk (ImplTree.tag (r6).1) (ImplTree.key (r6).1) (ImplTree.text (r6).1) (ImplTree.props (r6).1) (ImplTree.kids (r6).1))] : List (ImplTree)))) < 68719476736)) (
  G0 ((x1 ++ ([(ImplTree.mk (ImplTree.tag (r6).1) (ImplTree.key (r6).1) (ImplTree.text (r6).1) (ImplTree.props (r6).1) (ImplTree.kids (r6).1))] : List (ImplTree))), x2, x3, (IntKind.i64.wrap (x4 + (1 : Int))), ()))))) (
  some (x1, ()))

def impl_treesCopy.B (N : Nat) (R_impl_treesCopy : List (ImplTree) → Option ((List (ImplTree)) × Unit)) (R_impl_treeCopy : ImplTree → Option (ImplTree × Unit)) (E0 : (List (ImplTree)) × (List (ImplTree)) × Int × Int × Unit → Option ((List (ImplTree)) × Unit)) (x0 : List (ImplTree)) : Option ((List (ImplTree)) × Unit) :=
 E0 (([] : List (ImplTree)), x0, (((List.length x0) : Nat) : Int), (0 : Int), ())

def impl_treesCopy.L0 (N : Nat) (R_impl_treesCopy : List (ImplTree) → Option ((List (ImplTree)) × Unit)) (R_impl_treeCopy : ImplTree → Option (ImplTree × Unit)) : Nat → (List (ImplTree)) × (List (ImplTree)) × Int × Int × Unit → Option ((List (ImplTree)) × Unit)
  | 0, _ => none
  | n + 1, x => impl_treesCopy.B0 N R_impl_treesCopy R_impl_treeCopy (impl_treesCopy.L0 N R_impl_treesCopy R_impl_treeCopy n) x

def impl_treeCopy.B (N : Nat) (R_impl_treesCopy : List (ImplTree) → Option ((List (ImplTree)) × Unit)) (R_impl_treeCopy : ImplTree → Option (ImplTree × Unit)) (x0 : ImplTree) : Option (ImplTree × Unit) :=
 gd (decide ((List.length (ImplTree.props x0)) < 68719476736)) (
 bnd (R_impl_treesCopy (ImplTree.kids x0)) fun r1 =>
 some ((ImplTree.mk (ImplTree.tag x0) (ImplTree.key x0) (ImplTree.text x0) (ImplTree.props x0) (r1).1), ()))

mutual
def impl_treesCopy.R (N : Nat) : Nat → List (ImplTree) → Option ((List (ImplTree)) × Unit)
  | 0, _ => none
  | d + 1, x0 => impl_treesCopy.B N (impl_treesCopy.R N d) (impl_treeCopy.R N d) (impl_treesCopy.L0 N (impl_treesCopy.R N d) (impl_treeCopy.R N d) N) x0

def impl_treeCopy.R (N : Nat) : Nat → ImplTree → Option (ImplTree × Unit)
  | 0, _ => none
  | d + 1, x0 => impl_treeCopy.B N (impl_treesCopy.R N d) (impl_treeCopy.R N d) x0

end

def impl_treesCopy (N : Nat) (x0 : List (ImplTree)) : Option ((List (ImplTree)) × Unit) := impl_treesCopy.R N N x0

def impl_treeCopy (N : Nat) (x0 : ImplTree) : Option (ImplTree × Unit) := impl_treeCopy.R N N x0

def impl_TreeAt.B0 (N : Nat) (G0 : ImplTree × ImplTree × (List (Int)) × Int × Int × Unit → Option (ImplTree × Bool × Unit)) : ImplTree × ImplTree × (List (Int)) × Int × Int × Unit → Option (ImplTree × Bool × Unit) :=
fun (x3, x4, x5, x6, x7, ()) =>
 br (decide (x7 < x6)) (
  gd (decide ((0 : Int) ≤ x7)) (
  gd (decide (x7 < (((List.length x5) : Nat) : Int))) (
  bnd (impl_within N (get x5 x7) (0 : Int) (IntKind.i64.wrap ((((List.length (ImplTree.kids x3)) : Nat) : Int) - (1 : Int)))) fun r9 =>
  br (!(r9).1) (
   some ((ImplTree.mk (0 : Int) (0 : Int) ([] : List (UInt8)) ([] : List (ImplProp)) ([] : List (ImplTree))), false, ())) (
   gd (decide ((0 : Int) ≤ (get x5 x7))) (
  gd (decide ((get x5 x7) < (((List.length (ImplTree.kids x3)) : Nat) : Int))) (
  G0 ((ImplTree.mk (ImplTree.tag (get (ImplTree.kids x3) (get x5 x7))) (ImplTree.key (get (ImplTree.kids x3) (get x5 x7))) (ImplTree.text (get (ImplTree.kids x3) (get x5 x7))) (ImplTree.props (get (ImplTree.kids x3) (get x5 x7))) (ImplTree.kids (get (ImplTree.kids x3) (get x5 x7)))), (ImplTree.mk (ImplTree.tag x4) (ImplTree.key x4) (ImplTree.text x4) (ImplTree.props x4) (ImplTree.kids x4)), x5, x6, (IntKind.i64.wrap (x7 + (1 : Int))), ()))))))) (
  bnd (impl_treeCopy N (ImplTree.mk (ImplTree.tag x3) (ImplTree.key x3) (ImplTree.text x3) (ImplTree.props x3) (ImplTree.kids x3))) fun r10 =>
 some ((ImplTree.mk (ImplTree.tag (r10).1) (ImplTree.key (r10).1) (ImplTree.text (r10).1) (ImplTree.props (r10).1) (ImplTree.kids (r10).1)), true, ()))

def impl_TreeAt.B (N : Nat) (E0 : ImplTree × ImplTree × (List (Int)) × Int × Int × Unit → Option (ImplTree × Bool × Unit)) (x0 : ImplTree) (x1 : List (Int)) : Option (ImplTree × Bool × Unit) :=
 bnd (impl_TreeOk N (ImplTree.mk (ImplTree.tag x0) (ImplTree.key x0) (ImplTree.text x0) (ImplTree.props x0) (ImplTree.kids x0))) fun r2 =>
 br (!(r2).1) (
  some ((ImplTree.mk (0 : Int) (0 : Int) ([] : List (UInt8)) ([] : List (ImplProp)) ([] : List (ImplTree))), false, ())) (
  E0 ((ImplTree.mk (ImplTree.tag x0) (ImplTree.key x0) (ImplTree.text x0) (ImplTree.props x0) (ImplTree.kids x0)), (ImplTree.mk (0 : Int) (0 : Int) ([] : List (UInt8)) ([] : List (ImplProp)) ([] : List (ImplTree))), x1, (((List.length x1) : Nat) : Int), (0 : Int), ()))

def impl_TreeAt.L0 (N : Nat) : Nat → ImplTree × ImplTree × (List (Int)) × Int × Int × Unit → Option (ImplTree × Bool × Unit)
  | 0, _ => none
  | n + 1, x => impl_TreeAt.B0 N (impl_TreeAt.L0 N n) x

def impl_TreeAt (N : Nat) (x0 : ImplTree) (x1 : List (Int)) : Option (ImplTree × Bool × Unit) := impl_TreeAt.B N (impl_TreeAt.L0 N N) x0 x1

def laws_FnWayAfter.B (N : Nat) (x0 : List (Int)) : Option (Bool × Unit) :=
 br (decide ((((List.length x0) : Nat) : Int) > (1048576 : Int))) (
  some (true, ())) (
  bnd (spec_DrawWayAfter N x0) fun r1 =>
 bnd (impl_WayAfter N (ImplTree.mk (ImplTree.tag (r1).1) (ImplTree.key (r1).1) (ImplTree.text (r1).1) (ImplTree.props (r1).1) (ImplTree.kids (r1).1)) (ImplTree.mk (ImplTree.tag ((r1).2).1) (ImplTree.key ((r1).2).1) (ImplTree.text ((r1).2).1) (ImplTree.props ((r1).2).1) (ImplTree.kids ((r1).2).1)) (((r1).2).2).1) fun r2 =>
 bnd (spec_WayAfter N (ImplTree.mk (ImplTree.tag (r1).1) (ImplTree.key (r1).1) (ImplTree.text (r1).1) (ImplTree.props (r1).1) (ImplTree.kids (r1).1)) (ImplTree.mk (ImplTree.tag ((r1).2).1) (ImplTree.key ((r1).2).1) (ImplTree.text ((r1).2).1) (ImplTree.props ((r1).2).1) (ImplTree.kids ((r1).2).1)) (((r1).2).2).1) fun r3 =>
 bnd (spec_SameInts N (r2).1 (r3).1) fun r4 =>
 br (r4).1 (
  br (!(((r2).2).1 == ((r3).2).1)) (
   some ((((r2).2).1 == ((r3).2).1), ())) (
   br (!((r2).2).1) (
   some ((((r2).2).1 == ((r3).2).1), ())) (
   bnd (impl_TreeAt N (ImplTree.mk (ImplTree.tag (r1).1) (ImplTree.key (r1).1) (ImplTree.text (r1).1) (ImplTree.props (r1).1) (ImplTree.kids (r1).1)) (((r1).2).2).1) fun r5 =>
  bnd (impl_TreeAt N (ImplTree.mk (ImplTree.tag ((r1).2).1) (ImplTree.key ((r1).2).1) (ImplTree.text ((r1).2).1) (ImplTree.props ((r1).2).1) (ImplTree.kids ((r1).2).1)) (r2).1) fun r6 =>
  bnd (impl_WayAfter N (ImplTree.mk (ImplTree.tag (r1).1) (ImplTree.key (r1).1) (ImplTree.text (r1).1) (ImplTree.props (r1).1) (ImplTree.kids (r1).1)) (ImplTree.mk (ImplTree.tag (r1).1) (ImplTree.key (r1).1) (ImplTree.text (r1).1) (ImplTree.props (r1).1) (ImplTree.kids (r1).1)) (((r1).2).2).1) fun r7 =>
  br ((r5).2).1 (
   br ((r6).2).1 (
    br ((ImplTree.tag (r5).1) == (ImplTree.tag (r6).1)) (
     br ((ImplTree.key (r5).1) == (ImplTree.key (r6).1)) (
      br ((r7).2).1 (
       bnd (spec_SameInts N (r7).1 (((r1).2).2).1) fun r8 =>
       some ((r8).1, ())) (
       some (false, ()))) (
      some (false, ()))) (
     some (false, ()))) (
    some (false, ()))) (
   some (false, ()))))) (
  some (false, ())))

def laws_FnWayAfter (N : Nat) (x0 : List (Int)) : Option (Bool × Unit) := laws_FnWayAfter.B N x0

end
end Go.Ev
