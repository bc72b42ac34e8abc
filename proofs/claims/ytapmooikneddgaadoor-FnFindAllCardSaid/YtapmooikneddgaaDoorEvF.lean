/- The functions that the law reaches, written as plain functions; nothing is claimed here. -/
import Derived.Test.YtapmooikneddgaaDoorEvE
set_option linter.all false
set_option linter.unusedVariables false
set_option linter.unusedSimpArgs false
/- F -/
set_option maxRecDepth 10000
namespace Go.Ev
noncomputable section
def spec_newSource.B (N : Nat) (x0 : List (Int)) : Option (SpecSource × Unit) :=
 some ((SpecSource.mk x0 (0 : Int) (4000 : Int)), ())

def spec_newSource (N : Nat) (x0 : List (Int)) : Option (SpecSource × Unit) := spec_newSource.B N x0

def spec_source_pick.B (N : Nat) (x0 : SpecSource) (x1 : Int) : Option (SpecSource × Int × Unit) :=
 br (decide (x1 ≤ (1 : Int))) (
  some (x0, (0 : Int), ())) (
  br (decide ((SpecSource.left x0) ≤ (0 : Int))) (
  some (x0, (0 : Int), ())) (
  br ((((List.length (SpecSource.code x0)) : Nat) : Int) == (0 : Int)) (
  some (x0, (0 : Int), ())) (
  gd (!(decide ((((List.length (SpecSource.code x0)) : Nat) : Int) = (0 : Int)))) (
 gd (decide ((0 : Int) ≤ (Int.tmod (SpecSource.at_ x0) (((List.length (SpecSource.code x0)) : Nat) : Int)))) (
 gd (decide ((Int.tmod (SpecSource.at_ x0) (((List.length (SpecSource.code x0)) : Nat) : Int)) < (((List.length (SpecSource.code x0)) : Nat) : Int))) (
 gd (!(decide ((((List.length (SpecSource.code x0)) : Nat) : Int) = (0 : Int)))) (
 br (decide (x1 > (256 : Int))) (
  gd (!(decide ((((List.length (SpecSource.code x0)) : Nat) : Int) = (0 : Int)))) (
  gd (decide ((0 : Int) ≤ (Int.tmod (IntKind.i64.wrap ((SpecSource.at_ x0) + (1 : Int))) (((List.length (SpecSource.code x0)) : Nat) : Int)))) (
  gd (decide ((Int.tmod (IntKind.i64.wrap ((SpecSource.at_ x0) + (1 : Int))) (((List.length (SpecSource.code x0)) : Nat) : Int)) < (((List.length (SpecSource.code x0)) : Nat) : Int))) (
  gd (!(decide (x1 = (0 : Int)))) (
  some ((SpecSource.mk (SpecSource.code x0) (IntKind.i64.wrap ((IntKind.i64.wrap ((SpecSource.at_ x0) + (1 : Int))) + (1 : Int))) (IntKind.i64.wrap ((SpecSource.left x0) - (1 : Int)))), (Int.tmod (IntKind.i64.wrap ((IntKind.i64.wrap ((IntKind.i64.wrap ((IntKind.i64.wrap (get (SpecSource.code x0) (Int.tmod (SpecSource.at_ x0) (((List.length (SpecSource.code x0)) : Nat) : Int)))) + (IntKind.i64.wrap ((IntKind.i64.wrap (Int.tdiv (SpecSource.at_ x0) (((List.length (SpecSource.code x0)) : Nat) : Int))) * (31 : Int))))) * (256 : Int))) + (IntKind.i64.wrap (get (SpecSource.code x0) (Int.tmod (IntKind.i64.wrap ((SpecSource.at_ x0) + (1 : Int))) (((List.length (SpecSource.code x0)) : Nat) : Int)))))) x1), ())))))) (
  gd (!(decide (x1 = (0 : Int)))) (
 some ((SpecSource.mk (SpecSource.code x0) (IntKind.i64.wrap ((SpecSource.at_ x0) + (1 : Int))) (IntKind.i64.wrap ((SpecSource.left x0) - (1 : Int)))), (Int.tmod (IntKind.i64.wrap ((IntKind.i64.wrap (get (SpecSource.code x0) (Int.tmod (SpecSource.at_ x0) (((List.length (SpecSource.code x0)) : Nat) : Int)))) + (IntKind.i64.wrap ((IntKind.i64.wrap (Int.tdiv (SpecSource.at_ x0) (((List.length (SpecSource.code x0)) : Nat) : Int))) * (31 : Int))))) x1), ()))))))))))

def spec_source_pick (N : Nat) (x0 : SpecSource) (x1 : Int) : Option (SpecSource × Int × Unit) := spec_source_pick.B N x0 x1

def spec_source_one.B (N : Nat) (x0 : SpecSource) (x1 : List (Int)) : Option (SpecSource × Int × Unit) :=
 bnd (spec_source_pick N x0 (((List.length x1) : Nat) : Int)) fun r2 =>
 gd (decide ((0 : Int) ≤ ((r2).2).1)) (
 gd (decide (((r2).2).1 < (((List.length x1) : Nat) : Int))) (
 some ((r2).1, (get x1 ((r2).2).1), ())))

def spec_source_one (N : Nat) (x0 : SpecSource) (x1 : List (Int)) : Option (SpecSource × Int × Unit) := spec_source_one.B N x0 x1

def spec_source_rarely.B (N : Nat) (x0 : SpecSource) : Option (SpecSource × Bool × Unit) :=
 bnd (spec_source_pick N x0 (40 : Int)) fun r1 =>
 some ((r1).1, (((r1).2).1 == (1 : Int)), ())

def spec_source_rarely (N : Nat) (x0 : SpecSource) : Option (SpecSource × Bool × Unit) := spec_source_rarely.B N x0

def spec_source_text.B0 (N : Nat) (G0 : SpecSource × (List UInt8) × Int × Unit → Option (SpecSource × (List UInt8) × Unit)) : SpecSource × (List UInt8) × Int × Unit → Option (SpecSource × (List UInt8) × Unit) :=
fun (x2, x3, x4, ()) =>
 br (decide (x4 > (0 : Int))) (
  bnd (spec_source_pick N x2 (6 : Int)) fun r6 =>
  gd (decide ((0 : Int) ≤ ((r6).2).1)) (
  gd (decide (((r6).2).1 < (((List.length ([([97] : List (UInt8)), ([98] : List (UInt8)), ([122, 57] : List (UInt8)), ([32] : List (UInt8)), ([48] : List (UInt8)), ([108, 111, 110, 103] : List (UInt8))] : List (List (UInt8)))) : Nat) : Int))) (
  gd (decide (((List.length x3) + (List.length (get ([([97] : List (UInt8)), ([98] : List (UInt8)), ([122, 57] : List (UInt8)), ([32] : List (UInt8)), ([48] : List (UInt8)), ([108, 111, 110, 103] : List (UInt8))] : List (List (UInt8))) ((r6).2).1))) < 68719476736)) (
  G0 ((r6).1, (x3 ++ (get ([([97] : List (UInt8)), ([98] : List (UInt8)), ([122, 57] : List (UInt8)), ([32] : List (UInt8)), ([48] : List (UInt8)), ([108, 111, 110, 103] : List (UInt8))] : List (List (UInt8))) ((r6).2).1)), (IntKind.i64.wrap (x4 - (1 : Int))), ()))))) (
  bnd (spec_source_rarely N x2) fun r7 =>
 br ((r7).2).1 (
  gd (decide (((List.length x3) + (List.length ([81] : List (UInt8)))) < 68719476736)) (
  some ((r7).1, (x3 ++ ([81] : List (UInt8))), ()))) (
  some ((r7).1, x3, ())))

def spec_source_text.B (N : Nat) (E0 : SpecSource × (List UInt8) × Int × Unit → Option (SpecSource × (List UInt8) × Unit)) (x0 : SpecSource) : Option (SpecSource × (List UInt8) × Unit) :=
 bnd (spec_source_pick N x0 (4 : Int)) fun r1 =>
 E0 ((r1).1, ([] : List (UInt8)), ((r1).2).1, ())

def spec_source_text.L0 (N : Nat) : Nat → SpecSource × (List UInt8) × Int × Unit → Option (SpecSource × (List UInt8) × Unit)
  | 0, _ => none
  | n + 1, x => spec_source_text.B0 N (spec_source_text.L0 N n) x

def spec_source_text (N : Nat) (x0 : SpecSource) : Option (SpecSource × (List UInt8) × Unit) := spec_source_text.B N (spec_source_text.L0 N N) x0

def spec_source_value.B (N : Nat) (x0 : SpecSource) : Option (SpecSource × ImplValue × Unit) :=
 bnd (spec_source_pick N x0 (6 : Int)) fun r1 =>
 br (((r1).2).1 == (0 : Int)) (
  some ((r1).1, (ImplValue.mk (0 : Int) (0 : Int) ([] : List (UInt8))), ())) (
  br (((r1).2).1 == (1 : Int)) (
  bnd (spec_source_text N (r1).1) fun r2 =>
  some ((r2).1, (ImplValue.mk (2 : Int) (0 : Int) ((r2).2).1), ())) (
  br (((r1).2).1 == (2 : Int)) (
  bnd (spec_source_one N (r1).1 ([(0 : Int), (1 : Int), (-(1 : Int)), (1000 : Int), (-(1000 : Int)), (500 : Int), (1001 : Int)] : List (Int))) fun r3 =>
  some ((r3).1, (ImplValue.mk (1 : Int) ((r3).2).1 ([] : List (UInt8))), ())) (
  bnd (spec_source_pick N (r1).1 (6 : Int)) fun r4 =>
 some ((r4).1, (ImplValue.mk (1 : Int) (IntKind.i64.wrap (((r4).2).1 - (1 : Int))) ([] : List (UInt8))), ()))))

def spec_source_value (N : Nat) (x0 : SpecSource) : Option (SpecSource × ImplValue × Unit) := spec_source_value.B N x0

def spec_inRange.B (N : Nat) (x0 : Int) (x1 : Int) (x2 : Int) : Option (Bool × Unit) :=
 br (decide (x0 ≥ x1)) (
  some ((decide (x0 ≤ x2)), ())) (
  some (false, ()))

def spec_inRange (N : Nat) (x0 : Int) (x1 : Int) (x2 : Int) : Option (Bool × Unit) := spec_inRange.B N x0 x1 x2

def spec_plainByte.B (N : Nat) (x0 : Int) : Option (Bool × Unit) :=
 br (decide (x0 ≥ (97 : Int))) (
  br (decide (x0 ≤ (122 : Int))) (
   some (true, ())) (
   br (decide (x0 ≥ (48 : Int))) (
   br (decide (x0 ≤ (57 : Int))) (
    some (true, ())) (
    some ((x0 == (32 : Int)), ()))) (
   some ((x0 == (32 : Int)), ())))) (
  br (decide (x0 ≥ (48 : Int))) (
  br (decide (x0 ≤ (57 : Int))) (
   some (true, ())) (
   some ((x0 == (32 : Int)), ()))) (
  some ((x0 == (32 : Int)), ())))

def spec_plainByte (N : Nat) (x0 : Int) : Option (Bool × Unit) := spec_plainByte.B N x0

def spec_validWord.B0 (N : Nat) (G0 : (List UInt8) × Int × Unit → Option (Bool × Unit)) : (List UInt8) × Int × Unit → Option (Bool × Unit) :=
fun (x1, x2, ()) =>
 br (decide (x2 < (((List.length x1) : Nat) : Int))) (
  gd (decide ((0 : Int) ≤ x2)) (
  gd (decide (x2 < (((List.length x1) : Nat) : Int))) (
  bnd (spec_plainByte N (((UInt8.toNat (List.getD x1 (Int.toNat x2) 0)) : Nat) : Int)) fun r4 =>
  br (!(r4).1) (
   some (false, ())) (
   G0 (x1, (IntKind.i64.wrap (x2 + (1 : Int))), ()))))) (
  some (true, ()))

def spec_validWord.B (N : Nat) (E0 : (List UInt8) × Int × Unit → Option (Bool × Unit)) (x0 : List UInt8) : Option (Bool × Unit) :=
 br (decide ((((List.length x0) : Nat) : Int) > (12 : Int))) (
  some (false, ())) (
  E0 (x0, (0 : Int), ()))

def spec_validWord.L0 (N : Nat) : Nat → (List UInt8) × Int × Unit → Option (Bool × Unit)
  | 0, _ => none
  | n + 1, x => spec_validWord.B0 N (spec_validWord.L0 N n) x

def spec_validWord (N : Nat) (x0 : List UInt8) : Option (Bool × Unit) := spec_validWord.B N (spec_validWord.L0 N N) x0

def spec_validValue.B (N : Nat) (x0 : ImplValue) : Option (Bool × Unit) :=
 br ((ImplValue.kind x0) == (0 : Int)) (
  br ((ImplValue.num x0) == (0 : Int)) (
   some (((ImplValue.text x0) == ([] : List (UInt8))), ())) (
   some (false, ()))) (
  br ((ImplValue.kind x0) == (1 : Int)) (
  bnd (spec_inRange N (ImplValue.num x0) (-(1000 : Int)) (1000 : Int)) fun r1 =>
  br (r1).1 (
   some (((ImplValue.text x0) == ([] : List (UInt8))), ())) (
   some (false, ()))) (
  br ((ImplValue.kind x0) == (2 : Int)) (
  br ((ImplValue.num x0) == (0 : Int)) (
   bnd (spec_validWord N (ImplValue.text x0)) fun r2 =>
   some ((r2).1, ())) (
   some (false, ()))) (
  some (false, ()))))

def spec_validValue (N : Nat) (x0 : ImplValue) : Option (Bool × Unit) := spec_validValue.B N x0

def spec_source_good.B (N : Nat) (x0 : SpecSource) : Option (SpecSource × ImplValue × Unit) :=
 bnd (spec_source_value N x0) fun r1 =>
 bnd (spec_validValue N ((r1).2).1) fun r2 =>
 br (!(r2).1) (
  some ((r1).1, (ImplValue.mk (1 : Int) (2 : Int) ([] : List (UInt8))), ())) (
  some ((r1).1, ((r1).2).1, ()))

def spec_source_good (N : Nat) (x0 : SpecSource) : Option (SpecSource × ImplValue × Unit) := spec_source_good.B N x0

def spec_source_rules.J12 (N : Nat) (G0 : SpecSource × (List (ImplRule)) × Int × Unit → Option (SpecSource × (List (ImplRule)) × Unit)) : SpecSource × (List (ImplRule)) × Int × ImplRule × Unit → Option (SpecSource × (List (ImplRule)) × Unit) :=
fun (x21, x22, x23, x24, ()) =>
 gd (decide (((List.length x22) + (List.length ([x24] : List (ImplRule)))) < 68719476736)) (
 G0 (x21, (x22 ++ ([x24] : List (ImplRule))), (IntKind.i64.wrap (x23 - (1 : Int))), ()))

def spec_source_rules.J9 (N : Nat) (G0 : SpecSource × (List (ImplRule)) × Int × Unit → Option (SpecSource × (List (ImplRule)) × Unit)) : SpecSource × (List (ImplRule)) × Int × ImplRule × Unit → Option (SpecSource × (List (ImplRule)) × Unit) :=
fun (x14, x15, x16, x17, ()) =>
 bnd (spec_source_pick N x14 (61 : Int)) fun r18 =>
 bnd (spec_source_one N (r18).1 ([(0 : Int), (1 : Int), (2 : Int), (3 : Int), (10 : Int), (30 : Int), ((r18).2).1] : List (Int))) fun r19 =>
 br ((ImplRule.look x17) == (2 : Int)) (
  bnd (spec_source_one N (r19).1 ([(0 : Int), (1 : Int), (1 : Int), (2 : Int), (5 : Int)] : List (Int))) fun r20 =>
  spec_source_rules.J12 N G0 ((r20).1, x15, x16, (ImplRule.mk (ImplRule.tag x17) (ImplRule.above x17) (ImplRule.name x17) (ImplRule.val_Kind x17) (ImplRule.val_Num x17) (ImplRule.val_Text x17) (ImplRule.look x17) ((r20).2).1), ())) (
  br ((ImplRule.look x17) == (1 : Int)) (
  bnd (spec_source_one N (r19).1 ([(0 : Int), (1 : Int), (1 : Int), (2 : Int), (5 : Int)] : List (Int))) fun r25 =>
  spec_source_rules.J12 N G0 ((r25).1, x15, x16, (ImplRule.mk (ImplRule.tag x17) (ImplRule.above x17) (ImplRule.name x17) (ImplRule.val_Kind x17) (ImplRule.val_Num x17) (ImplRule.val_Text x17) (ImplRule.look x17) ((r25).2).1), ())) (
  spec_source_rules.J12 N G0 ((r19).1, x15, x16, (ImplRule.mk (ImplRule.tag x17) (ImplRule.above x17) (ImplRule.name x17) (ImplRule.val_Kind x17) (ImplRule.val_Num x17) (ImplRule.val_Text x17) (ImplRule.look x17) ((r19).2).1), ())))

def spec_source_rules.B0 (N : Nat) (G0 : SpecSource × (List (ImplRule)) × Int × Unit → Option (SpecSource × (List (ImplRule)) × Unit)) : SpecSource × (List (ImplRule)) × Int × Unit → Option (SpecSource × (List (ImplRule)) × Unit) :=
fun (x2, x3, x4, ()) =>
 br (decide (x4 > (0 : Int))) (
  bnd (spec_source_pick N x2 (5 : Int)) fun r6 =>
  bnd (spec_source_one N (r6).1 ([(-(1 : Int)), ((r6).2).1] : List (Int))) fun r7 =>
  bnd (spec_source_pick N (r7).1 (5 : Int)) fun r8 =>
  bnd (spec_source_one N (r8).1 ([(-(1 : Int)), (-(1 : Int)), ((r8).2).1] : List (Int))) fun r9 =>
  bnd (spec_source_pick N (r9).1 (5 : Int)) fun r10 =>
  bnd (spec_source_pick N (r10).1 (3 : Int)) fun r11 =>
  br (((r11).2).1 == (0 : Int)) (
   bnd (spec_source_pick N (r11).1 (4 : Int)) fun r12 =>
   bnd (spec_source_good N (r12).1) fun r13 =>
   spec_source_rules.J9 N G0 ((r13).1, x3, x4, (ImplRule.mk ((r7).2).1 ((r9).2).1 ((r12).2).1 (ImplValue.kind ((r13).2).1) (ImplValue.num ((r13).2).1) (ImplValue.text ((r13).2).1) ((r10).2).1 (0 : Int)), ())) (
   spec_source_rules.J9 N G0 ((r11).1, x3, x4, (ImplRule.mk ((r7).2).1 ((r9).2).1 (-(1 : Int)) (0 : Int) (0 : Int) ([] : List (UInt8)) ((r10).2).1 (0 : Int)), ()))) (
  bnd (spec_source_rarely N x2) fun r26 =>
 br ((r26).2).1 (
  gd (decide (((List.length x3) + (List.length ([(ImplRule.mk (9 : Int) (0 : Int) (0 : Int) (0 : Int) (0 : Int) ([] : List (UInt8)) (1 : Int) (0 : Int))] : List (ImplRule)))) < 68719476736)) (
  some ((r26).1, (x3 ++ ([(ImplRule.mk (9 : Int) (0 : Int) (0 : Int) (0 : Int) (0 : Int) ([] : List (UInt8)) (1 : Int) (0 : Int))] : List (ImplRule))), ()))) (
  some ((r26).1, x3, ())))

def spec_source_rules.B (N : Nat) (E0 : SpecSource × (List (ImplRule)) × Int × Unit → Option (SpecSource × (List (ImplRule)) × Unit)) (x0 : SpecSource) : Option (SpecSource × (List (ImplRule)) × Unit) :=
 bnd (spec_source_pick N x0 (9 : Int)) fun r1 =>
 E0 ((r1).1, ([] : List (ImplRule)), ((r1).2).1, ())

def spec_source_rules.L0 (N : Nat) : Nat → SpecSource × (List (ImplRule)) × Int × Unit → Option (SpecSource × (List (ImplRule)) × Unit)
  | 0, _ => none
  | n + 1, x => spec_source_rules.B0 N (spec_source_rules.L0 N n) x

def spec_source_rules (N : Nat) (x0 : SpecSource) : Option (SpecSource × (List (ImplRule)) × Unit) := spec_source_rules.B N (spec_source_rules.L0 N N) x0

def spec_keyless.B2 (N : Nat) (G0 : (List (ImplTree)) × Int × Unit → Option ((List (ImplTree)) × Unit)) (G2 : (List (ImplTree)) × Int × Int × Unit → Option ((List (ImplTree)) × Unit)) : (List (ImplTree)) × Int × Int × Unit → Option ((List (ImplTree)) × Unit) :=
fun (x4, x5, x6, ()) =>
 br (decide (x6 < x5)) (
  gd (decide ((0 : Int) ≤ x5)) (
  gd (decide (x5 < (((List.length x4) : Nat) : Int))) (
  br ((ImplTree.key (get x4 x5)) != (-(1 : Int))) (
   gd (decide ((0 : Int) ≤ x5)) (
   gd (decide (x5 < (((List.length x4) : Nat) : Int))) (
   gd (decide ((0 : Int) ≤ x6)) (
   gd (decide (x6 < (((List.length x4) : Nat) : Int))) (
   br ((ImplTree.key (get x4 x5)) == (ImplTree.key (get x4 x6))) (
    gd (decide ((0 : Int) ≤ x5)) (
    gd (decide (x5 < (((List.length x4) : Nat) : Int))) (
    G2 ((List.set x4 (Int.toNat x5) (ImplTree.mk (ImplTree.tag (get x4 x5)) (-(1 : Int)) (ImplTree.text (get x4 x5)) (ImplTree.props (get x4 x5)) (ImplTree.kids (get x4 x5)))), x5, (IntKind.i64.wrap (x6 + (1 : Int))), ())))) (
    G2 (x4, x5, (IntKind.i64.wrap (x6 + (1 : Int))), ()))))))) (
   G2 (x4, x5, (IntKind.i64.wrap (x6 + (1 : Int))), ()))))) (
  G0 (x4, (IntKind.i64.wrap (x5 + (1 : Int))), ()))

def spec_keyless.B0 (N : Nat) (E2 : (List (ImplTree)) × Int × Int × Unit → Option ((List (ImplTree)) × Unit)) : (List (ImplTree)) × Int × Unit → Option ((List (ImplTree)) × Unit) :=
fun (x1, x2, ()) =>
 br (decide (x2 < (((List.length x1) : Nat) : Int))) (
  E2 (x1, x2, (0 : Int), ())) (
  some (x1, ()))

def spec_keyless.B (N : Nat) (E0 : (List (ImplTree)) × Int × Unit → Option ((List (ImplTree)) × Unit)) (x0 : List (ImplTree)) : Option ((List (ImplTree)) × Unit) :=
 E0 (x0, (0 : Int), ())

def spec_keyless.L2 (N : Nat) (G0 : (List (ImplTree)) × Int × Unit → Option ((List (ImplTree)) × Unit)) : Nat → (List (ImplTree)) × Int × Int × Unit → Option ((List (ImplTree)) × Unit)
  | 0, _ => none
  | n + 1, x => spec_keyless.B2 N G0 (spec_keyless.L2 N G0 n) x

def spec_keyless.L0 (N : Nat) : Nat → (List (ImplTree)) × Int × Unit → Option ((List (ImplTree)) × Unit)
  | 0, _ => none
  | n + 1, x => spec_keyless.B0 N (spec_keyless.L2 N (spec_keyless.L0 N n) N) x

def spec_keyless (N : Nat) (x0 : List (ImplTree)) : Option ((List (ImplTree)) × Unit) := spec_keyless.B N (spec_keyless.L0 N N) x0

def spec_source_tree.B4 (N : Nat) (R_spec_source_tree : SpecSource → Int → Option (SpecSource × ImplTree × Unit)) (G4 : SpecSource × ImplTree × ImplTree × Int × Unit → Option (SpecSource × ImplTree × Unit)) : SpecSource × ImplTree × ImplTree × Int × Unit → Option (SpecSource × ImplTree × Unit) :=
fun (x25, x26, x27, x28, ()) =>
 br (decide (x28 < (((List.length (ImplTree.kids x27)) : Nat) : Int))) (
  gd (decide ((0 : Int) ≤ x28)) (
  gd (decide (x28 < (((List.length (ImplTree.kids x27)) : Nat) : Int))) (
  br ((ImplTree.tag (get (ImplTree.kids x27) x28)) == (-(1 : Int))) (
   gd (decide ((0 : Int) ≤ x28)) (
   gd (decide (x28 < (((List.length (ImplTree.kids x27)) : Nat) : Int))) (
   G4 (x25, (ImplTree.mk (ImplTree.tag x26) (ImplTree.key x26) (ImplTree.text x26) (ImplTree.props x26) (ImplTree.kids x26)), (ImplTree.mk (ImplTree.tag x27) (ImplTree.key x27) (ImplTree.text x27) (ImplTree.props x27) (List.set (ImplTree.kids x27) (Int.toNat x28) (ImplTree.mk (ImplTree.tag (get (ImplTree.kids x27) x28)) (-(1 : Int)) (ImplTree.text (get (ImplTree.kids x27) x28)) (ImplTree.props (get (ImplTree.kids x27) x28)) (ImplTree.kids (get (ImplTree.kids x27) x28))))), (IntKind.i64.wrap (x28 + (1 : Int))), ())))) (
   G4 (x25, (ImplTree.mk (ImplTree.tag x26) (ImplTree.key x26) (ImplTree.text x26) (ImplTree.props x26) (ImplTree.kids x26)), (ImplTree.mk (ImplTree.tag x27) (ImplTree.key x27) (ImplTree.text x27) (ImplTree.props x27) (ImplTree.kids x27)), (IntKind.i64.wrap (x28 + (1 : Int))), ()))))) (
  bnd (spec_source_rarely N x25) fun r30 =>
 br ((r30).2).1 (
  some ((r30).1, (ImplTree.mk (ImplTree.tag x27) (100 : Int) (ImplTree.text x27) (ImplTree.props x27) (ImplTree.kids x27)), ())) (
  some ((r30).1, (ImplTree.mk (ImplTree.tag x27) (ImplTree.key x27) (ImplTree.text x27) (ImplTree.props x27) (ImplTree.kids x27)), ())))

def spec_source_tree.B2 (N : Nat) (R_spec_source_tree : SpecSource → Int → Option (SpecSource × ImplTree × Unit)) (G2 : SpecSource × Int × ImplTree × ImplTree × Int × Unit → Option (SpecSource × ImplTree × Unit)) (E4 : SpecSource × ImplTree × ImplTree × Int × Unit → Option (SpecSource × ImplTree × Unit)) : SpecSource × Int × ImplTree × ImplTree × Int × Unit → Option (SpecSource × ImplTree × Unit) :=
fun (x16, x17, x18, x19, x20, ()) =>
 br (decide (x20 > (0 : Int))) (
  bnd (spec_source_pick N x16 (2 : Int)) fun r22 =>
  bnd (R_spec_source_tree (r22).1 (IntKind.i64.wrap ((IntKind.i64.wrap (x17 - (1 : Int))) - ((r22).2).1))) fun r23 =>
  gd (decide (((List.length (ImplTree.kids x19)) + (List.length ([(ImplTree.mk (ImplTree.tag ((r23).2).1) (ImplTree.key ((r23).2).1) (ImplTree.text ((r23).2).1) (ImplTree.props ((r23).2).1) (ImplTree.kids ((r23).2).1))] : List (ImplTree)))) < 68719476736)) (
  G2 ((r23).1, x17, (ImplTree.mk (ImplTree.tag x18) (ImplTree.key x18) (ImplTree.text x18) (ImplTree.props x18) (ImplTree.kids x18)), (ImplTree.mk (ImplTree.tag x19) (ImplTree.key x19) (ImplTree.text x19) (ImplTree.props x19) ((ImplTree.kids x19) ++ ([(ImplTree.mk (ImplTree.tag ((r23).2).1) (ImplTree.key ((r23).2).1) (ImplTree.text ((r23).2).1) (ImplTree.props ((r23).2).1) (ImplTree.kids ((r23).2).1))] : List (ImplTree)))), (IntKind.i64.wrap (x20 - (1 : Int))), ()))) (
  bnd (spec_keyless N (ImplTree.kids x19)) fun r24 =>
 E4 (x16, (ImplTree.mk (ImplTree.tag x18) (ImplTree.key x18) (ImplTree.text x18) (ImplTree.props x18) (ImplTree.kids x18)), (ImplTree.mk (ImplTree.tag x19) (ImplTree.key x19) (ImplTree.text x19) (ImplTree.props x19) (r24).1), (0 : Int), ()))

def spec_source_tree.B0 (N : Nat) (R_spec_source_tree : SpecSource → Int → Option (SpecSource × ImplTree × Unit)) (G0 : SpecSource × Int × ImplTree × ImplTree × Int × Unit → Option (SpecSource × ImplTree × Unit)) (E2 : SpecSource × Int × ImplTree × ImplTree × Int × Unit → Option (SpecSource × ImplTree × Unit)) : SpecSource × Int × ImplTree × ImplTree × Int × Unit → Option (SpecSource × ImplTree × Unit) :=
fun (x7, x8, x9, x10, x11, ()) =>
 br (decide (x11 < (4 : Int))) (
  bnd (spec_source_pick N x7 (3 : Int)) fun r13 =>
  br (((r13).2).1 == (0 : Int)) (
   bnd (spec_source_good N (r13).1) fun r14 =>
   gd (decide (((List.length (ImplTree.props x10)) + (List.length ([(ImplProp.mk x11 (ImplValue.kind ((r14).2).1) (ImplValue.num ((r14).2).1) (ImplValue.text ((r14).2).1))] : List (ImplProp)))) < 68719476736)) (
   G0 ((r14).1, x8, (ImplTree.mk (ImplTree.tag x9) (ImplTree.key x9) (ImplTree.text x9) (ImplTree.props x9) (ImplTree.kids x9)), (ImplTree.mk (ImplTree.tag x10) (ImplTree.key x10) (ImplTree.text x10) ((ImplTree.props x10) ++ ([(ImplProp.mk x11 (ImplValue.kind ((r14).2).1) (ImplValue.num ((r14).2).1) (ImplValue.text ((r14).2).1))] : List (ImplProp))) (ImplTree.kids x10)), (IntKind.i64.wrap (x11 + (1 : Int))), ()))) (
   G0 ((r13).1, x8, (ImplTree.mk (ImplTree.tag x9) (ImplTree.key x9) (ImplTree.text x9) (ImplTree.props x9) (ImplTree.kids x9)), (ImplTree.mk (ImplTree.tag x10) (ImplTree.key x10) (ImplTree.text x10) (ImplTree.props x10) (ImplTree.kids x10)), (IntKind.i64.wrap (x11 + (1 : Int))), ()))) (
  bnd (spec_source_pick N x7 (5 : Int)) fun r15 =>
 E2 ((r15).1, x8, (ImplTree.mk (ImplTree.tag x9) (ImplTree.key x9) (ImplTree.text x9) (ImplTree.props x9) (ImplTree.kids x9)), (ImplTree.mk (ImplTree.tag x10) (ImplTree.key x10) (ImplTree.text x10) (ImplTree.props x10) (ImplTree.kids x10)), ((r15).2).1, ()))

def spec_source_tree.B (N : Nat) (R_spec_source_tree : SpecSource → Int → Option (SpecSource × ImplTree × Unit)) (E0 : SpecSource × Int × ImplTree × ImplTree × Int × Unit → Option (SpecSource × ImplTree × Unit)) (x0 : SpecSource) (x1 : Int) : Option (SpecSource × ImplTree × Unit) :=
 br (decide (x1 ≤ (0 : Int))) (
  bnd (spec_source_pick N x0 (4 : Int)) fun r2 =>
  gd (decide ((0 : Int) ≤ ((r2).2).1)) (
  gd (decide (((r2).2).1 < (((List.length ([([] : List (UInt8)), ([97] : List (UInt8)), ([98, 32, 99] : List (UInt8)), ([108, 111, 110, 103, 32, 116, 101, 120, 116, 32, 49, 50] : List (UInt8))] : List (List (UInt8)))) : Nat) : Int))) (
  some ((r2).1, (ImplTree.mk (-(1 : Int)) (-(1 : Int)) (get ([([] : List (UInt8)), ([97] : List (UInt8)), ([98, 32, 99] : List (UInt8)), ([108, 111, 110, 103, 32, 116, 101, 120, 116, 32, 49, 50] : List (UInt8))] : List (List (UInt8))) ((r2).2).1) ([] : List (ImplProp)) ([] : List (ImplTree))), ())))) (
  bnd (spec_source_pick N x0 (4 : Int)) fun r3 =>
 br (((r3).2).1 == (0 : Int)) (
  bnd (spec_source_pick N (r3).1 (4 : Int)) fun r4 =>
  gd (decide ((0 : Int) ≤ ((r4).2).1)) (
  gd (decide (((r4).2).1 < (((List.length ([([] : List (UInt8)), ([97] : List (UInt8)), ([98, 32, 99] : List (UInt8)), ([108, 111, 110, 103, 32, 116, 101, 120, 116, 32, 49, 50] : List (UInt8))] : List (List (UInt8)))) : Nat) : Int))) (
  some ((r4).1, (ImplTree.mk (-(1 : Int)) (-(1 : Int)) (get ([([] : List (UInt8)), ([97] : List (UInt8)), ([98, 32, 99] : List (UInt8)), ([108, 111, 110, 103, 32, 116, 101, 120, 116, 32, 49, 50] : List (UInt8))] : List (List (UInt8))) ((r4).2).1) ([] : List (ImplProp)) ([] : List (ImplTree))), ())))) (
  bnd (spec_source_pick N (r3).1 (5 : Int)) fun r5 =>
 bnd (spec_source_one N (r5).1 ([(-(1 : Int)), (-(1 : Int)), (0 : Int), (1 : Int), (2 : Int), (50 : Int), (99 : Int)] : List (Int))) fun r6 =>
 E0 ((r6).1, x1, (ImplTree.mk (0 : Int) (0 : Int) ([] : List (UInt8)) ([] : List (ImplProp)) ([] : List (ImplTree))), (ImplTree.mk ((r5).2).1 ((r6).2).1 ([] : List (UInt8)) ([] : List (ImplProp)) ([] : List (ImplTree))), (0 : Int), ())))

def spec_source_tree.L4 (N : Nat) (R_spec_source_tree : SpecSource → Int → Option (SpecSource × ImplTree × Unit)) : Nat → SpecSource × ImplTree × ImplTree × Int × Unit → Option (SpecSource × ImplTree × Unit)
  | 0, _ => none
  | n + 1, x => spec_source_tree.B4 N R_spec_source_tree (spec_source_tree.L4 N R_spec_source_tree n) x

def spec_source_tree.L2 (N : Nat) (R_spec_source_tree : SpecSource → Int → Option (SpecSource × ImplTree × Unit)) : Nat → SpecSource × Int × ImplTree × ImplTree × Int × Unit → Option (SpecSource × ImplTree × Unit)
  | 0, _ => none
  | n + 1, x => spec_source_tree.B2 N R_spec_source_tree (spec_source_tree.L2 N R_spec_source_tree n) (spec_source_tree.L4 N R_spec_source_tree N) x

def spec_source_tree.L0 (N : Nat) (R_spec_source_tree : SpecSource → Int → Option (SpecSource × ImplTree × Unit)) : Nat → SpecSource × Int × ImplTree × ImplTree × Int × Unit → Option (SpecSource × ImplTree × Unit)
  | 0, _ => none
  | n + 1, x => spec_source_tree.B0 N R_spec_source_tree (spec_source_tree.L0 N R_spec_source_tree n) (spec_source_tree.L2 N R_spec_source_tree N) x

def spec_source_tree.R (N : Nat) : Nat → SpecSource → Int → Option (SpecSource × ImplTree × Unit)
  | 0, _, _ => none
  | d + 1, x0, x1 => spec_source_tree.B N (spec_source_tree.R N d) (spec_source_tree.L0 N (spec_source_tree.R N d) N) x0 x1

def spec_source_tree (N : Nat) (x0 : SpecSource) (x1 : Int) : Option (SpecSource × ImplTree × Unit) := spec_source_tree.R N N x0 x1

def spec_source_whole.B (N : Nat) (x0 : SpecSource) : Option (SpecSource × ImplTree × Unit) :=
 bnd (spec_source_tree N x0 (4 : Int)) fun r1 =>
 br ((ImplTree.tag ((r1).2).1) == (-(1 : Int))) (
  bnd (spec_source_pick N (r1).1 (5 : Int)) fun r2 =>
  br (decide (((r2).2).1 > (0 : Int))) (
   bnd (spec_source_tree N (r2).1 (2 : Int)) fun r3 =>
   some ((r3).1, (ImplTree.mk (0 : Int) (-(1 : Int)) ([] : List (UInt8)) ([] : List (ImplProp)) ([(ImplTree.mk (ImplTree.tag ((r1).2).1) (ImplTree.key ((r1).2).1) (ImplTree.text ((r1).2).1) (ImplTree.props ((r1).2).1) (ImplTree.kids ((r1).2).1)), (ImplTree.mk (ImplTree.tag ((r3).2).1) (ImplTree.key ((r3).2).1) (ImplTree.text ((r3).2).1) (ImplTree.props ((r3).2).1) (ImplTree.kids ((r3).2).1))] : List (ImplTree))), ())) (
   some ((r2).1, (ImplTree.mk (ImplTree.tag ((r1).2).1) (ImplTree.key ((r1).2).1) (ImplTree.text ((r1).2).1) (ImplTree.props ((r1).2).1) (ImplTree.kids ((r1).2).1)), ()))) (
  some ((r1).1, (ImplTree.mk (ImplTree.tag ((r1).2).1) (ImplTree.key ((r1).2).1) (ImplTree.text ((r1).2).1) (ImplTree.props ((r1).2).1) (ImplTree.kids ((r1).2).1)), ()))

def spec_source_whole (N : Nat) (x0 : SpecSource) : Option (SpecSource × ImplTree × Unit) := spec_source_whole.B N x0

def spec_DrawFindAll.B (N : Nat) (x0 : List (Int)) : Option (ImplTree × ImplRule × Unit) :=
 bnd (spec_newSource N x0) fun r1 =>
 bnd (spec_source_rules N (r1).1) fun r2 =>
 bnd (spec_source_whole N (r2).1) fun r3 =>
 br ((((List.length ((r2).2).1) : Nat) : Int) == (0 : Int)) (
  some ((ImplTree.mk (ImplTree.tag ((r3).2).1) (ImplTree.key ((r3).2).1) (ImplTree.text ((r3).2).1) (ImplTree.props ((r3).2).1) (ImplTree.kids ((r3).2).1)), (ImplRule.mk (-(1 : Int)) (-(1 : Int)) (-(1 : Int)) (0 : Int) (0 : Int) ([] : List (UInt8)) (0 : Int) (0 : Int)), ())) (
  bnd (spec_source_pick N (r3).1 (((List.length ((r2).2).1) : Nat) : Int)) fun r4 =>
 gd (decide ((0 : Int) ≤ ((r4).2).1)) (
 gd (decide (((r4).2).1 < (((List.length ((r2).2).1) : Nat) : Int))) (
 some ((ImplTree.mk (ImplTree.tag ((r3).2).1) (ImplTree.key ((r3).2).1) (ImplTree.text ((r3).2).1) (ImplTree.props ((r3).2).1) (ImplTree.kids ((r3).2).1)), (get ((r2).2).1 ((r4).2).1), ()))))

def spec_DrawFindAll (N : Nat) (x0 : List (Int)) : Option (ImplTree × ImplRule × Unit) := spec_DrawFindAll.B N x0

def impl_word.B0 (N : Nat) (G0 : (List UInt8) × Int × Unit → Option (Bool × Unit)) : (List UInt8) × Int × Unit → Option (Bool × Unit) :=
fun (x1, x2, ()) =>
 br (decide (x2 < (((List.length x1) : Nat) : Int))) (
  gd (decide ((0 : Int) ≤ x2)) (
  gd (decide (x2 < (((List.length x1) : Nat) : Int))) (
  br (decide ((((UInt8.toNat (List.getD x1 (Int.toNat x2) 0)) : Nat) : Int) ≥ (97 : Int))) (
   br (decide ((((UInt8.toNat (List.getD x1 (Int.toNat x2) 0)) : Nat) : Int) ≤ (122 : Int))) (
    G0 (x1, (IntKind.i64.wrap (x2 + (1 : Int))), ())) (
    br (decide ((((UInt8.toNat (List.getD x1 (Int.toNat x2) 0)) : Nat) : Int) ≥ (48 : Int))) (
    br (decide ((((UInt8.toNat (List.getD x1 (Int.toNat x2) 0)) : Nat) : Int) ≤ (57 : Int))) (
     G0 (x1, (IntKind.i64.wrap (x2 + (1 : Int))), ())) (
     br (!((((UInt8.toNat (List.getD x1 (Int.toNat x2) 0)) : Nat) : Int) == (32 : Int))) (
     some (false, ())) (
     G0 (x1, (IntKind.i64.wrap (x2 + (1 : Int))), ())))) (
    br (!((((UInt8.toNat (List.getD x1 (Int.toNat x2) 0)) : Nat) : Int) == (32 : Int))) (
    some (false, ())) (
    G0 (x1, (IntKind.i64.wrap (x2 + (1 : Int))), ()))))) (
   br (decide ((((UInt8.toNat (List.getD x1 (Int.toNat x2) 0)) : Nat) : Int) ≥ (48 : Int))) (
   br (decide ((((UInt8.toNat (List.getD x1 (Int.toNat x2) 0)) : Nat) : Int) ≤ (57 : Int))) (
    G0 (x1, (IntKind.i64.wrap (x2 + (1 : Int))), ())) (
    br (!((((UInt8.toNat (List.getD x1 (Int.toNat x2) 0)) : Nat) : Int) == (32 : Int))) (
    some (false, ())) (
    G0 (x1, (IntKind.i64.wrap (x2 + (1 : Int))), ())))) (
   br (!((((UInt8.toNat (List.getD x1 (Int.toNat x2) 0)) : Nat) : Int) == (32 : Int))) (
   some (false, ())) (
   G0 (x1, (IntKind.i64.wrap (x2 + (1 : Int))), ()))))))) (
  some ((decide ((((List.length x1) : Nat) : Int) ≤ (12 : Int))), ()))

def impl_word.B (N : Nat) (E0 : (List UInt8) × Int × Unit → Option (Bool × Unit)) (x0 : List UInt8) : Option (Bool × Unit) :=
 E0 (x0, (0 : Int), ())

def impl_word.L0 (N : Nat) : Nat → (List UInt8) × Int × Unit → Option (Bool × Unit)
  | 0, _ => none
  | n + 1, x => impl_word.B0 N (impl_word.L0 N n) x

def impl_word (N : Nat) (x0 : List UInt8) : Option (Bool × Unit) := impl_word.B N (impl_word.L0 N N) x0

def impl_within.B (N : Nat) (x0 : Int) (x1 : Int) (x2 : Int) : Option (Bool × Unit) :=
 br (decide (x0 ≥ x1)) (
  some ((decide (x0 ≤ x2)), ())) (
  some (false, ()))

def impl_within (N : Nat) (x0 : Int) (x1 : Int) (x2 : Int) : Option (Bool × Unit) := impl_within.B N x0 x1 x2

def impl_shown.B (N : Nat) (x0 : List UInt8) : Option (Bool × Unit) :=
 bnd (impl_word N x0) fun r1 =>
 br (r1).1 (
  some (true, ())) (
  bnd (LibAtoi N x0) fun r2 =>
 br ((r2).2).1 (
  bnd (impl_within N (r2).1 (-(1000 : Int)) (1000 : Int)) fun r3 =>
  br (r3).1 (
   bnd (LibItoa N (r2).1) fun r4 =>
   some (((r4).1 == x0), ())) (
   some (false, ()))) (
  some (false, ())))

def impl_shown (N : Nat) (x0 : List UInt8) : Option (Bool × Unit) := impl_shown.B N x0

def impl_ValOk.B (N : Nat) (x0 : ImplValue) : Option (Bool × Unit) :=
 br ((ImplValue.kind x0) == (0 : Int)) (
  br ((ImplValue.num x0) == (0 : Int)) (
   some (((ImplValue.text x0) == ([] : List (UInt8))), ())) (
   some (false, ()))) (
  br ((ImplValue.kind x0) == (1 : Int)) (
  bnd (impl_within N (ImplValue.num x0) (-(1000 : Int)) (1000 : Int)) fun r1 =>
  br (r1).1 (
   some (((ImplValue.text x0) == ([] : List (UInt8))), ())) (
   some (false, ()))) (
  br ((ImplValue.kind x0) == (2 : Int)) (
  br ((ImplValue.num x0) == (0 : Int)) (
   bnd (impl_word N (ImplValue.text x0)) fun r2 =>
   some ((r2).1, ())) (
   some (false, ()))) (
  some (false, ()))))

def impl_ValOk (N : Nat) (x0 : ImplValue) : Option (Bool × Unit) := impl_ValOk.B N x0

def impl_treeFits.B2 (N : Nat) (R_impl_treeFits : ImplTree → Int → Int → Option (Int × Bool × Unit)) (G2 : Int × Int × (List (Int)) × (List (ImplTree)) × Int × Int × Unit → Option (Int × Bool × Unit)) : Int × Int × (List (Int)) × (List (ImplTree)) × Int × Int × Unit → Option (Int × Bool × Unit) :=
fun (x16, x17, x18, x19, x20, x21, ()) =>
 br (decide (x21 < x20)) (
  gd (decide ((0 : Int) ≤ x21)) (
  gd (decide (x21 < (((List.length x19) : Nat) : Int))) (
  br ((ImplTree.key (get x19 x21)) != (-(1 : Int))) (
   br (mapHas x18 (ImplTree.key (get x19 x21))) (
    some (x17, false, ())) (
    bnd (R_impl_treeFits (ImplTree.mk (ImplTree.tag (get x19 x21)) (ImplTree.key (get x19 x21)) (ImplTree.text (get x19 x21)) (ImplTree.props (get x19 x21)) (ImplTree.kids (get x19 x21))) (IntKind.i64.wrap (x16 + (1 : Int))) x17) fun r23 =>
   br (!((r23).2).1) (
    some ((r23).1, false, ())) (
    G2 (x16, (r23).1, (mapPut x18 (ImplTree.key (get x19 x21))), x19, x20, (IntKind.i64.wrap (x21 + (1 : Int))), ())))) (
   bnd (R_impl_treeFits (ImplTree.mk (ImplTree.tag (get x19 x21)) (ImplTree.key (get x19 x21)) (ImplTree.text (get x19 x21)) (ImplTree.props (get x19 x21)) (ImplTree.kids (get x19 x21))) (IntKind.i64.wrap (x16 + (1 : Int))) x17) fun r24 =>
  br (!((r24).2).1) (
   some ((r24).1, false, ())) (
   G2 (x16, (r24).1, (mapPut x18 (ImplTree.key (get x19 x21))), x19, x20, (IntKind.i64.wrap (x21 + (1 : Int))), ())))))) (
  some (x17, true, ()))

def impl_treeFits.B0 (N : Nat) (R_impl_treeFits : ImplTree → Int → Int → Option (Int × Bool × Unit)) (G0 : Int × Int × ImplTree × (List (ImplProp)) × Int × Int × Unit → Option (Int × Bool × Unit)) (E2 : Int × Int × (List (Int)) × (List (ImplTree)) × Int × Int × Unit → Option (Int × Bool × Unit)) : Int × Int × ImplTree × (List (ImplProp)) × Int × Int × Unit → Option (Int × Bool × Unit) :=
fun (x6, x7, x8, x9, x10, x11, ()) =>
 br (decide (x11 < x10)) (
  gd (decide ((0 : Int) ≤ x11)) (
  gd (decide (x11 < (((List.length x9) : Nat) : Int))) (
  bnd (impl_within N (ImplProp.name (get x9 x11)) (0 : Int) (3 : Int)) fun r13 =>
  br (!(r13).1) (
   some (x7, false, ())) (
   br (decide (x11 > (0 : Int))) (
   gd (decide ((0 : Int) ≤ (IntKind.i64.wrap (x11 - (1 : Int))))) (
   gd (decide ((IntKind.i64.wrap (x11 - (1 : Int))) < (((List.length (ImplTree.props x8)) : Nat) : Int))) (
   br (decide ((ImplProp.name (get x9 x11)) ≤ (ImplProp.name (get (ImplTree.props x8) (IntKind.i64.wrap (x11 - (1 : Int))))))) (
    some (x7, false, ())) (
    bnd (impl_ValOk N (ImplValue.mk (ImplProp.val_Kind (get x9 x11)) (ImplProp.val_Num (get x9 x11)) (ImplProp.val_Text (get x9 x11)))) fun r14 =>
   br (!(r14).1) (
    some (x7, false, ())) (
    G0 (x6, x7, (ImplTree.mk (ImplTree.tag x8) (ImplTree.key x8) (ImplTree.text x8) (ImplTree.props x8) (ImplTree.kids x8)), x9, x10, (IntKind.i64.wrap (x11 + (1 : Int))), ())))))) (
   bnd (impl_ValOk N (ImplValue.mk (ImplProp.val_Kind (get x9 x11)) (ImplProp.val_Num (get x9 x11)) (ImplProp.val_Text (get x9 x11)))) fun r15 =>
  br (!(r15).1) (
   some (x7, false, ())) (
   G0 (x6, x7, (ImplTree.mk (ImplTree.tag x8) (ImplTree.key x8) (ImplTree.text x8) (ImplTree.props x8) (ImplTree.kids x8)), x9, x10, (IntKind.i64.wrap (x11 + (1 : Int))), ()))))))) (
  E2 (x6, x7, ([] : List (Int)), (ImplTree.kids x8), (((List.length (ImplTree.kids x8)) : Nat) : Int), (0 : Int), ()))

def impl_treeFits.B (N : Nat) (R_impl_treeFits : ImplTree → Int → Int → Option (Int × Bool × Unit)) (E0 : Int × Int × ImplTree × (List (ImplProp)) × Int × Int × Unit → Option (Int × Bool × Unit)) (x0 : ImplTree) (x1 : Int) (x2 : Int) : Option (Int × Bool × Unit) :=
 br (decide (x1 > (24 : Int))) (
  some ((IntKind.i64.wrap (x2 - (1 : Int))), false, ())) (
  br (decide ((IntKind.i64.wrap (x2 - (1 : Int))) < (0 : Int))) (
  some ((IntKind.i64.wrap (x2 - (1 : Int))), false, ())) (
  br ((ImplTree.tag x0) == (-(1 : Int))) (
  br ((ImplTree.key x0) == (-(1 : Int))) (
   bnd (impl_shown N (ImplTree.text x0)) fun r3 =>
   br (r3).1 (
    br ((((List.length (ImplTree.props x0)) : Nat) : Int) == (0 : Int)) (
     some ((IntKind.i64.wrap (x2 - (1 : Int))), ((((List.length (ImplTree.kids x0)) : Nat) : Int) == (0 : Int)), ())) (
     some ((IntKind.i64.wrap (x2 - (1 : Int))), false, ()))) (
    some ((IntKind.i64.wrap (x2 - (1 : Int))), false, ()))) (
   some ((IntKind.i64.wrap (x2 - (1 : Int))), false, ()))) (
  bnd (impl_within N (ImplTree.tag x0) (0 : Int) (4 : Int)) fun r4 =>
 br (!(r4).1) (
  some ((IntKind.i64.wrap (x2 - (1 : Int))), false, ())) (
  bnd (impl_within N (ImplTree.key x0) (-(1 : Int)) (99 : Int)) fun r5 =>
 br (!(r5).1) (
  some ((IntKind.i64.wrap (x2 - (1 : Int))), false, ())) (
  br (!((ImplTree.text x0) == ([] : List (UInt8)))) (
  some ((IntKind.i64.wrap (x2 - (1 : Int))), false, ())) (
  E0 (x1, (IntKind.i64.wrap (x2 - (1 : Int))), (ImplTree.mk (ImplTree.tag x0) (ImplTree.key x0) (ImplTree.text x0) (ImplTree.props x0) (ImplTree.kids x0)), (ImplTree.props x0), (((List.length (ImplTree.props x0)) : Nat) : Int), (0 : Int), ())))))))

def impl_treeFits.L2 (N : Nat) (R_impl_treeFits : ImplTree → Int → Int → Option (Int × Bool × Unit)) : Nat → Int × Int × (List (Int)) × (List (ImplTree)) × Int × Int × Unit → Option (Int × Bool × Unit)
  | 0, _ => none
  | n + 1, x => impl_treeFits.B2 N R_impl_treeFits (impl_treeFits.L2 N R_impl_treeFits n) x

def impl_treeFits.L0 (N : Nat) (R_impl_treeFits : ImplTree → Int → Int → Option (Int × Bool × Unit)) : Nat → Int × Int × ImplTree × (List (ImplProp)) × Int × Int × Unit → Option (Int × Bool × Unit)
  | 0, _ => none
  | n + 1, x => impl_treeFits.B0 N R_impl_treeFits (impl_treeFits.L0 N R_impl_treeFits n) (impl_treeFits.L2 N R_impl_treeFits N) x

def impl_treeFits.R (N : Nat) : Nat → ImplTree → Int → Int → Option (Int × Bool × Unit)
  | 0, _, _, _ => none
  | d + 1, x0, x1, x2 => impl_treeFits.B N (impl_treeFits.R N d) (impl_treeFits.L0 N (impl_treeFits.R N d) N) x0 x1 x2

def impl_treeFits (N : Nat) (x0 : ImplTree) (x1 : Int) (x2 : Int) : Option (Int × Bool × Unit) := impl_treeFits.R N N x0 x1 x2

def impl_TreeOk.B (N : Nat) (x0 : ImplTree) : Option (Bool × Unit) :=
 bnd (impl_treeFits N (ImplTree.mk (ImplTree.tag x0) (ImplTree.key x0) (ImplTree.text x0) (ImplTree.props x0) (ImplTree.kids x0)) (1 : Int) (200 : Int)) fun r1 =>
 some (((r1).2).1, ())

def impl_TreeOk (N : Nat) (x0 : ImplTree) : Option (Bool × Unit) := impl_TreeOk.B N x0

def impl_RulesOk.B0 (N : Nat) (G0 : (List (ImplRule)) × (List (ImplRule)) × Int × Int × Unit → Option (Bool × Unit)) : (List (ImplRule)) × (List (ImplRule)) × Int × Int × Unit → Option (Bool × Unit) :=
fun (x1, x2, x3, x4, ()) =>
 br (decide (x4 < x3)) (
  gd (decide ((0 : Int) ≤ x4)) (
  gd (decide (x4 < (((List.length x2) : Nat) : Int))) (
  bnd (impl_within N (ImplRule.tag (get x2 x4)) (-(1 : Int)) (4 : Int)) fun r6 =>
  br (!(r6).1) (
   some (false, ())) (
   bnd (impl_within N (ImplRule.above (get x2 x4)) (-(1 : Int)) (4 : Int)) fun r7 =>
  br (!(r7).1) (
   some (false, ())) (
   bnd (impl_within N (ImplRule.name (get x2 x4)) (-(1 : Int)) (3 : Int)) fun r8 =>
  br (!(r8).1) (
   some (false, ())) (
   bnd (impl_within N (ImplRule.look (get x2 x4)) (0 : Int) (4 : Int)) fun r9 =>
  br (!(r9).1) (
   some (false, ())) (
   bnd (impl_within N (ImplRule.give (get x2 x4)) (0 : Int) (60 : Int)) fun r10 =>
  br (!(r10).1) (
   some (false, ())) (
   br ((ImplRule.name (get x2 x4)) == (-(1 : Int))) (
   br (!(((ImplRule.val_Kind (get x2 x4)) == (0 : Int)) && (((ImplRule.val_Num (get x2 x4)) == (0 : Int)) && ((ImplRule.val_Text (get x2 x4)) == ([] : List (UInt8)))))) (
    some (false, ())) (
    bnd (impl_ValOk N (ImplValue.mk (ImplRule.val_Kind (get x2 x4)) (ImplRule.val_Num (get x2 x4)) (ImplRule.val_Text (get x2 x4)))) fun r11 =>
   br (!(r11).1) (
    some (false, ())) (
    G0 (x1, x2, x3, (IntKind.i64.wrap (x4 + (1 : Int))), ())))) (
   bnd (impl_ValOk N (ImplValue.mk (ImplRule.val_Kind (get x2 x4)) (ImplRule.val_Num (get x2 x4)) (ImplRule.val_Text (get x2 x4)))) fun r12 =>
  br (!(r12).1) (
   some (false, ())) (
   G0 (x1, x2, x3, (IntKind.i64.wrap (x4 + (1 : Int))), ()))))))))))) (
  some ((decide ((((List.length x1) : Nat) : Int) ≤ (12 : Int))), ()))

def impl_RulesOk.B (N : Nat) (E0 : (List (ImplRule)) × (List (ImplRule)) × Int × Int × Unit → Option (Bool × Unit)) (x0 : List (ImplRule)) : Option (Bool × Unit) :=
 E0 (x0, x0, (((List.length x0) : Nat) : Int), (0 : Int), ())

def impl_RulesOk.L0 (N : Nat) : Nat → (List (ImplRule)) × (List (ImplRule)) × Int × Int × Unit → Option (Bool × Unit)
  | 0, _ => none
  | n + 1, x => impl_RulesOk.B0 N (impl_RulesOk.L0 N n) x

def impl_RulesOk (N : Nat) (x0 : List (ImplRule)) : Option (Bool × Unit) := impl_RulesOk.B N (impl_RulesOk.L0 N N) x0

def impl_meets.B2 (N : Nat) (G2 : ImplRule × (List (ImplProp)) × Int × Int × Unit → Option (Bool × Unit)) : ImplRule × (List (ImplProp)) × Int × Int × Unit → Option (Bool × Unit) :=
fun (x12, x13, x14, x15, ()) =>
 br (decide (x15 < x14)) (
  gd (decide ((0 : Int) ≤ x15)) (
  gd (decide (x15 < (((List.length x13) : Nat) : Int))) (
  br ((ImplProp.name (get x13 x15)) == (ImplRule.name x12)) (
   br (((ImplProp.val_Kind (get x13 x15)) == (ImplRule.val_Kind x12)) && (((ImplProp.val_Num (get x13 x15)) == (ImplRule.val_Num x12)) && ((ImplProp.val_Text (get x13 x15)) == (ImplRule.val_Text x12)))) (
    some (true, ())) (
    G2 (x12, x13, x14, (IntKind.i64.wrap (x15 + (1 : Int))), ()))) (
   G2 (x12, x13, x14, (IntKind.i64.wrap (x15 + (1 : Int))), ()))))) (
  some (false, ()))

def impl_meets.J12 (N : Nat) (E2 : ImplRule × (List (ImplProp)) × Int × Int × Unit → Option (Bool × Unit)) : ImplRule × ImplTree × Unit → Option (Bool × Unit) :=
fun (x10, x11, ()) =>
 br ((ImplRule.name x10) == (-(1 : Int))) (
  some (true, ())) (
  E2 (x10, (ImplTree.props x11), (((List.length (ImplTree.props x11)) : Nat) : Int), (0 : Int), ()))

def impl_meets.B0 (N : Nat) (G0 : ImplRule × ImplTree × Bool × (List (Int)) × Int × Int × Unit → Option (Bool × Unit)) (E2 : ImplRule × (List (ImplProp)) × Int × Int × Unit → Option (Bool × Unit)) : ImplRule × ImplTree × Bool × (List (Int)) × Int × Int × Unit → Option (Bool × Unit) :=
fun (x3, x4, x5, x6, x7, x8, ()) =>
 br (decide (x8 < x7)) (
  gd (decide ((0 : Int) ≤ x8)) (
  gd (decide (x8 < (((List.length x6) : Nat) : Int))) (
  br x5 (
   G0 (x3, (ImplTree.mk (ImplTree.tag x4) (ImplTree.key x4) (ImplTree.text x4) (ImplTree.props x4) (ImplTree.kids x4)), true, x6, x7, (IntKind.i64.wrap (x8 + (1 : Int))), ())) (
   G0 (x3, (ImplTree.mk (ImplTree.tag x4) (ImplTree.key x4) (ImplTree.text x4) (ImplTree.props x4) (ImplTree.kids x4)), ((get x6 x8) == (ImplRule.above x3)), x6, x7, (IntKind.i64.wrap (x8 + (1 : Int))), ()))))) (
  br (!x5) (
  some (false, ())) (
  impl_meets.J12 N E2 (x3, (ImplTree.mk (ImplTree.tag x4) (ImplTree.key x4) (ImplTree.text x4) (ImplTree.props x4) (ImplTree.kids x4)), ())))

def impl_meets.B (N : Nat) (E0 : ImplRule × ImplTree × Bool × (List (Int)) × Int × Int × Unit → Option (Bool × Unit)) (E2 : ImplRule × (List (ImplProp)) × Int × Int × Unit → Option (Bool × Unit)) (x0 : ImplRule) (x1 : ImplTree) (x2 : List (Int)) : Option (Bool × Unit) :=
 br ((ImplRule.tag x0) != (-(1 : Int))) (
  br ((ImplRule.tag x0) != (ImplTree.tag x1)) (
   some (false, ())) (
   br ((ImplRule.above x0) != (-(1 : Int))) (
   E0 (x0, (ImplTree.mk (ImplTree.tag x1) (ImplTree.key x1) (ImplTree.text x1) (ImplTree.props x1) (ImplTree.kids x1)), false, x2, (((List.length x2) : Nat) : Int), (0 : Int), ())) (
   impl_meets.J12 N E2 (x0, (ImplTree.mk (ImplTree.tag x1) (ImplTree.key x1) (ImplTree.text x1) (ImplTree.props x1) (ImplTree.kids x1)), ())))) (
  br ((ImplRule.above x0) != (-(1 : Int))) (
  E0 (x0, (ImplTree.mk (ImplTree.tag x1) (ImplTree.key x1) (ImplTree.text x1) (ImplTree.props x1) (ImplTree.kids x1)), false, x2, (((List.length x2) : Nat) : Int), (0 : Int), ())) (
  impl_meets.J12 N E2 (x0, (ImplTree.mk (ImplTree.tag x1) (ImplTree.key x1) (ImplTree.text x1) (ImplTree.props x1) (ImplTree.kids x1)), ())))

def impl_meets.L2 (N : Nat) : Nat → ImplRule × (List (ImplProp)) × Int × Int × Unit → Option (Bool × Unit)
  | 0, _ => none
  | n + 1, x => impl_meets.B2 N (impl_meets.L2 N n) x

def impl_meets.L0 (N : Nat) : Nat → ImplRule × ImplTree × Bool × (List (Int)) × Int × Int × Unit → Option (Bool × Unit)
  | 0, _ => none
  | n + 1, x => impl_meets.B0 N (impl_meets.L0 N n) (impl_meets.L2 N N) x

def impl_meets (N : Nat) (x0 : ImplRule) (x1 : ImplTree) (x2 : List (Int)) : Option (Bool × Unit) := impl_meets.B N (impl_meets.L0 N N) (impl_meets.L2 N N) x0 x1 x2

def impl_wayCopy.B (N : Nat) (x0 : List (Int)) : Option ((List (Int)) × Unit) :=
 gd (decide ((List.length x0) < 68719476736)) (
 some (x0, ()))

def impl_wayCopy (N : Nat) (x0 : List (Int)) : Option ((List (Int)) × Unit) := impl_wayCopy.B N x0

def impl_wayMore.B (N : Nat) (x0 : List (Int)) (x1 : Int) : Option ((List (Int)) × Unit) :=
 gd (decide (((List.length ([] : List (Int))) + (List.length x0)) < 68719476736)) (
 gd (decide (((List.length (([] : List (Int)) ++ x0)) + (List.length ([x1] : List (Int)))) < 68719476736)) (
 some (((([] : List (Int)) ++ x0) ++ ([x1] : List (Int))), ())))

def impl_wayMore (N : Nat) (x0 : List (Int)) (x1 : Int) : Option ((List (Int)) × Unit) := impl_wayMore.B N x0 x1

def impl_findAll.B0 (N : Nat) (R_impl_findAll : ImplTree → ImplRule → List (Int) → List (Int) → Option ((List (List (Int))) × Unit)) (G0 : (List (Int)) × ImplRule × (List (List (Int))) × (List (Int)) × (List (ImplTree)) × Int × Int × Unit → Option ((List (List (Int))) × Unit)) : (List (Int)) × ImplRule × (List (List (Int))) × (List (Int)) × (List (ImplTree)) × Int × Int × Unit → Option ((List (List (Int))) × Unit) :=
fun (x11, x12, x13, x14, x15, x16, x17, ()) =>
 br (decide (x17 < x16)) (
  gd (decide ((0 : Int) ≤ x17)) (
  gd (decide (x17 < (((List.length x15) : Nat) : Int))) (
  bnd (impl_wayMore N x11 x17) fun r19 =>
  bnd (R_impl_findAll (ImplTree.mk (ImplTree.tag (get x15 x17)) (ImplTree.key (get x15 x17)) (ImplTree.text (get x15 x17)) (ImplTree.props (get x15 x17)) (ImplTree.kids (get x15 x17))) x12 x14 (r19).1) fun r20 =>
  gd (decide (((List.length x13) + (List.length (r20).1)) < 68719476736)) (
  G0 (x11, x12, (x13 ++ (r20).1), x14, x15, x16, (IntKind.i64.wrap (x17 + (1 : Int))), ()))))) (
  some (x13, ()))

def impl_findAll.J6 (N : Nat) (R_impl_findAll : ImplTree → ImplRule → List (Int) → List (Int) → Option ((List (List (Int))) × Unit)) (E0 : (List (Int)) × ImplRule × (List (List (Int))) × (List (Int)) × (List (ImplTree)) × Int × Int × Unit → Option ((List (List (Int))) × Unit)) : (List (Int)) × (List (Int)) × ImplTree × ImplRule × (List (List (Int))) × Unit → Option ((List (List (Int))) × Unit) :=
fun (x6, x7, x8, x9, x10, ()) =>
 gd (decide (((List.length ([] : List (Int))) + (List.length x6)) < 68719476736)) (
 gd (decide (((List.length (([] : List (Int)) ++ x6)) + (List.length ([(ImplTree.tag x8)] : List (Int)))) < 68719476736)) (
 E0 (x7, x9, x10, ((([] : List (Int)) ++ x6) ++ ([(ImplTree.tag x8)] : List (Int))), (ImplTree.kids x8), (((List.length (ImplTree.kids x8)) : Nat) : Int), (0 : Int), ())))

def impl_findAll.B (N : Nat) (R_impl_findAll : ImplTree → ImplRule → List (Int) → List (Int) → Option ((List (List (Int))) × Unit)) (E0 : (List (Int)) × ImplRule × (List (List (Int))) × (List (Int)) × (List (ImplTree)) × Int × Int × Unit → Option ((List (List (Int))) × Unit)) (x0 : ImplTree) (x1 : ImplRule) (x2 : List (Int)) (x3 : List (Int)) : Option ((List (List (Int))) × Unit) :=
 br ((ImplTree.tag x0) == (-(1 : Int))) (
  some (([] : List (List (Int))), ())) (
  bnd (impl_meets N x1 (ImplTree.mk (ImplTree.tag x0) (ImplTree.key x0) (ImplTree.text x0) (ImplTree.props x0) (ImplTree.kids x0)) x2) fun r4 =>
 br (r4).1 (
  bnd (impl_wayCopy N x3) fun r5 =>
  gd (decide ((List.length ([(r5).1] : List (List (Int)))) < 68719476736)) (
  impl_findAll.J6 N R_impl_findAll E0 (x2, x3, (ImplTree.mk (ImplTree.tag x0) (ImplTree.key x0) (ImplTree.text x0) (ImplTree.props x0) (ImplTree.kids x0)), x1, ([(r5).1] : List (List (Int))), ()))) (
  impl_findAll.J6 N R_impl_findAll E0 (x2, x3, (ImplTree.mk (ImplTree.tag x0) (ImplTree.key x0) (ImplTree.text x0) (ImplTree.props x0) (ImplTree.kids x0)), x1, ([] : List (List (Int))), ())))

def impl_findAll.L0 (N : Nat) (R_impl_findAll : ImplTree → ImplRule → List (Int) → List (Int) → Option ((List (List (Int))) × Unit)) : Nat → (List (Int)) × ImplRule × (List (List (Int))) × (List (Int)) × (List (ImplTree)) × Int × Int × Unit → Option ((List (List (Int))) × Unit)
  | 0, _ => none
  | n + 1, x => impl_findAll.B0 N R_impl_findAll (impl_findAll.L0 N R_impl_findAll n) x

def impl_findAll.R (N : Nat) : Nat → ImplTree → ImplRule → List (Int) → List (Int) → Option ((List (List (Int))) × Unit)
  | 0, _, _, _, _ => none
  | d + 1, x0, x1, x2, x3 => impl_findAll.B N (impl_findAll.R N d) (impl_findAll.L0 N (impl_findAll.R N d) N) x0 x1 x2 x3

def impl_findAll (N : Nat) (x0 : ImplTree) (x1 : ImplRule) (x2 : List (Int)) (x3 : List (Int)) : Option ((List (List (Int))) × Unit) := impl_findAll.R N N x0 x1 x2 x3

def impl_FindAll.B (N : Nat) (x0 : ImplTree) (x1 : ImplRule) : Option ((List (List (Int))) × Unit) :=
 bnd (impl_TreeOk N (ImplTree.mk (ImplTree.tag x0) (ImplTree.key x0) (ImplTree.text x0) (ImplTree.props x0) (ImplTree.kids x0))) fun r2 =>
 br (!(r2).1) (
  some (([] : List (List (Int))), ())) (
  bnd (impl_RulesOk N ([x1] : List (ImplRule))) fun r3 =>
 br (!(r3).1) (
  some (([] : List (List (Int))), ())) (
  bnd (impl_findAll N (ImplTree.mk (ImplTree.tag x0) (ImplTree.key x0) (ImplTree.text x0) (ImplTree.props x0) (ImplTree.kids x0)) x1 ([] : List (Int)) ([] : List (Int))) fun r4 =>
 some ((r4).1, ())))

def impl_FindAll (N : Nat) (x0 : ImplTree) (x1 : ImplRule) : Option ((List (List (Int))) × Unit) := impl_FindAll.B N x0 x1

def spec_treeSize.B0 (N : Nat) (R_spec_treeSize : ImplTree → Int → Option (Int × Unit)) (G0 : Int × ImplTree × Int × Int × Unit → Option (Int × Unit)) : Int × ImplTree × Int × Int × Unit → Option (Int × Unit) :=
fun (x2, x3, x4, x5, ()) =>
 br (decide (x5 < (((List.length (ImplTree.kids x3)) : Nat) : Int))) (
  br (decide (x4 ≤ (200 : Int))) (
   gd (decide ((0 : Int) ≤ x5)) (
   gd (decide (x5 < (((List.length (ImplTree.kids x3)) : Nat) : Int))) (
   bnd (R_spec_treeSize (ImplTree.mk (ImplTree.tag (get (ImplTree.kids x3) x5)) (ImplTree.key (get (ImplTree.kids x3) x5)) (ImplTree.text (get (ImplTree.kids x3) x5)) (ImplTree.props (get (ImplTree.kids x3) x5)) (ImplTree.kids (get (ImplTree.kids x3) x5))) (IntKind.i64.wrap (x2 + (1 : Int)))) fun r7 =>
   G0 (x2, (ImplTree.mk (ImplTree.tag x3) (ImplTree.key x3) (ImplTree.text x3) (ImplTree.props x3) (ImplTree.kids x3)), (IntKind.i64.wrap (x4 + (r7).1)), (IntKind.i64.wrap (x5 + (1 : Int))), ())))) (
   some ((cond (decide ((201 : Int) < x4)) (201 : Int) x4), ()))) (
  some ((cond (decide ((201 : Int) < x4)) (201 : Int) x4), ()))

def spec_treeSize.B (N : Nat) (R_spec_treeSize : ImplTree → Int → Option (Int × Unit)) (E0 : Int × ImplTree × Int × Int × Unit → Option (Int × Unit)) (x0 : ImplTree) (x1 : Int) : Option (Int × Unit) :=
 br (decide (x1 > (24 : Int))) (
  some ((201 : Int), ())) (
  E0 (x1, (ImplTree.mk (ImplTree.tag x0) (ImplTree.key x0) (ImplTree.text x0) (ImplTree.props x0) (ImplTree.kids x0)), (1 : Int), (0 : Int), ()))

def spec_treeSize.L0 (N : Nat) (R_spec_treeSize : ImplTree → Int → Option (Int × Unit)) : Nat → Int × ImplTree × Int × Int × Unit → Option (Int × Unit)
  | 0, _ => none
  | n + 1, x => spec_treeSize.B0 N R_spec_treeSize (spec_treeSize.L0 N R_spec_treeSize n) x

def spec_treeSize.R (N : Nat) : Nat → ImplTree → Int → Option (Int × Unit)
  | 0, _, _ => none
  | d + 1, x0, x1 => spec_treeSize.B N (spec_treeSize.R N d) (spec_treeSize.L0 N (spec_treeSize.R N d) N) x0 x1

def spec_treeSize (N : Nat) (x0 : ImplTree) (x1 : Int) : Option (Int × Unit) := spec_treeSize.R N N x0 x1

def spec_decimal.B (N : Nat) (R_spec_decimal : Int → Option ((List UInt8) × Unit)) (x0 : Int) : Option ((List UInt8) × Unit) :=
 br (decide (x0 < (0 : Int))) (
  bnd (R_spec_decimal (IntKind.i64.wrap ((0 : Int) - x0))) fun r1 =>
  gd (decide (((List.length ([45] : List (UInt8))) + (List.length (r1).1)) < 68719476736)) (
  some ((([45] : List (UInt8)) ++ (r1).1), ()))) (
  br (decide (x0 < (10 : Int))) (
  gd (decide ((0 : Int) ≤ x0)) (
  gd (decide (x0 ≤ (IntKind.i64.wrap (x0 + (1 : Int))))) (
  gd (decide ((IntKind.i64.wrap (x0 + (1 : Int))) ≤ (((List.length ([48, 49, 50, 51, 52, 53, 54, 55, 56, 57] : List (UInt8))) : Nat) : Int))) (
  some ((sub ([48, 49, 50, 51, 52, 53, 54, 55, 56, 57] : List (UInt8)) x0 (IntKind.i64.wrap (x0 + (1 : Int)))), ()))))) (
  bnd (R_spec_decimal (IntKind.i64.wrap (Int.tdiv x0 (10 : Int)))) fun r2 =>
 bnd (R_spec_decimal (Int.tmod x0 (10 : Int))) fun r3 =>
 gd (decide (((List.length (r2).1) + (List.length (r3).1)) < 68719476736)) (
 some (((r2).1 ++ (r3).1), ()))))

def spec_decimal.R (N : Nat) : Nat → Int → Option ((List UInt8) × Unit)
  | 0, _ => none
  | d + 1, x0 => spec_decimal.B N (spec_decimal.R N d) x0

def spec_decimal (N : Nat) (x0 : Int) : Option ((List UInt8) × Unit) := spec_decimal.R N N x0

def spec_validShown.B0 (N : Nat) (G0 : (List UInt8) × Int × Unit → Option (Bool × Unit)) : (List UInt8) × Int × Unit → Option (Bool × Unit) :=
fun (x3, x4, ()) =>
 br (decide (x4 ≤ (1000 : Int))) (
  bnd (spec_decimal N (IntKind.i64.wrap ((0 : Int) - x4))) fun r6 =>
  br (x3 == (r6).1) (
   some (true, ())) (
   G0 (x3, (IntKind.i64.wrap (x4 + (1 : Int))), ()))) (
  some (false, ()))

def spec_validShown.B (N : Nat) (E0 : (List UInt8) × Int × Unit → Option (Bool × Unit)) (x0 : List UInt8) : Option (Bool × Unit) :=
 br ((((List.length x0) : Nat) : Int) == (0 : Int)) (
  bnd (spec_validWord N x0) fun r1 =>
  some ((r1).1, ())) (
  gd (decide ((0 : Int) < (((List.length x0) : Nat) : Int))) (
 br ((((UInt8.toNat (List.getD x0 (Int.toNat (0 : Int)) 0)) : Nat) : Int) != (45 : Int)) (
  bnd (spec_validWord N x0) fun r2 =>
  some ((r2).1, ())) (
  E0 (x0, (1 : Int), ()))))

def spec_validShown.L0 (N : Nat) : Nat → (List UInt8) × Int × Unit → Option (Bool × Unit)
  | 0, _ => none
  | n + 1, x => spec_validShown.B0 N (spec_validShown.L0 N n) x

def spec_validShown (N : Nat) (x0 : List UInt8) : Option (Bool × Unit) := spec_validShown.B N (spec_validShown.L0 N N) x0

def spec_validPropList.B0 (N : Nat) (G0 : (List (ImplProp)) × Int × Unit → Option (Bool × Unit)) : (List (ImplProp)) × Int × Unit → Option (Bool × Unit) :=
fun (x1, x2, ()) =>
 br (decide (x2 < (((List.length x1) : Nat) : Int))) (
  gd (decide ((0 : Int) ≤ x2)) (
  gd (decide (x2 < (((List.length x1) : Nat) : Int))) (
  bnd (spec_inRange N (ImplProp.name (get x1 x2)) (0 : Int) (3 : Int)) fun r4 =>
  br (!(r4).1) (
   some (false, ())) (
   gd (decide ((0 : Int) ≤ x2)) (
  gd (decide (x2 < (((List.length x1) : Nat) : Int))) (
  bnd (spec_validValue N (ImplValue.mk (ImplProp.val_Kind (get x1 x2)) (ImplProp.val_Num (get x1 x2)) (ImplProp.val_Text (get x1 x2)))) fun r5 =>
  br (!(r5).1) (
   some (false, ())) (
   br (decide (x2 > (0 : Int))) (
   gd (decide ((0 : Int) ≤ x2)) (
   gd (decide (x2 < (((List.length x1) : Nat) : Int))) (
   gd (decide ((0 : Int) ≤ (IntKind.i64.wrap (x2 - (1 : Int))))) (
   gd (decide ((IntKind.i64.wrap (x2 - (1 : Int))) < (((List.length x1) : Nat) : Int))) (
   br (decide ((ImplProp.name (get x1 x2)) ≤ (ImplProp.name (get x1 (IntKind.i64.wrap (x2 - (1 : Int))))))) (
    some (false, ())) (
    G0 (x1, (IntKind.i64.wrap (x2 + (1 : Int))), ()))))))) (
   G0 (x1, (IntKind.i64.wrap (x2 + (1 : Int))), ()))))))))) (
  some (true, ()))

def spec_validPropList.B (N : Nat) (E0 : (List (ImplProp)) × Int × Unit → Option (Bool × Unit)) (x0 : List (ImplProp)) : Option (Bool × Unit) :=
 E0 (x0, (0 : Int), ())

def spec_validPropList.L0 (N : Nat) : Nat → (List (ImplProp)) × Int × Unit → Option (Bool × Unit)
  | 0, _ => none
  | n + 1, x => spec_validPropList.B0 N (spec_validPropList.L0 N n) x

def spec_validPropList (N : Nat) (x0 : List (ImplProp)) : Option (Bool × Unit) := spec_validPropList.B N (spec_validPropList.L0 N N) x0

def spec_keysApart.B2 (N : Nat) (G0 : (List (ImplTree)) × Int × Unit → Option (Bool × Unit)) (G2 : (List (ImplTree)) × Int × Int × Unit → Option (Bool × Unit)) : (List (ImplTree)) × Int × Int × Unit → Option (Bool × Unit) :=
fun (x4, x5, x6, ()) =>
 br (decide (x6 < x5)) (
  gd (decide ((0 : Int) ≤ x5)) (
  gd (decide (x5 < (((List.length x4) : Nat) : Int))) (
  br ((ImplTree.key (get x4 x5)) != (-(1 : Int))) (
   gd (decide ((0 : Int) ≤ x5)) (
   gd (decide (x5 < (((List.length x4) : Nat) : Int))) (
   gd (decide ((0 : Int) ≤ x6)) (
   gd (decide (x6 < (((List.length x4) : Nat) : Int))) (
   br ((ImplTree.key (get x4 x5)) == (ImplTree.key (get x4 x6))) (
    some (false, ())) (
    G2 (x4, x5, (IntKind.i64.wrap (x6 + (1 : Int))), ()))))))) (
   G2 (x4, x5, (IntKind.i64.wrap (x6 + (1 : Int))), ()))))) (
  G0 (x4, (IntKind.i64.wrap (x5 + (1 : Int))), ()))

def spec_keysApart.B0 (N : Nat) (E2 : (List (ImplTree)) × Int × Int × Unit → Option (Bool × Unit)) : (List (ImplTree)) × Int × Unit → Option (Bool × Unit) :=
fun (x1, x2, ()) =>
 br (decide (x2 < (((List.length x1) : Nat) : Int))) (
  E2 (x1, x2, (0 : Int), ())) (
  some (true, ()))

def spec_keysApart.B (N : Nat) (E0 : (List (ImplTree)) × Int × Unit → Option (Bool × Unit)) (x0 : List (ImplTree)) : Option (Bool × Unit) :=
 E0 (x0, (0 : Int), ())

def spec_keysApart.L2 (N : Nat) (G0 : (List (ImplTree)) × Int × Unit → Option (Bool × Unit)) : Nat → (List (ImplTree)) × Int × Int × Unit → Option (Bool × Unit)
  | 0, _ => none
  | n + 1, x => spec_keysApart.B2 N G0 (spec_keysApart.L2 N G0 n) x

def spec_keysApart.L0 (N : Nat) : Nat → (List (ImplTree)) × Int × Unit → Option (Bool × Unit)
  | 0, _ => none
  | n + 1, x => spec_keysApart.B0 N (spec_keysApart.L2 N (spec_keysApart.L0 N n) N) x

def spec_keysApart (N : Nat) (x0 : List (ImplTree)) : Option (Bool × Unit) := spec_keysApart.B N (spec_keysApart.L0 N N) x0

def spec_validPart.B0 (N : Nat) (R_spec_validPart : ImplTree → Option (Bool × Unit)) (G0 : ImplTree × Int × Unit → Option (Bool × Unit)) : ImplTree × Int × Unit → Option (Bool × Unit) :=
fun (x5, x6, ()) =>
 br (decide (x6 < (((List.length (ImplTree.kids x5)) : Nat) : Int))) (
  gd (decide ((0 : Int) ≤ x6)) (
  gd (decide (x6 < (((List.length (ImplTree.kids x5)) : Nat) : Int))) (
  bnd (R_spec_validPart (ImplTree.mk (ImplTree.tag (get (ImplTree.kids x5) x6)) (ImplTree.key (get (ImplTree.kids x5) x6)) (ImplTree.text (get (ImplTree.kids x5) x6)) (ImplTree.props (get (ImplTree.kids x5) x6)) (ImplTree.kids (get (ImplTree.kids x5) x6)))) fun r8 =>
  br (!(r8).1) (
   some (false, ())) (
   G0 ((ImplTree.mk (ImplTree.tag x5) (ImplTree.key x5) (ImplTree.text x5) (ImplTree.props x5) (ImplTree.kids x5)), (IntKind.i64.wrap (x6 + (1 : Int))), ()))))) (
  bnd (spec_keysApart N (ImplTree.kids x5)) fun r9 =>
 some ((r9).1, ()))

def spec_validPart.B (N : Nat) (R_spec_validPart : ImplTree → Option (Bool × Unit)) (E0 : ImplTree × Int × Unit → Option (Bool × Unit)) (x0 : ImplTree) : Option (Bool × Unit) :=
 br ((ImplTree.tag x0) == (-(1 : Int))) (
  br ((ImplTree.key x0) == (-(1 : Int))) (
   br ((((List.length (ImplTree.props x0)) : Nat) : Int) == (0 : Int)) (
    br ((((List.length (ImplTree.kids x0)) : Nat) : Int) == (0 : Int)) (
     bnd (spec_validShown N (ImplTree.text x0)) fun r1 =>
     some ((r1).1, ())) (
     some (false, ()))) (
    some (false, ()))) (
   some (false, ()))) (
  bnd (spec_inRange N (ImplTree.tag x0) (0 : Int) (4 : Int)) fun r2 =>
 br (!(r2).1) (
  some (false, ())) (
  bnd (spec_inRange N (ImplTree.key x0) (-(1 : Int)) (99 : Int)) fun r3 =>
 br (!(r3).1) (
  some (false, ())) (
  br (!((ImplTree.text x0) == ([] : List (UInt8)))) (
  some (false, ())) (
  bnd (spec_validPropList N (ImplTree.props x0)) fun r4 =>
 br (!(r4).1) (
  some (false, ())) (
  E0 ((ImplTree.mk (ImplTree.tag x0) (ImplTree.key x0) (ImplTree.text x0) (ImplTree.props x0) (ImplTree.kids x0)), (0 : Int), ()))))))

def spec_validPart.L0 (N : Nat) (R_spec_validPart : ImplTree → Option (Bool × Unit)) : Nat → ImplTree × Int × Unit → Option (Bool × Unit)
  | 0, _ => none
  | n + 1, x => spec_validPart.B0 N R_spec_validPart (spec_validPart.L0 N R_spec_validPart n) x

def spec_validPart.R (N : Nat) : Nat → ImplTree → Option (Bool × Unit)
  | 0, _ => none
  | d + 1, x0 => spec_validPart.B N (spec_validPart.R N d) (spec_validPart.L0 N (spec_validPart.R N d) N) x0

def spec_validPart (N : Nat) (x0 : ImplTree) : Option (Bool × Unit) := spec_validPart.R N N x0

def spec_validTree.B (N : Nat) (x0 : ImplTree) : Option (Bool × Unit) :=
 bnd (spec_treeSize N (ImplTree.mk (ImplTree.tag x0) (ImplTree.key x0) (ImplTree.text x0) (ImplTree.props x0) (ImplTree.kids x0)) (1 : Int)) fun r1 =>
 br (decide ((r1).1 ≤ (200 : Int))) (
  bnd (spec_validPart N (ImplTree.mk (ImplTree.tag x0) (ImplTree.key x0) (ImplTree.text x0) (ImplTree.props x0) (ImplTree.kids x0))) fun r2 =>
  some ((r2).1, ())) (
  some (false, ()))

def spec_validTree (N : Nat) (x0 : ImplTree) : Option (Bool × Unit) := spec_validTree.B N x0

def spec_validRule.B (N : Nat) (x0 : ImplRule) : Option (Bool × Unit) :=
 bnd (spec_inRange N (ImplRule.tag x0) (-(1 : Int)) (4 : Int)) fun r1 =>
 br (r1).1 (
  bnd (spec_inRange N (ImplRule.above x0) (-(1 : Int)) (4 : Int)) fun r2 =>
  br (r2).1 (
   bnd (spec_inRange N (ImplRule.name x0) (-(1 : Int)) (3 : Int)) fun r3 =>
   br (r3).1 (
    bnd (spec_validValue N (ImplValue.mk (ImplRule.val_Kind x0) (ImplRule.val_Num x0) (ImplRule.val_Text x0))) fun r4 =>
    br (r4).1 (
     br ((ImplRule.name x0) != (-(1 : Int))) (
      bnd (spec_inRange N (ImplRule.look x0) (0 : Int) (4 : Int)) fun r5 =>
      br (r5).1 (
       bnd (spec_inRange N (ImplRule.give x0) (0 : Int) (60 : Int)) fun r6 =>
       some ((r6).1, ())) (
       some (false, ()))) (
      br (((ImplRule.val_Kind x0) == (0 : Int)) && (((ImplRule.val_Num x0) == (0 : Int)) && ((ImplRule.val_Text x0) == ([] : List (UInt8))))) (
      bnd (spec_inRange N (ImplRule.look x0) (0 : Int) (4 : Int)) fun r7 =>
      br (r7).1 (
       bnd (spec_inRange N (ImplRule.give x0) (0 : Int) (60 : Int)) fun r8 =>
       some ((r8).1, ())) (
       some (false, ()))) (
      some (false, ())))) (
     some (false, ()))) (
    some (false, ()))) (
   some (false, ()))) (
  some (false, ()))

def spec_validRule (N : Nat) (x0 : ImplRule) : Option (Bool × Unit) := spec_validRule.B N x0

def spec_hasInt.B0 (N : Nat) (G0 : (List (Int)) × Int × Int × Unit → Option (Bool × Unit)) : (List (Int)) × Int × Int × Unit → Option (Bool × Unit) :=
fun (x2, x3, x4, ()) =>
 br (decide (x4 < (((List.length x2) : Nat) : Int))) (
  gd (decide ((0 : Int) ≤ x4)) (
  gd (decide (x4 < (((List.length x2) : Nat) : Int))) (
  br ((get x2 x4) == x3) (
   some (true, ())) (
   G0 (x2, x3, (IntKind.i64.wrap (x4 + (1 : Int))), ()))))) (
  some (false, ()))

def spec_hasInt.B (N : Nat) (E0 : (List (Int)) × Int × Int × Unit → Option (Bool × Unit)) (x0 : List (Int)) (x1 : Int) : Option (Bool × Unit) :=
 E0 (x0, x1, (0 : Int), ())

def spec_hasInt.L0 (N : Nat) : Nat → (List (Int)) × Int × Int × Unit → Option (Bool × Unit)
  | 0, _ => none
  | n + 1, x => spec_hasInt.B0 N (spec_hasInt.L0 N n) x

def spec_hasInt (N : Nat) (x0 : List (Int)) (x1 : Int) : Option (Bool × Unit) := spec_hasInt.B N (spec_hasInt.L0 N N) x0 x1

def spec_propAt.B0 (N : Nat) (G0 : (List (ImplProp)) × Int × Int × Unit → Option (Int × Unit)) : (List (ImplProp)) × Int × Int × Unit → Option (Int × Unit) :=
fun (x2, x3, x4, ()) =>
 br (decide (x4 < (((List.length x2) : Nat) : Int))) (
  gd (decide ((0 : Int) ≤ x4)) (
  gd (decide (x4 < (((List.length x2) : Nat) : Int))) (
  br ((ImplProp.name (get x2 x4)) == x3) (
   some (x4, ())) (
   G0 (x2, x3, (IntKind.i64.wrap (x4 + (1 : Int))), ()))))) (
  some ((-(1 : Int)), ()))

def spec_propAt.B (N : Nat) (E0 : (List (ImplProp)) × Int × Int × Unit → Option (Int × Unit)) (x0 : List (ImplProp)) (x1 : Int) : Option (Int × Unit) :=
 E0 (x0, x1, (0 : Int), ())

def spec_propAt.L0 (N : Nat) : Nat → (List (ImplProp)) × Int × Int × Unit → Option (Int × Unit)
  | 0, _ => none
  | n + 1, x => spec_propAt.B0 N (spec_propAt.L0 N n) x

def spec_propAt (N : Nat) (x0 : List (ImplProp)) (x1 : Int) : Option (Int × Unit) := spec_propAt.B N (spec_propAt.L0 N N) x0 x1

def spec_meets.B (N : Nat) (x0 : ImplRule) (x1 : ImplTree) (x2 : List (Int)) : Option (Bool × Unit) :=
 br ((ImplRule.tag x0) != (-(1 : Int))) (
  br ((ImplRule.tag x0) != (ImplTree.tag x1)) (
   some (false, ())) (
   br ((ImplRule.above x0) != (-(1 : Int))) (
   bnd (spec_hasInt N x2 (ImplRule.above x0)) fun r3 =>
   br (!(r3).1) (
    some (false, ())) (
    br ((ImplRule.name x0) == (-(1 : Int))) (
    some (true, ())) (
    bnd (spec_propAt N (ImplTree.props x1) (ImplRule.name x0)) fun r4 =>
   br (decide ((r4).1 ≥ (0 : Int))) (
    gd (decide ((0 : Int) ≤ (r4).1)) (
    gd (decide ((r4).1 < (((List.length (ImplTree.props x1)) : Nat) : Int))) (
    some ((((ImplProp.val_Kind (get (ImplTree.props x1) (r4).1)) == (ImplRule.val_Kind x0)) && (((ImplProp.val_Num (get (ImplTree.props x1) (r4).1)) == (ImplRule.val_Num x0)) && ((ImplProp.val_Text (get (ImplTree.props x1) (r4).1)) == (ImplRule.val_Text x0)))), ())))) (
    some (false, ()))))) (
   br ((ImplRule.name x0) == (-(1 : Int))) (
   some (true, ())) (
   bnd (spec_propAt N (ImplTree.props x1) (ImplRule.name x0)) fun r5 =>
  br (decide ((r5).1 ≥ (0 : Int))) (
   gd (decide ((0 : Int) ≤ (r5).1)) (
   gd (decide ((r5).1 < (((List.length (ImplTree.props x1)) : Nat) : Int))) (
   some ((((ImplProp.val_Kind (get (ImplTree.props x1) (r5).1)) == (ImplRule.val_Kind x0)) && (((ImplProp.val_Num (get (ImplTree.props x1) (r5).1)) == (ImplRule.val_Num x0)) && ((ImplProp.val_Text (get (ImplTree.props x1) (r5).1)) == (ImplRule.val_Text x0)))), ())))) (
   some (false, ())))))) (
  br ((ImplRule.above x0) != (-(1 : Int))) (
  bnd (spec_hasInt N x2 (ImplRule.above x0)) fun r6 =>
  br (!(r6).1) (
   some (false, ())) (
   br ((ImplRule.name x0) == (-(1 : Int))) (
   some (true, ())) (
   bnd (spec_propAt N (ImplTree.props x1) (ImplRule.name x0)) fun r7 =>
  br (decide ((r7).1 ≥ (0 : Int))) (
   gd (decide ((0 : Int) ≤ (r7).1)) (
   gd (decide ((r7).1 < (((List.length (ImplTree.props x1)) : Nat) : Int))) (
   some ((((ImplProp.val_Kind (get (ImplTree.props x1) (r7).1)) == (ImplRule.val_Kind x0)) && (((ImplProp.val_Num (get (ImplTree.props x1) (r7).1)) == (ImplRule.val_Num x0)) && ((ImplProp.val_Text (get (ImplTree.props x1) (r7).1)) == (ImplRule.val_Text x0)))), ())))) (
   some (false, ()))))) (
  br ((ImplRule.name x0) == (-(1 : Int))) (
  some (true, ())) (
  bnd (spec_propAt N (ImplTree.props x1) (ImplRule.name x0)) fun r8 =>
 br (decide ((r8).1 ≥ (0 : Int))) (
  gd (decide ((0 : Int) ≤ (r8).1)) (
  gd (decide ((r8).1 < (((List.length (ImplTree.props x1)) : Nat) : Int))) (
  some ((((ImplProp.val_Kind (get (ImplTree.props x1) (r8).1)) == (ImplRule.val_Kind x0)) && (((ImplProp.val_Num (get (ImplTree.props x1) (r8).1)) == (ImplRule.val_Num x0)) && ((ImplProp.val_Text (get (ImplTree.props x1) (r8).1)) == (ImplRule.val_Text x0)))), ())))) (
  some (false, ())))))

def spec_meets (N : Nat) (x0 : ImplRule) (x1 : ImplTree) (x2 : List (Int)) : Option (Bool × Unit) := spec_meets.B N x0 x1 x2

def spec_found.B0 (N : Nat) (R_spec_found : ImplTree → List (Int) → List (Int) → ImplRule → List (List (Int)) → Option ((List (List (Int))) × Unit)) (G0 : (List (Int)) × (List (Int)) × (List (List (Int))) × ImplTree × ImplRule × Int × Unit → Option ((List (List (Int))) × Unit)) : (List (Int)) × (List (Int)) × (List (List (Int))) × ImplTree × ImplRule × Int × Unit → Option ((List (List (Int))) × Unit) :=
fun (x11, x12, x13, x14, x15, x16, ()) =>
 br (decide (x16 < (((List.length (ImplTree.kids x14)) : Nat) : Int))) (
  gd (decide ((0 : Int) ≤ x16)) (
  gd (decide (x16 < (((List.length (ImplTree.kids x14)) : Nat) : Int))) (
  gd (decide (((List.length ([] : List (Int))) + (List.length x11)) < 68719476736)) (
  gd (decide (((List.length (([] : List (Int)) ++ x11)) + (List.length ([(ImplTree.tag x14)] : List (Int)))) < 68719476736)) (
  gd (decide (((List.length ([] : List (Int))) + (List.length x12)) < 68719476736)) (
  gd (decide (((List.length (([] : List (Int)) ++ x12)) + (List.length ([x16] : List (Int)))) < 68719476736)) (
  bnd (R_spec_found (ImplTree.mk (ImplTree.tag (get (ImplTree.kids x14) x16)) (ImplTree.key (get (ImplTree.kids x14) x16)) (ImplTree.text (get (ImplTree.kids x14) x16)) (ImplTree.props (get (ImplTree.kids x14) x16)) (ImplTree.kids (get (ImplTree.kids x14) x16))) ((([] : List (Int)) ++ x11) ++ ([(ImplTree.tag x14)] : List (Int))) ((([] : List (Int)) ++ x12) ++ ([x16] : List (Int))) x15 x13) fun r18 =>
  G0 (x11, x12, (r18).1, (ImplTree.mk (ImplTree.tag x14) (ImplTree.key x14) (ImplTree.text x14) (ImplTree.props x14) (ImplTree.kids x14)), x15, (IntKind.i64.wrap (x16 + (1 : Int))), ())))))))) (
  some (x13, ()))

def spec_found.J5 (N : Nat) (R_spec_found : ImplTree → List (Int) → List (Int) → ImplRule → List (List (Int)) → Option ((List (List (Int))) × Unit)) (E0 : (List (Int)) × (List (Int)) × (List (List (Int))) × ImplTree × ImplRule × Int × Unit → Option ((List (List (Int))) × Unit)) : (List (Int)) × (List (Int)) × (List (List (Int))) × ImplTree × ImplRule × Unit → Option ((List (List (Int))) × Unit) :=
fun (x6, x7, x8, x9, x10, ()) =>
 E0 (x6, x7, x8, (ImplTree.mk (ImplTree.tag x9) (ImplTree.key x9) (ImplTree.text x9) (ImplTree.props x9) (ImplTree.kids x9)), x10, (0 : Int), ())

def spec_found.B (N : Nat) (R_spec_found : ImplTree → List (Int) → List (Int) → ImplRule → List (List (Int)) → Option ((List (List (Int))) × Unit)) (E0 : (List (Int)) × (List (Int)) × (List (List (Int))) × ImplTree × ImplRule × Int × Unit → Option ((List (List (Int))) × Unit)) (x0 : ImplTree) (x1 : List (Int)) (x2 : List (Int)) (x3 : ImplRule) (x4 : List (List (Int))) : Option ((List (List (Int))) × Unit) :=
 br (decide ((ImplTree.tag x0) < (0 : Int))) (
  some (x4, ())) (
  bnd (spec_meets N x3 (ImplTree.mk (ImplTree.tag x0) (ImplTree.key x0) (ImplTree.text x0) (ImplTree.props x0) (ImplTree.kids x0)) x1) fun r5 =>
 br (r5).1 (
  gd (decide (((List.length ([] : List (Int))) + (List.length x2)) < 68719476736)) (
  gd (decide (((List.length x4) + (List.length ([(([] : List (Int)) ++ x2)] : List (List (Int))))) < 68719476736)) (
  spec_found.J5 N R_spec_found E0 (x1, x2, (x4 ++ ([(([] : List (Int)) ++ x2)] : List (List (Int)))), (ImplTree.mk (ImplTree.tag x0) (ImplTree.key x0) (ImplTree.text x0) (ImplTree.props x0) (ImplTree.kids x0)), x3, ())))) (
  spec_found.J5 N R_spec_found E0 (x1, x2, x4, (ImplTree.mk (ImplTree.tag x0) (ImplTree.key x0) (ImplTree.text x0) (ImplTree.props x0) (ImplTree.kids x0)), x3, ())))

def spec_found.L0 (N : Nat) (R_spec_found : ImplTree → List (Int) → List (Int) → ImplRule → List (List (Int)) → Option ((List (List (Int))) × Unit)) : Nat → (List (Int)) × (List (Int)) × (List (List (Int))) × ImplTree × ImplRule × Int × Unit → Option ((List (List (Int))) × Unit)
  | 0, _ => none
  | n + 1, x => spec_found.B0 N R_spec_found (spec_found.L0 N R_spec_found n) x

def spec_found.R (N : Nat) : Nat → ImplTree → List (Int) → List (Int) → ImplRule → List (List (Int)) → Option ((List (List (Int))) × Unit)
  | 0, _, _, _, _, _ => none
  | d + 1, x0, x1, x2, x3, x4 => spec_found.B N (spec_found.R N d) (spec_found.L0 N (spec_found.R N d) N) x0 x1 x2 x3 x4

def spec_found (N : Nat) (x0 : ImplTree) (x1 : List (Int)) (x2 : List (Int)) (x3 : ImplRule) (x4 : List (List (Int))) : Option ((List (List (Int))) × Unit) := spec_found.R N N x0 x1 x2 x3 x4

def spec_FindAll.B (N : Nat) (x0 : ImplTree) (x1 : ImplRule) : Option ((List (List (Int))) × Unit) :=
 bnd (spec_validTree N (ImplTree.mk (ImplTree.tag x0) (ImplTree.key x0) (ImplTree.text x0) (ImplTree.props x0) (ImplTree.kids x0))) fun r2 =>
 br (!(r2).1) (
  some (([] : List (List (Int))), ())) (
  bnd (spec_validRule N x1) fun r3 =>
 br (!(r3).1) (
  some (([] : List (List (Int))), ())) (
  bnd (spec_found N (ImplTree.mk (ImplTree.tag x0) (ImplTree.key x0) (ImplTree.text x0) (ImplTree.props x0) (ImplTree.kids x0)) ([] : List (Int)) ([] : List (Int)) x1 ([] : List (List (Int)))) fun r4 =>
 some ((r4).1, ())))

def spec_FindAll (N : Nat) (x0 : ImplTree) (x1 : ImplRule) : Option ((List (List (Int))) × Unit) := spec_FindAll.B N x0 x1

def spec_SameInts.B0 (N : Nat) (G0 : (List (Int)) × (List (Int)) × Int × Unit → Option (Bool × Unit)) : (List (Int)) × (List (Int)) × Int × Unit → Option (Bool × Unit) :=
fun (x2, x3, x4, ()) =>
 br (decide (x4 < (((List.length x2) : Nat) : Int))) (
  gd (decide ((0 : Int) ≤ x4)) (
  gd (decide (x4 < (((List.length x2) : Nat) : Int))) (
  gd (decide ((0 : Int) ≤ x4)) (
  gd (decide (x4 < (((List.length x3) : Nat) : Int))) (
  br ((get x2 x4) != (get x3 x4)) (
   some (false, ())) (
   G0 (x2, x3, (IntKind.i64.wrap (x4 + (1 : Int))), ()))))))) (
  some (true, ()))

def spec_SameInts.B (N : Nat) (E0 : (List (Int)) × (List (Int)) × Int × Unit → Option (Bool × Unit)) (x0 : List (Int)) (x1 : List (Int)) : Option (Bool × Unit) :=
 br ((((List.length x0) : Nat) : Int) != (((List.length x1) : Nat) : Int)) (
  some (false, ())) (
  E0 (x0, x1, (0 : Int), ()))

def spec_SameInts.L0 (N : Nat) : Nat → (List (Int)) × (List (Int)) × Int × Unit → Option (Bool × Unit)
  | 0, _ => none
  | n + 1, x => spec_SameInts.B0 N (spec_SameInts.L0 N n) x

def spec_SameInts (N : Nat) (x0 : List (Int)) (x1 : List (Int)) : Option (Bool × Unit) := spec_SameInts.B N (spec_SameInts.L0 N N) x0 x1

def spec_SameRows.B0 (N : Nat) (G0 : (List (List (Int))) × (List (List (Int))) × Int × Unit → Option (Bool × Unit)) : (List (List (Int))) × (List (List (Int))) × Int × Unit → Option (Bool × Unit) :=
fun (x2, x3, x4, ()) =>
 br (decide (x4 < (((List.length x2) : Nat) : Int))) (
  gd (decide ((0 : Int) ≤ x4)) (
  gd (decide (x4 < (((List.length x2) : Nat) : Int))) (
  gd (decide ((0 : Int) ≤ x4)) (
  gd (decide (x4 < (((List.length x3) : Nat) : Int))) (
  bnd (spec_SameInts N (get x2 x4) (get x3 x4)) fun r6 =>
  br (!(r6).1) (
   some (false, ())) (
   G0 (x2, x3, (IntKind.i64.wrap (x4 + (1 : Int))), ()))))))) (
  some (true, ()))

def spec_SameRows.B (N : Nat) (E0 : (List (List (Int))) × (List (List (Int))) × Int × Unit → Option (Bool × Unit)) (x0 : List (List (Int))) (x1 : List (List (Int))) : Option (Bool × Unit) :=
 br ((((List.length x0) : Nat) : Int) != (((List.length x1) : Nat) : Int)) (
  some (false, ())) (
  E0 (x0, x1, (0 : Int), ()))

def spec_SameRows.L0 (N : Nat) : Nat → (List (List (Int))) × (List (List (Int))) × Int × Unit → Option (Bool × Unit)
  | 0, _ => none
  | n + 1, x => spec_SameRows.B0 N (spec_SameRows.L0 N n) x

def spec_SameRows (N : Nat) (x0 : List (List (Int))) (x1 : List (List (Int))) : Option (Bool × Unit) := spec_SameRows.B N (spec_SameRows.L0 N N) x0 x1

def impl_weight.J6 (N : Nat) : ImplRule × Int × Unit → Option (Int × Unit) :=
fun (x3, x4, ()) =>
 br ((ImplRule.name x3) != (-(1 : Int))) (
  some ((IntKind.i64.wrap (x4 + (10 : Int))), ())) (
  some (x4, ()))

def impl_weight.J4 (N : Nat) : ImplRule × Int × Unit → Option (Int × Unit) :=
fun (x1, x2, ()) =>
 br ((ImplRule.above x1) != (-(1 : Int))) (
  impl_weight.J6 N (x1, (IntKind.i64.wrap (x2 + (1 : Int))), ())) (
  impl_weight.J6 N (x1, x2, ()))

def impl_weight.B (N : Nat) (x0 : ImplRule) : Option (Int × Unit) :=
 br ((ImplRule.tag x0) != (-(1 : Int))) (
  impl_weight.J4 N (x0, (IntKind.i64.wrap ((0 : Int) + (1 : Int))), ())) (
  impl_weight.J4 N (x0, (0 : Int), ()))

def impl_weight (N : Nat) (x0 : ImplRule) : Option (Int × Unit) := impl_weight.B N x0

def impl_looks.B2 (N : Nat) (R_impl_looks : ImplTree → List (ImplRule) → List (Int) → Int → Option ((List (List (Int))) × Unit)) (G0 : (List (Int)) × (List (ImplRule)) × (List (Int)) × ImplTree × Int × Unit → Option ((List (List (Int))) × Unit)) (G2 : (List (Int)) × (List (ImplRule)) × (List (Int)) × ImplTree × Int × Int × Int × (List (ImplRule)) × Int × Int × Unit → Option ((List (List (Int))) × Unit)) : (List (Int)) × (List (ImplRule)) × (List (Int)) × ImplTree × Int × Int × Int × (List (ImplRule)) × Int × Int × Unit → Option ((List (List (Int))) × Unit) :=
fun (x10, x11, x12, x13, x14, x15, x16, x17, x18, x19, ()) =>
 br (decide (x19 < x18)) (
  gd (decide ((0 : Int) ≤ x19)) (
  gd (decide (x19 < (((List.length x17) : Nat) : Int))) (
  br ((ImplRule.look (get x17 x19)) == x14) (
   bnd (impl_weight N (get x17 x19)) fun r21 =>
   br (decide ((r21).1 ≥ x15)) (
    bnd (impl_meets N (get x17 x19) (ImplTree.mk (ImplTree.tag x13) (ImplTree.key x13) (ImplTree.text x13) (ImplTree.props x13) (ImplTree.kids x13)) x12) fun r22 =>
    br (r22).1 (
     bnd (impl_weight N (get x17 x19)) fun r23 =>
     gd (decide ((0 : Int) ≤ x14)) (
     gd (decide (x14 < (((List.length x10) : Nat) : Int))) (
     G2 ((List.set x10 (Int.toNat x14) (ImplRule.give (get x17 x19))), x11, x12, (ImplTree.mk (ImplTree.tag x13) (ImplTree.key x13) (ImplTree.text x13) (ImplTree.props x13) (ImplTree.kids x13)), x14, (r23).1, x16, x17, x18, (IntKind.i64.wrap (x19 + (1 : Int))), ())))) (
     G2 (x10, x11, x12, (ImplTree.mk (ImplTree.tag x13) (ImplTree.key x13) (ImplTree.text x13) (ImplTree.props x13) (ImplTree.kids x13)), x14, x15, x16, x17, x18, (IntKind.i64.wrap (x19 + (1 : Int))), ()))) (
    G2 (x10, x11, x12, (ImplTree.mk (ImplTree.tag x13) (ImplTree.key x13) (ImplTree.text x13) (ImplTree.props x13) (ImplTree.kids x13)), x14, x15, x16, x17, x18, (IntKind.i64.wrap (x19 + (1 : Int))), ()))) (
   G2 (x10, x11, x12, (ImplTree.mk (ImplTree.tag x13) (ImplTree.key x13) (ImplTree.text x13) (ImplTree.props x13) (ImplTree.kids x13)), x14, x15, x16, x17, x18, (IntKind.i64.wrap (x19 + (1 : Int))), ()))))) (
  G0 (x10, x11, x12, (ImplTree.mk (ImplTree.tag x13) (ImplTree.key x13) (ImplTree.text x13) (ImplTree.props x13) (ImplTree.kids x13)), (IntKind.i64.wrap (x16 + (1 : Int))), ()))

def impl_looks.B4 (N : Nat) (R_impl_looks : ImplTree → List (ImplRule) → List (Int) → Int → Option ((List (List (Int))) × Unit)) (G4 : (List (List (Int))) × (List (ImplRule)) × (List (Int)) × (List (Int)) × (List (ImplTree)) × Int × Int × Unit → Option ((List (List (Int))) × Unit)) : (List (List (Int))) × (List (ImplRule)) × (List (Int)) × (List (Int)) × (List (ImplTree)) × Int × Int × Unit → Option ((List (List (Int))) × Unit) :=
fun (x24, x25, x26, x27, x28, x29, x30, ()) =>
 br (decide (x30 < x29)) (
  gd (decide ((0 : Int) ≤ x30)) (
  gd (decide (x30 < (((List.length x28) : Nat) : Int))) (
  gd (decide ((4 : Int) < (((List.length x26) : Nat) : Int))) (
  bnd (R_impl_looks (ImplTree.mk (ImplTree.tag (get x28 x30)) (ImplTree.key (get x28 x30)) (ImplTree.text (get x28 x30)) (ImplTree.props (get x28 x30)) (ImplTree.kids (get x28 x30))) x25 x27 (get x26 (4 : Int))) fun r32 =>
  gd (decide (((List.length x24) + (List.length (r32).1)) < 68719476736)) (
  G4 ((x24 ++ (r32).1), x25, x26, x27, x28, x29, (IntKind.i64.wrap (x30 + (1 : Int))), ())))))) (
  some (x24, ()))

def impl_looks.B0 (N : Nat) (R_impl_looks : ImplTree → List (ImplRule) → List (Int) → Int → Option ((List (List (Int))) × Unit)) (E2 : (List (Int)) × (List (ImplRule)) × (List (Int)) × ImplTree × Int × Int × Int × (List (ImplRule)) × Int × Int × Unit → Option ((List (List (Int))) × Unit)) (E4 : (List (List (Int))) × (List (ImplRule)) × (List (Int)) × (List (Int)) × (List (ImplTree)) × Int × Int × Unit → Option ((List (List (Int))) × Unit)) : (List (Int)) × (List (ImplRule)) × (List (Int)) × ImplTree × Int × Unit → Option ((List (List (Int))) × Unit) :=
fun (x4, x5, x6, x7, x8, ()) =>
 br (decide (x8 < (5 : Int))) (
  E2 (x4, x5, x6, (ImplTree.mk (ImplTree.tag x7) (ImplTree.key x7) (ImplTree.text x7) (ImplTree.props x7) (ImplTree.kids x7)), x8, (-(1 : Int)), x8, x5, (((List.length x5) : Nat) : Int), (0 : Int), ())) (
  gd (decide (((List.length ([] : List (Int))) + (List.length x6)) < 68719476736)) (
 gd (decide (((List.length (([] : List (Int)) ++ x6)) + (List.length ([(ImplTree.tag x7)] : List (Int)))) < 68719476736)) (
 E4 (([x4] : List (List (Int))), x5, x4, ((([] : List (Int)) ++ x6) ++ ([(ImplTree.tag x7)] : List (Int))), (ImplTree.kids x7), (((List.length (ImplTree.kids x7)) : Nat) : Int), (0 : Int), ()))))

def impl_looks.B (N : Nat) (R_impl_looks : ImplTree → List (ImplRule) → List (Int) → Int → Option ((List (List (Int))) × Unit)) (E0 : (List (Int)) × (List (ImplRule)) × (List (Int)) × ImplTree × Int × Unit → Option ((List (List (Int))) × Unit)) (x0 : ImplTree) (x1 : List (ImplRule)) (x2 : List (Int)) (x3 : Int) : Option ((List (List (Int))) × Unit) :=
 br ((ImplTree.tag x0) == (-(1 : Int))) (
  some (([(List.set (List.replicate (Int.toNat (5 : Int)) (0 : Int)) (Int.toNat (4 : Int)) x3)] : List (List (Int))), ())) (
  E0 ((List.set (List.replicate (Int.toNat (5 : Int)) (0 : Int)) (Int.toNat (4 : Int)) x3), x1, x2, (ImplTree.mk (ImplTree.tag x0) (ImplTree.key x0) (ImplTree.text x0) (ImplTree.props x0) (ImplTree.kids x0)), (0 : Int), ()))

def impl_looks.L2 (N : Nat) (R_impl_looks : ImplTree → List (ImplRule) → List (Int) → Int → Option ((List (List (Int))) × Unit)) (G0 : (List (Int)) × (List (ImplRule)) × (List (Int)) × ImplTree × Int × Unit → Option ((List (List (Int))) × Unit)) : Nat → (List (Int)) × (List (ImplRule)) × (List (Int)) × ImplTree × Int × Int × Int × (List (ImplRule)) × Int × Int × Unit → Option ((List (List (Int))) × Unit)
  | 0, _ => none
  | n + 1, x => impl_looks.B2 N R_impl_looks G0 (impl_looks.L2 N R_impl_looks G0 n) x

def impl_looks.L4 (N : Nat) (R_impl_looks : ImplTree → List (ImplRule) → List (Int) → Int → Option ((List (List (Int))) × Unit)) : Nat → (List (List (Int))) × (List (ImplRule)) × (List (Int)) × (List (Int)) × (List (ImplTree)) × Int × Int × Unit → Option ((List (List (Int))) × Unit)
  | 0, _ => none
  | n + 1, x => impl_looks.B4 N R_impl_looks (impl_looks.L4 N R_impl_looks n) x

def impl_looks.L0 (N : Nat) (R_impl_looks : ImplTree → List (ImplRule) → List (Int) → Int → Option ((List (List (Int))) × Unit)) : Nat → (List (Int)) × (List (ImplRule)) × (List (Int)) × ImplTree × Int × Unit → Option ((List (List (Int))) × Unit)
  | 0, _ => none
  | n + 1, x => impl_looks.B0 N R_impl_looks (impl_looks.L2 N R_impl_looks (impl_looks.L0 N R_impl_looks n) N) (impl_looks.L4 N R_impl_looks N) x

def impl_looks.R (N : Nat) : Nat → ImplTree → List (ImplRule) → List (Int) → Int → Option ((List (List (Int))) × Unit)
  | 0, _, _, _, _ => none
  | d + 1, x0, x1, x2, x3 => impl_looks.B N (impl_looks.R N d) (impl_looks.L0 N (impl_looks.R N d) N) x0 x1 x2 x3

def impl_looks (N : Nat) (x0 : ImplTree) (x1 : List (ImplRule)) (x2 : List (Int)) (x3 : Int) : Option ((List (List (Int))) × Unit) := impl_looks.R N N x0 x1 x2 x3

def impl_LooksAll.B (N : Nat) (x0 : ImplTree) (x1 : List (ImplRule)) : Option ((List (List (Int))) × Unit) :=
 bnd (impl_TreeOk N (ImplTree.mk (ImplTree.tag x0) (ImplTree.key x0) (ImplTree.text x0) (ImplTree.props x0) (ImplTree.kids x0))) fun r2 =>
 br (!(r2).1) (
  some (([] : List (List (Int))), ())) (
  bnd (impl_RulesOk N x1) fun r3 =>
 br (!(r3).1) (
  some (([] : List (List (Int))), ())) (
  bnd (impl_looks N (ImplTree.mk (ImplTree.tag x0) (ImplTree.key x0) (ImplTree.text x0) (ImplTree.props x0) (ImplTree.kids x0)) x1 ([] : List (Int)) (0 : Int)) fun r4 =>
 some ((r4).1, ())))

def impl_LooksAll (N : Nat) (x0 : ImplTree) (x1 : List (ImplRule)) : Option ((List (List (Int))) × Unit) := impl_LooksAll.B N x0 x1

def spec_CountWide.B0 (N : Nat) (G0 : (List (List (Int))) × Int × Int × Unit → Option (Int × Unit)) : (List (List (Int))) × Int × Int × Unit → Option (Int × Unit) :=
fun (x1, x2, x3, ()) =>
 br (decide (x3 < (((List.length x1) : Nat) : Int))) (
  gd (decide ((0 : Int) ≤ x3)) (
  gd (decide (x3 < (((List.length x1) : Nat) : Int))) (
  br (decide ((((List.length (get x1 x3)) : Nat) : Int) > (0 : Int))) (
   gd (decide ((0 : Int) ≤ x3)) (
   gd (decide (x3 < (((List.length x1) : Nat) : Int))) (
   gd (decide ((0 : Int) < (((List.length (get x1 x3)) : Nat) : Int))) (
   br (decide ((get (get x1 x3) (0 : Int)) > (0 : Int))) (
    G0 (x1, (IntKind.i64.wrap (x2 + (1 : Int))), (IntKind.i64.wrap (x3 + (1 : Int))), ())) (
    G0 (x1, x2, (IntKind.i64.wrap (x3 + (1 : Int))), ())))))) (
   G0 (x1, x2, (IntKind.i64.wrap (x3 + (1 : Int))), ()))))) (
  some (x2, ()))

def spec_CountWide.B (N : Nat) (E0 : (List (List (Int))) × Int × Int × Unit → Option (Int × Unit)) (x0 : List (List (Int))) : Option (Int × Unit) :=
 E0 (x0, (0 : Int), (0 : Int), ())

def spec_CountWide.L0 (N : Nat) : Nat → (List (List (Int))) × Int × Int × Unit → Option (Int × Unit)
  | 0, _ => none
  | n + 1, x => spec_CountWide.B0 N (spec_CountWide.L0 N n) x

def spec_CountWide (N : Nat) (x0 : List (List (Int))) : Option (Int × Unit) := spec_CountWide.B N (spec_CountWide.L0 N N) x0

def laws_FnFindAll.B (N : Nat) (x0 : List (Int)) : Option (Bool × Unit) :=
 br (decide ((((List.length x0) : Nat) : Int) > (1048576 : Int))) (
  some (true, ())) (
  bnd (spec_DrawFindAll N x0) fun r1 =>
 bnd (impl_FindAll N (ImplTree.mk (ImplTree.tag (r1).1) (ImplTree.key (r1).1) (ImplTree.text (r1).1) (ImplTree.props (r1).1) (ImplTree.kids (r1).1)) ((r1).2).1) fun r2 =>
 bnd (spec_FindAll N (ImplTree.mk (ImplTree.tag (r1).1) (ImplTree.key (r1).1) (ImplTree.text (r1).1) (ImplTree.props (r1).1) (ImplTree.kids (r1).1)) ((r1).2).1) fun r3 =>
 bnd (spec_SameRows N (r2).1 (r3).1) fun r4 =>
 br (!(r4).1) (
  some ((r4).1, ())) (
  bnd (impl_TreeOk N (ImplTree.mk (ImplTree.tag (r1).1) (ImplTree.key (r1).1) (ImplTree.text (r1).1) (ImplTree.props (r1).1) (ImplTree.kids (r1).1))) fun r5 =>
 br (!(r5).1) (
  some ((r4).1, ())) (
  bnd (impl_RulesOk N ([((r1).2).1] : List (ImplRule))) fun r6 =>
 br (!(r6).1) (
  some ((r4).1, ())) (
  bnd (impl_LooksAll N (ImplTree.mk (ImplTree.tag (r1).1) (ImplTree.key (r1).1) (ImplTree.text (r1).1) (ImplTree.props (r1).1) (ImplTree.kids (r1).1)) ([(ImplRule.mk (ImplRule.tag ((r1).2).1) (ImplRule.above ((r1).2).1) (ImplRule.name ((r1).2).1) (ImplRule.val_Kind ((r1).2).1) (ImplRule.val_Num ((r1).2).1) (ImplRule.val_Text ((r1).2).1) (0 : Int) (1 : Int))] : List (ImplRule))) fun r7 =>
 bnd (spec_CountWide N (r7).1) fun r8 =>
 some (((r8).1 == (((List.length (r2).1) : Nat) : Int)), ())))))

def laws_FnFindAll (N : Nat) (x0 : List (Int)) : Option (Bool × Unit) := laws_FnFindAll.B N x0

end
end Go.Ev
