/- The functions that the law reaches, written as plain functions; nothing is claimed here. -/
import Derived.Test.YtdmmjggkomhglaaDoorEvE
set_option linter.all false
set_option linter.unusedVariables false
set_option linter.unusedSimpArgs false
/- F -/
set_option maxRecDepth 10000
namespace Go.Ev
noncomputable section
def spec_newSource.B (N : Nat) (x0 : List (Int)) : Option (SpecSource × Unit) :=
 some ((SpecSource.mk x0 (0 : Int) (4000 : Int)), ())

def spec_newSource (N : Nat) (x0 : List (Int)) : Option (SpecSource × Unit) := spec_newSource.B N x0

def spec_source_pick.B (N : Nat) (x0 : SpecSource) (x1 : Int) : Option (SpecSource × Int × Unit) :=
 br (decide (x1 ≤ (1 : Int))) (
  some (x0, (0 : Int), ())) (
  br (decide ((SpecSource.left x0) ≤ (0 : Int))) (
  some (x0, (0 : Int), ())) (
  br ((((List.length (SpecSource.code x0)) : Nat) : Int) == (0 : Int)) (
  some (x0, (0 : Int), ())) (
  gd (!(decide ((((List.length (SpecSource.code x0)) : Nat) : Int) = (0 : Int)))) (
 gd (decide ((0 : Int) ≤ (Int.tmod (SpecSource.at_ x0) (((List.length (SpecSource.code x0)) : Nat) : Int)))) (
 gd (decide ((Int.tmod (SpecSource.at_ x0) (((List.length (SpecSource.code x0)) : Nat) : Int)) < (((List.length (SpecSource.code x0)) : Nat) : Int))) (
 gd (!(decide ((((List.length (SpecSource.code x0)) : Nat) : Int) = (0 : Int)))) (
 br (decide (x1 > (256 : Int))) (
  gd (!(decide ((((List.length (SpecSource.code x0)) : Nat) : Int) = (0 : Int)))) (
  gd (decide ((0 : Int) ≤ (Int.tmod (IntKind.i64.wrap ((SpecSource.at_ x0) + (1 : Int))) (((List.length (SpecSource.code x0)) : Nat) : Int)))) (
  gd (decide ((Int.tmod (IntKind.i64.wrap ((SpecSource.at_ x0) + (1 : Int))) (((List.length (SpecSource.code x0)) : Nat) : Int)) < (((List.length (SpecSource.code x0)) : Nat) : Int))) (
  gd (!(decide (x1 = (0 : Int)))) (
  some ((SpecSource.mk (SpecSource.code x0) (IntKind.i64.wrap ((IntKind.i64.wrap ((SpecSource.at_ x0) + (1 : Int))) + (1 : Int))) (IntKind.i64.wrap ((SpecSource.left x0) - (1 : Int)))), (Int.tmod (IntKind.i64.wrap ((IntKind.i64.wrap ((IntKind.i64.wrap ((IntKind.i64.wrap (get (SpecSource.code x0) (Int.tmod (SpecSource.at_ x0) (((List.length (SpecSource.code x0)) : Nat) : Int)))) + (IntKind.i64.wrap ((IntKind.i64.wrap (Int.tdiv (SpecSource.at_ x0) (((List.length (SpecSource.code x0)) : Nat) : Int))) * (31 : Int))))) * (256 : Int))) + (IntKind.i64.wrap (get (SpecSource.code x0) (Int.tmod (IntKind.i64.wrap ((SpecSource.at_ x0) + (1 : Int))) (((List.length (SpecSource.code x0)) : Nat) : Int)))))) x1), ())))))) (
  gd (!(decide (x1 = (0 : Int)))) (
 some ((SpecSource.mk (SpecSource.code x0) (IntKind.i64.wrap ((SpecSource.at_ x0) + (1 : Int))) (IntKind.i64.wrap ((SpecSource.left x0) - (1 : Int)))), (Int.tmod (IntKind.i64.wrap ((IntKind.i64.wrap (get (SpecSource.code x0) (Int.tmod (SpecSource.at_ x0) (((List.length (SpecSource.code x0)) : Nat) : Int)))) + (IntKind.i64.wrap ((IntKind.i64.wrap (Int.tdiv (SpecSource.at_ x0) (((List.length (SpecSource.code x0)) : Nat) : Int))) * (31 : Int))))) x1), ()))))))))))

def spec_source_pick (N : Nat) (x0 : SpecSource) (x1 : Int) : Option (SpecSource × Int × Unit) := spec_source_pick.B N x0 x1

def spec_source_rarely.B (N : Nat) (x0 : SpecSource) : Option (SpecSource × Bool × Unit) :=
 bnd (spec_source_pick N x0 (40 : Int)) fun r1 =>
 some ((r1).1, (((r1).2).1 == (1 : Int)), ())

def spec_source_rarely (N : Nat) (x0 : SpecSource) : Option (SpecSource × Bool × Unit) := spec_source_rarely.B N x0

def spec_source_text.B0 (N : Nat) (G0 : SpecSource × (List UInt8) × Int × Unit → Option (SpecSource × (List UInt8) × Unit)) : SpecSource × (List UInt8) × Int × Unit → Option (SpecSource × (List UInt8) × Unit) :=
fun (x2, x3, x4, ()) =>
 br (decide (x4 > (0 : Int))) (
  bnd (spec_source_pick N x2 (6 : Int)) fun r6 =>
  gd (decide ((0 : Int) ≤ ((r6).2).1)) (
  gd (decide (((r6).2).1 < (((List.length ([([97] : List (UInt8)), ([98] : List (UInt8)), ([122, 57] : List (UInt8)), ([32] : List (UInt8)), ([48] : List (UInt8)), ([108, 111, 110, 103] : List (UInt8))] : List (List (UInt8)))) : Nat) : Int))) (
  gd (decide (((List.length x3) + (List.length (get ([([97] : List (UInt8)), ([98] : List (UInt8)), ([122, 57] : List (UInt8)), ([32] : List (UInt8)), ([48] : List (UInt8)), ([108, 111, 110, 103] : List (UInt8))] : List (List (UInt8))) ((r6).2).1))) < 68719476736)) (
  G0 ((r6).1, (x3 ++ (get ([([97] : List (UInt8)), ([98] : List (UInt8)), ([122, 57] : List (UInt8)), ([32] : List (UInt8)), ([48] : List (UInt8)), ([108, 111, 110, 103] : List (UInt8))] : List (List (UInt8))) ((r6).2).1)), (IntKind.i64.wrap (x4 - (1 : Int))), ()))))) (
  bnd (spec_source_rarely N x2) fun r7 =>
 br ((r7).2).1 (
  gd (decide (((List.length x3) + (List.length ([81] : List (UInt8)))) < 68719476736)) (
  some ((r7).1, (x3 ++ ([81] : List (UInt8))), ()))) (
  some ((r7).1, x3, ())))

def spec_source_text.B (N : Nat) (E0 : SpecSource × (List UInt8) × Int × Unit → Option (SpecSource × (List UInt8) × Unit)) (x0 : SpecSource) : Option (SpecSource × (List UInt8) × Unit) :=
 bnd (spec_source_pick N x0 (4 : Int)) fun r1 =>
 E0 ((r1).1, ([] : List (UInt8)), ((r1).2).1, ())

def spec_source_text.L0 (N : Nat) : Nat → SpecSource × (List UInt8) × Int × Unit → Option (SpecSource × (List UInt8) × Unit)
  | 0, _ => none
  | n + 1, x => spec_source_text.B0 N (spec_source_text.L0 N n) x

def spec_source_text (N : Nat) (x0 : SpecSource) : Option (SpecSource × (List UInt8) × Unit) := spec_source_text.B N (spec_source_text.L0 N N) x0

def spec_source_one.B (N : Nat) (x0 : SpecSource) (x1 : List (Int)) : Option (SpecSource × Int × Unit) :=
 bnd (spec_source_pick N x0 (((List.length x1) : Nat) : Int)) fun r2 =>
 gd (decide ((0 : Int) ≤ ((r2).2).1)) (
 gd (decide (((r2).2).1 < (((List.length x1) : Nat) : Int))) (
 some ((r2).1, (get x1 ((r2).2).1), ())))

def spec_source_one (N : Nat) (x0 : SpecSource) (x1 : List (Int)) : Option (SpecSource × Int × Unit) := spec_source_one.B N x0 x1

def spec_source_value.B (N : Nat) (x0 : SpecSource) : Option (SpecSource × ImplValue × Unit) :=
 bnd (spec_source_pick N x0 (6 : Int)) fun r1 =>
 br (((r1).2).1 == (0 : Int)) (
  some ((r1).1, (ImplValue.mk (0 : Int) (0 : Int) ([] : List (UInt8))), ())) (
  br (((r1).2).1 == (1 : Int)) (
  bnd (spec_source_text N (r1).1) fun r2 =>
  some ((r2).1, (ImplValue.mk (2 : Int) (0 : Int) ((r2).2).1), ())) (
  br (((r1).2).1 == (2 : Int)) (
  bnd (spec_source_one N (r1).1 ([(0 : Int), (1 : Int), (-(1 : Int)), (1000 : Int), (-(1000 : Int)), (500 : Int), (1001 : Int)] : List (Int))) fun r3 =>
  some ((r3).1, (ImplValue.mk (1 : Int) ((r3).2).1 ([] : List (UInt8))), ())) (
  bnd (spec_source_pick N (r1).1 (6 : Int)) fun r4 =>
 some ((r4).1, (ImplValue.mk (1 : Int) (IntKind.i64.wrap (((r4).2).1 - (1 : Int))) ([] : List (UInt8))), ()))))

def spec_source_value (N : Nat) (x0 : SpecSource) : Option (SpecSource × ImplValue × Unit) := spec_source_value.B N x0

def spec_inRange.B (N : Nat) (x0 : Int) (x1 : Int) (x2 : Int) : Option (Bool × Unit) :=
 br (decide (x0 ≥ x1)) (
  some ((decide (x0 ≤ x2)), ())) (
  some (false, ()))

def spec_inRange (N : Nat) (x0 : Int) (x1 : Int) (x2 : Int) : Option (Bool × Unit) := spec_inRange.B N x0 x1 x2

def spec_plainByte.B (N : Nat) (x0 : Int) : Option (Bool × Unit) :=
 br (decide (x0 ≥ (97 : Int))) (
  br (decide (x0 ≤ (122 : Int))) (
   some (true, ())) (
   br (decide (x0 ≥ (48 : Int))) (
   br (decide (x0 ≤ (57 : Int))) (
    some (true, ())) (
    some ((x0 == (32 : Int)), ()))) (
   some ((x0 == (32 : Int)), ())))) (
  br (decide (x0 ≥ (48 : Int))) (
  br (decide (x0 ≤ (57 : Int))) (
   some (true, ())) (
   some ((x0 == (32 : Int)), ()))) (
  some ((x0 == (32 : Int)), ())))

def spec_plainByte (N : Nat) (x0 : Int) : Option (Bool × Unit) := spec_plainByte.B N x0

def spec_validWord.B0 (N : Nat) (G0 : (List UInt8) × Int × Unit → Option (Bool × Unit)) : (List UInt8) × Int × Unit → Option (Bool × Unit) :=
fun (x1, x2, ()) =>
 br (decide (x2 < (((List.length x1) : Nat) : Int))) (
  gd (decide ((0 : Int) ≤ x2)) (
  gd (decide (x2 < (((List.length x1) : Nat) : Int))) (
  bnd (spec_plainByte N (((UInt8.toNat (List.getD x1 (Int.toNat x2) 0)) : Nat) : Int)) fun r4 =>
  br (!(r4).1) (
   some (false, ())) (
   G0 (x1, (IntKind.i64.wrap (x2 + (1 : Int))), ()))))) (
  some (true, ()))

def spec_validWord.B (N : Nat) (E0 : (List UInt8) × Int × Unit → Option (Bool × Unit)) (x0 : List UInt8) : Option (Bool × Unit) :=
 br (decide ((((List.length x0) : Nat) : Int) > (12 : Int))) (
  some (false, ())) (
  E0 (x0, (0 : Int), ()))

def spec_validWord.L0 (N : Nat) : Nat → (List UInt8) × Int × Unit → Option (Bool × Unit)
  | 0, _ => none
  | n + 1, x => spec_validWord.B0 N (spec_validWord.L0 N n) x

def spec_validWord (N : Nat) (x0 : List UInt8) : Option (Bool × Unit) := spec_validWord.B N (spec_validWord.L0 N N) x0

def spec_validValue.B (N : Nat) (x0 : ImplValue) : Option (Bool × Unit) :=
 br ((ImplValue.kind x0) == (0 : Int)) (
  br ((ImplValue.num x0) == (0 : Int)) (
   some (((ImplValue.text x0) == ([] : List (UInt8))), ())) (
   some (false, ()))) (
  br ((ImplValue.kind x0) == (1 : Int)) (
  bnd (spec_inRange N (ImplValue.num x0) (-(1000 : Int)) (1000 : Int)) fun r1 =>
  br (r1).1 (
   some (((ImplValue.text x0) == ([] : List (UInt8))), ())) (
   some (false, ()))) (
  br ((ImplValue.kind x0) == (2 : Int)) (
  br ((ImplValue.num x0) == (0 : Int)) (
   bnd (spec_validWord N (ImplValue.text x0)) fun r2 =>
   some ((r2).1, ())) (
   some (false, ()))) (
  some (false, ()))))

def spec_validValue (N : Nat) (x0 : ImplValue) : Option (Bool × Unit) := spec_validValue.B N x0

def spec_source_good.B (N : Nat) (x0 : SpecSource) : Option (SpecSource × ImplValue × Unit) :=
 bnd (spec_source_value N x0) fun r1 =>
 bnd (spec_validValue N ((r1).2).1) fun r2 =>
 br (!(r2).1) (
  some ((r1).1, (ImplValue.mk (1 : Int) (2 : Int) ([] : List (UInt8))), ())) (
  some ((r1).1, ((r1).2).1, ()))

def spec_source_good (N : Nat) (x0 : SpecSource) : Option (SpecSource × ImplValue × Unit) := spec_source_good.B N x0

def spec_source_goods.B0 (N : Nat) (G0 : SpecSource × Int × (List (ImplValue)) × Unit → Option (SpecSource × (List (ImplValue)) × Unit)) : SpecSource × Int × (List (ImplValue)) × Unit → Option (SpecSource × (List (ImplValue)) × Unit) :=
fun (x2, x3, x4, ()) =>
 br (decide (x3 > (0 : Int))) (
  bnd (spec_source_good N x2) fun r6 =>
  gd (decide (((List.length x4) + (List.length ([((r6).2).1] : List (ImplValue)))) < 68719476736)) (
  G0 ((r6).1, (IntKind.i64.wrap (x3 - (1 : Int))), (x4 ++ ([((r6).2).1] : List (ImplValue))), ()))) (
  some (x2, x4, ()))

def spec_source_goods.B (N : Nat) (E0 : SpecSource × Int × (List (ImplValue)) × Unit → Option (SpecSource × (List (ImplValue)) × Unit)) (x0 : SpecSource) (x1 : Int) : Option (SpecSource × (List (ImplValue)) × Unit) :=
 E0 (x0, x1, ([] : List (ImplValue)), ())

def spec_source_goods.L0 (N : Nat) : Nat → SpecSource × Int × (List (ImplValue)) × Unit → Option (SpecSource × (List (ImplValue)) × Unit)
  | 0, _ => none
  | n + 1, x => spec_source_goods.B0 N (spec_source_goods.L0 N n) x

def spec_source_goods (N : Nat) (x0 : SpecSource) (x1 : Int) : Option (SpecSource × (List (ImplValue)) × Unit) := spec_source_goods.B N (spec_source_goods.L0 N N) x0 x1

def spec_source_leaf.B (N : Nat) (x0 : SpecSource) (x1 : Int) (x2 : Int) (x3 : Int) : Option (SpecSource × ImplStep × Unit) :=
 bnd (spec_source_pick N x0 (7 : Int)) fun r4 =>
 br (((r4).2).1 == (0 : Int)) (
  br (((r4).2).1 == (0 : Int)) (
   br (decide (x2 > (0 : Int))) (
    bnd (spec_source_pick N (r4).1 x2) fun r5 =>
    some ((r5).1, (ImplStep.mk (2 : Int) ((r5).2).1 (0 : Int) (0 : Int) ([] : List (UInt8))), ())) (
    bnd (spec_source_good N (r4).1) fun r6 =>
   some ((r6).1, (ImplStep.mk (0 : Int) (0 : Int) (ImplValue.kind ((r6).2).1) (ImplValue.num ((r6).2).1) (ImplValue.text ((r6).2).1)), ()))) (
   br (((r4).2).1 == (2 : Int)) (
   br (decide (x1 > (0 : Int))) (
    bnd (spec_source_pick N (r4).1 x1) fun r7 =>
    some ((r7).1, (ImplStep.mk (1 : Int) ((r7).2).1 (0 : Int) (0 : Int) ([] : List (UInt8))), ())) (
    bnd (spec_source_good N (r4).1) fun r8 =>
   some ((r8).1, (ImplStep.mk (0 : Int) (0 : Int) (ImplValue.kind ((r8).2).1) (ImplValue.num ((r8).2).1) (ImplValue.text ((r8).2).1)), ()))) (
   br (((r4).2).1 == (3 : Int)) (
   br (decide (x3 > (0 : Int))) (
    bnd (spec_source_pick N (r4).1 x3) fun r9 =>
    some ((r9).1, (ImplStep.mk (3 : Int) ((r9).2).1 (0 : Int) (0 : Int) ([] : List (UInt8))), ())) (
    bnd (spec_source_good N (r4).1) fun r10 =>
   some ((r10).1, (ImplStep.mk (0 : Int) (0 : Int) (ImplValue.kind ((r10).2).1) (ImplValue.num ((r10).2).1) (ImplValue.text ((r10).2).1)), ()))) (
   br (((r4).2).1 == (4 : Int)) (
   bnd (spec_source_pick N (r4).1 (2 : Int)) fun r11 =>
   some ((r11).1, (ImplStep.mk (4 : Int) ((r11).2).1 (0 : Int) (0 : Int) ([] : List (UInt8))), ())) (
   bnd (spec_source_good N (r4).1) fun r12 =>
  some ((r12).1, (ImplStep.mk (0 : Int) (0 : Int) (ImplValue.kind ((r12).2).1) (ImplValue.num ((r12).2).1) (ImplValue.text ((r12).2).1)), ())))))) (
  br (((r4).2).1 == (1 : Int)) (
  br (decide (x2 > (0 : Int))) (
   bnd (spec_source_pick N (r4).1 x2) fun r13 =>
   some ((r13).1, (ImplStep.mk (2 : Int) ((r13).2).1 (0 : Int) (0 : Int) ([] : List (UInt8))), ())) (
   bnd (spec_source_good N (r4).1) fun r14 =>
  some ((r14).1, (ImplStep.mk (0 : Int) (0 : Int) (ImplValue.kind ((r14).2).1) (ImplValue.num ((r14).2).1) (ImplValue.text ((r14).2).1)), ()))) (
  br (((r4).2).1 == (2 : Int)) (
  br (decide (x1 > (0 : Int))) (
   bnd (spec_source_pick N (r4).1 x1) fun r15 =>
   some ((r15).1, (ImplStep.mk (1 : Int) ((r15).2).1 (0 : Int) (0 : Int) ([] : List (UInt8))), ())) (
   bnd (spec_source_good N (r4).1) fun r16 =>
  some ((r16).1, (ImplStep.mk (0 : Int) (0 : Int) (ImplValue.kind ((r16).2).1) (ImplValue.num ((r16).2).1) (ImplValue.text ((r16).2).1)), ()))) (
  br (((r4).2).1 == (3 : Int)) (
  br (decide (x3 > (0 : Int))) (
   bnd (spec_source_pick N (r4).1 x3) fun r17 =>
   some ((r17).1, (ImplStep.mk (3 : Int) ((r17).2).1 (0 : Int) (0 : Int) ([] : List (UInt8))), ())) (
   bnd (spec_source_good N (r4).1) fun r18 =>
  some ((r18).1, (ImplStep.mk (0 : Int) (0 : Int) (ImplValue.kind ((r18).2).1) (ImplValue.num ((r18).2).1) (ImplValue.text ((r18).2).1)), ()))) (
  br (((r4).2).1 == (4 : Int)) (
  bnd (spec_source_pick N (r4).1 (2 : Int)) fun r19 =>
  some ((r19).1, (ImplStep.mk (4 : Int) ((r19).2).1 (0 : Int) (0 : Int) ([] : List (UInt8))), ())) (
  bnd (spec_source_good N (r4).1) fun r20 =>
 some ((r20).1, (ImplStep.mk (0 : Int) (0 : Int) (ImplValue.kind ((r20).2).1) (ImplValue.num ((r20).2).1) (ImplValue.text ((r20).2).1)), ()))))))

def spec_source_leaf (N : Nat) (x0 : SpecSource) (x1 : Int) (x2 : Int) (x3 : Int) : Option (SpecSource × ImplStep × Unit) := spec_source_leaf.B N x0 x1 x2 x3

def spec_source_form.B (N : Nat) (R_spec_source_form : SpecSource → Int → Int → Int → Int → Option (SpecSource × (List (ImplStep)) × Unit)) (x0 : SpecSource) (x1 : Int) (x2 : Int) (x3 : Int) (x4 : Int) : Option (SpecSource × (List (ImplStep)) × Unit) :=
 br (decide (x4 < (3 : Int))) (
  bnd (spec_source_leaf N x0 x1 x2 x3) fun r5 =>
  some ((r5).1, ([((r5).2).1] : List (ImplStep)), ())) (
  bnd (spec_source_pick N x0 (2 : Int)) fun r6 =>
 br (((r6).2).1 == (0 : Int)) (
  bnd (spec_source_leaf N (r6).1 x1 x2 x3) fun r7 =>
  some ((r7).1, ([((r7).2).1] : List (ImplStep)), ())) (
  br (decide (x4 > (3 : Int))) (
  bnd (spec_source_pick N (r6).1 (4 : Int)) fun r8 =>
  br (((r8).2).1 == (0 : Int)) (
   bnd (R_spec_source_form (r8).1 x1 x2 x3 (1 : Int)) fun r9 =>
   bnd (R_spec_source_form (r9).1 x1 x2 x3 (1 : Int)) fun r10 =>
   bnd (R_spec_source_form (r10).1 x1 x2 x3 (IntKind.i64.wrap (x4 - (3 : Int)))) fun r11 =>
   gd (decide (((List.length ((r9).2).1) + (List.length ((r10).2).1)) < 68719476736)) (
   gd (decide (((List.length (((r9).2).1 ++ ((r10).2).1)) + (List.length ((r11).2).1)) < 68719476736)) (
   gd (decide (((List.length ((((r9).2).1 ++ ((r10).2).1) ++ ((r11).2).1)) + (List.length ([(ImplStep.mk (6 : Int) (0 : Int) (0 : Int) (0 : Int) ([] : List (UInt8)))] : List (ImplStep)))) < 68719476736)) (
   some ((r11).1, (((((r9).2).1 ++ ((r10).2).1) ++ ((r11).2).1) ++ ([(ImplStep.mk (6 : Int) (0 : Int) (0 : Int) (0 : Int) ([] : List (UInt8)))] : List (ImplStep))), ()))))) (
   bnd (R_spec_source_form (r8).1 x1 x2 x3 (1 : Int)) fun r12 =>
  bnd (R_spec_source_form (r12).1 x1 x2 x3 (IntKind.i64.wrap (x4 - (2 : Int)))) fun r13 =>
  gd (decide (((List.length ((r12).2).1) + (List.length ((r13).2).1)) < 68719476736)) (
  bnd (spec_source_pick N (r13).1 (7 : Int)) fun r14 =>
  gd (decide (((List.length (((r12).2).1 ++ ((r13).2).1)) + (List.length ([(ImplStep.mk (5 : Int) ((r14).2).1 (0 : Int) (0 : Int) ([] : List (UInt8)))] : List (ImplStep)))) < 68719476736)) (
  some ((r14).1, ((((r12).2).1 ++ ((r13).2).1) ++ ([(ImplStep.mk (5 : Int) ((r14).2).1 (0 : Int) (0 : Int) ([] : List (UInt8)))] : List (ImplStep))), ()))))) (
  bnd (R_spec_source_form (r6).1 x1 x2 x3 (1 : Int)) fun r15 =>
 bnd (R_spec_source_form (r15).1 x1 x2 x3 (IntKind.i64.wrap (x4 - (2 : Int)))) fun r16 =>
 gd (decide (((List.length ((r15).2).1) + (List.length ((r16).2).1)) < 68719476736)) (
 bnd (spec_source_pick N (r16).1 (7 : Int)) fun r17 =>
 gd (decide (((List.length (((r15).2).1 ++ ((r16).2).1)) + (List.length ([(ImplStep.mk (5 : Int) ((r17).2).1 (0 : Int) (0 : Int) ([] : List (UInt8)))] : List (ImplStep)))) < 68719476736)) (
 some ((r17).1, ((((r15).2).1 ++ ((r16).2).1) ++ ([(ImplStep.mk (5 : Int) ((r17).2).1 (0 : Int) (0 : Int) ([] : List (UInt8)))] : List (ImplStep))), ()))))))

def spec_source_form.R (N : Nat) : Nat → SpecSource → Int → Int → Int → Int → Option (SpecSource × (List (ImplStep)) × Unit)
  | 0, _, _, _, _, _ => none
  | d + 1, x0, x1, x2, x3, x4 => spec_source_form.B N (spec_source_form.R N d) x0 x1 x2 x3 x4

def spec_source_form (N : Nat) (x0 : SpecSource) (x1 : Int) (x2 : Int) (x3 : Int) (x4 : Int) : Option (SpecSource × (List (ImplStep)) × Unit) := spec_source_form.R N N x0 x1 x2 x3 x4

def spec_DrawFormValue.J11 (N : Nat) : ImplEnv × SpecSource × ImplEnv × (List (ImplStep)) × Unit → Option ((List (ImplStep)) × ImplEnv × Unit) :=
fun (x19, x20, x21, x22, ()) =>
 bnd (spec_source_rarely N x20) fun r23 =>
 br ((r23).2).1 (
  gd (decide (((List.length x22) + (List.length ([(ImplStep.mk (2 : Int) (2 : Int) (0 : Int) (0 : Int) ([] : List (UInt8)))] : List (ImplStep)))) < 68719476736)) (
  some ((x22 ++ ([(ImplStep.mk (2 : Int) (2 : Int) (0 : Int) (0 : Int) ([] : List (UInt8)))] : List (ImplStep))), x21, ()))) (
  some (x22, x21, ()))

def spec_DrawFormValue.B0 (N : Nat) (G0 : ImplEnv × SpecSource × Int × Int × Int × ImplEnv × Int × Unit → Option ((List (ImplStep)) × ImplEnv × Unit)) : ImplEnv × SpecSource × Int × Int × Int × ImplEnv × Int × Unit → Option ((List (ImplStep)) × ImplEnv × Unit) :=
fun (x8, x9, x10, x11, x12, x13, x14, ()) =>
 br (decide (x14 > (0 : Int))) (
  bnd (spec_source_pick N x9 (4 : Int)) fun r16 =>
  gd (decide (((List.length (ImplEnv.turns x13)) + (List.length ([((r16).2).1] : List (Int)))) < 68719476736)) (
  G0 (x8, (r16).1, x10, x11, x12, (ImplEnv.mk (ImplEnv.props x13) (ImplEnv.states x13) ((ImplEnv.turns x13) ++ ([((r16).2).1] : List (Int))) (ImplEnv.gifts x13)), (IntKind.i64.wrap (x14 - (1 : Int))), ()))) (
  bnd (spec_source_form N x9 x10 x11 x12 (9 : Int)) fun r17 =>
 bnd (spec_source_rarely N (r17).1) fun r18 =>
 br ((r18).2).1 (
  gd (decide ((1 : Int) ≤ (((List.length (ImplEnv.gifts x13)) : Nat) : Int))) (
  spec_DrawFormValue.J11 N (x8, (r18).1, (ImplEnv.mk (ImplEnv.props x13) (ImplEnv.states x13) (ImplEnv.turns x13) (sub (ImplEnv.gifts x13) (0 : Int) (1 : Int))), ((r17).2).1, ()))) (
  spec_DrawFormValue.J11 N (x8, (r18).1, x13, ((r17).2).1, ())))

def spec_DrawFormValue.B (N : Nat) (E0 : ImplEnv × SpecSource × Int × Int × Int × ImplEnv × Int × Unit → Option ((List (ImplStep)) × ImplEnv × Unit)) (x0 : List (Int)) : Option ((List (ImplStep)) × ImplEnv × Unit) :=
 bnd (spec_newSource N x0) fun r1 =>
 bnd (spec_source_pick N (r1).1 (4 : Int)) fun r2 =>
 bnd (spec_source_pick N (r2).1 (4 : Int)) fun r3 =>
 bnd (spec_source_pick N (r3).1 (5 : Int)) fun r4 =>
 bnd (spec_source_goods N (r4).1 ((r2).2).1) fun r5 =>
 bnd (spec_source_goods N (r5).1 ((r3).2).1) fun r6 =>
 bnd (spec_source_goods N (r6).1 (2 : Int)) fun r7 =>
 E0 ((ImplEnv.mk ([] : List (ImplValue)) ([] : List (ImplValue)) ([] : List (Int)) ([] : List (ImplValue))), (r7).1, ((r2).2).1, ((r3).2).1, ((r4).2).1, (ImplEnv.mk ((r5).2).1 ((r6).2).1 ([] : List (Int)) ((r7).2).1), ((r4).2).1, ())

def spec_DrawFormValue.L0 (N : Nat) : Nat → ImplEnv × SpecSource × Int × Int × Int × ImplEnv × Int × Unit → Option ((List (ImplStep)) × ImplEnv × Unit)
  | 0, _ => none
  | n + 1, x => spec_DrawFormValue.B0 N (spec_DrawFormValue.L0 N n) x

def spec_DrawFormValue (N : Nat) (x0 : List (Int)) : Option ((List (ImplStep)) × ImplEnv × Unit) := spec_DrawFormValue.B N (spec_DrawFormValue.L0 N N) x0

def impl_within.B (N : Nat) (x0 : Int) (x1 : Int) (x2 : Int) : Option (Bool × Unit) :=
 br (decide (x0 ≥ x1)) (
  some ((decide (x0 ≤ x2)), ())) (
  some (false, ()))

def impl_within (N : Nat) (x0 : Int) (x1 : Int) (x2 : Int) : Option (Bool × Unit) := impl_within.B N x0 x1 x2

def impl_word.B0 (N : Nat) (G0 : (List UInt8) × Int × Unit → Option (Bool × Unit)) : (List UInt8) × Int × Unit → Option (Bool × Unit) :=
fun (x1, x2, ()) =>
 br (decide (x2 < (((List.length x1) : Nat) : Int))) (
  gd (decide ((0 : Int) ≤ x2)) (
  gd (decide (x2 < (((List.length x1) : Nat) : Int))) (
  br (decide ((((UInt8.toNat (List.getD x1 (Int.toNat x2) 0)) : Nat) : Int) ≥ (97 : Int))) (
   br (decide ((((UInt8.toNat (List.getD x1 (Int.toNat x2) 0)) : Nat) : Int) ≤ (122 : Int))) (
    G0 (x1, (IntKind.i64.wrap (x2 + (1 : Int))), ())) (
    br (decide ((((UInt8.toNat (List.getD x1 (Int.toNat x2) 0)) : Nat) : Int) ≥ (48 : Int))) (
    br (decide ((((UInt8.toNat (List.getD x1 (Int.toNat x2) 0)) : Nat) : Int) ≤ (57 : Int))) (
     G0 (x1, (IntKind.i64.wrap (x2 + (1 : Int))), ())) (
     br (!((((UInt8.toNat (List.getD x1 (Int.toNat x2) 0)) : Nat) : Int) == (32 : Int))) (
     some (false, ())) (
     G0 (x1, (IntKind.i64.wrap (x2 + (1 : Int))), ())))) (
    br (!((((UInt8.toNat (List.getD x1 (Int.toNat x2) 0)) : Nat) : Int) == (32 : Int))) (
    some (false, ())) (
    G0 (x1, (IntKind.i64.wrap (x2 + (1 : Int))), ()))))) (
   br (decide ((((UInt8.toNat (List.getD x1 (Int.toNat x2) 0)) : Nat) : Int) ≥ (48 : Int))) (
   br (decide ((((UInt8.toNat (List.getD x1 (Int.toNat x2) 0)) : Nat) : Int) ≤ (57 : Int))) (
    G0 (x1, (IntKind.i64.wrap (x2 + (1 : Int))), ())) (
    br (!((((UInt8.toNat (List.getD x1 (Int.toNat x2) 0)) : Nat) : Int) == (32 : Int))) (
    some (false, ())) (
    G0 (x1, (IntKind.i64.wrap (x2 + (1 : Int))), ())))) (
   br (!((((UInt8.toNat (List.getD x1 (Int.toNat x2) 0)) : Nat) : Int) == (32 : Int))) (
   some (false, ())) (
   G0 (x1, (IntKind.i64.wrap (x2 + (1 : Int))), ()))))))) (
  some ((decide ((((List.length x1) : Nat) : Int) ≤ (12 : Int))), ()))

def impl_word.B (N : Nat) (E0 : (List UInt8) × Int × Unit → Option (Bool × Unit)) (x0 : List UInt8) : Option (Bool × Unit) :=
 E0 (x0, (0 : Int), ())

def impl_word.L0 (N : Nat) : Nat → (List UInt8) × Int × Unit → Option (Bool × Unit)
  | 0, _ => none
  | n + 1, x => impl_word.B0 N (impl_word.L0 N n) x

def impl_word (N : Nat) (x0 : List UInt8) : Option (Bool × Unit) := impl_word.B N (impl_word.L0 N N) x0

def impl_ValOk.B (N : Nat) (x0 : ImplValue) : Option (Bool × Unit) :=
 br ((ImplValue.kind x0) == (0 : Int)) (
  br ((ImplValue.num x0) == (0 : Int)) (
   some (((ImplValue.text x0) == ([] : List (UInt8))), ())) (
   some (false, ()))) (
  br ((ImplValue.kind x0) == (1 : Int)) (
  bnd (impl_within N (ImplValue.num x0) (-(1000 : Int)) (1000 : Int)) fun r1 =>
  br (r1).1 (
   some (((ImplValue.text x0) == ([] : List (UInt8))), ())) (
   some (false, ()))) (
  br ((ImplValue.kind x0) == (2 : Int)) (
  br ((ImplValue.num x0) == (0 : Int)) (
   bnd (impl_word N (ImplValue.text x0)) fun r2 =>
   some ((r2).1, ())) (
   some (false, ()))) (
  some (false, ()))))

def impl_ValOk (N : Nat) (x0 : ImplValue) : Option (Bool × Unit) := impl_ValOk.B N x0

def impl_valsOk.B0 (N : Nat) (G0 : (List (ImplValue)) × Int × Int × Unit → Option (Bool × Unit)) : (List (ImplValue)) × Int × Int × Unit → Option (Bool × Unit) :=
fun (x1, x2, x3, ()) =>
 br (decide (x3 < x2)) (
  gd (decide ((0 : Int) ≤ x3)) (
  gd (decide (x3 < (((List.length x1) : Nat) : Int))) (
  bnd (impl_ValOk N (get x1 x3)) fun r5 =>
  br (!(r5).1) (
   some (false, ())) (
   G0 (x1, x2, (IntKind.i64.wrap (x3 + (1 : Int))), ()))))) (
  some (true, ()))

def impl_valsOk.B (N : Nat) (E0 : (List (ImplValue)) × Int × Int × Unit → Option (Bool × Unit)) (x0 : List (ImplValue)) : Option (Bool × Unit) :=
 E0 (x0, (((List.length x0) : Nat) : Int), (0 : Int), ())

def impl_valsOk.L0 (N : Nat) : Nat → (List (ImplValue)) × Int × Int × Unit → Option (Bool × Unit)
  | 0, _ => none
  | n + 1, x => impl_valsOk.B0 N (impl_valsOk.L0 N n) x

def impl_valsOk (N : Nat) (x0 : List (ImplValue)) : Option (Bool × Unit) := impl_valsOk.B N (impl_valsOk.L0 N N) x0

def impl_envOk.B0 (N : Nat) (G0 : ImplEnv × (List (Int)) × Int × Int × Unit → Option (Bool × Unit)) : ImplEnv × (List (Int)) × Int × Int × Unit → Option (Bool × Unit) :=
fun (x1, x2, x3, x4, ()) =>
 br (decide (x4 < x3)) (
  gd (decide ((0 : Int) ≤ x4)) (
  gd (decide (x4 < (((List.length x2) : Nat) : Int))) (
  bnd (impl_within N (get x2 x4) (0 : Int) (3 : Int)) fun r6 =>
  br (!(r6).1) (
   some (false, ())) (
   G0 (x1, x2, x3, (IntKind.i64.wrap (x4 + (1 : Int))), ()))))) (
  br (decide ((((List.length (ImplEnv.props x1)) : Nat) : Int) ≤ (3 : Int))) (
  br (decide ((((List.length (ImplEnv.states x1)) : Nat) : Int) ≤ (3 : Int))) (
   br (decide ((((List.length (ImplEnv.turns x1)) : Nat) : Int) ≤ (4 : Int))) (
    br ((((List.length (ImplEnv.gifts x1)) : Nat) : Int) == (2 : Int)) (
     bnd (impl_valsOk N (ImplEnv.props x1)) fun r7 =>
     br (r7).1 (
      bnd (impl_valsOk N (ImplEnv.states x1)) fun r8 =>
      br (r8).1 (
       bnd (impl_valsOk N (ImplEnv.gifts x1)) fun r9 =>
       some ((r9).1, ())) (
       some (false, ()))) (
      some (false, ()))) (
     some (false, ()))) (
    some (false, ()))) (
   some (false, ()))) (
  some (false, ())))

def impl_envOk.B (N : Nat) (E0 : ImplEnv × (List (Int)) × Int × Int × Unit → Option (Bool × Unit)) (x0 : ImplEnv) : Option (Bool × Unit) :=
 E0 (x0, (ImplEnv.turns x0), (((List.length (ImplEnv.turns x0)) : Nat) : Int), (0 : Int), ())

def impl_envOk.L0 (N : Nat) : Nat → ImplEnv × (List (Int)) × Int × Int × Unit → Option (Bool × Unit)
  | 0, _ => none
  | n + 1, x => impl_envOk.B0 N (impl_envOk.L0 N n) x

def impl_envOk (N : Nat) (x0 : ImplEnv) : Option (Bool × Unit) := impl_envOk.B N (impl_envOk.L0 N N) x0

def impl_formFits.J27 (N : Nat) (G0 : (List (ImplStep)) × Int × Int × Int × Int × (List (ImplStep)) × Int × Int × Unit → Option (Bool × Unit)) : (List (ImplStep)) × Int × Int × Int × Int × Int × Bool × (List (ImplStep)) × Int × Int × Unit → Option (Bool × Unit) :=
fun (x14, x15, x16, x17, x18, x19, x20, x21, x22, x23, ()) =>
 br (!x20) (
  some (false, ())) (
  br (decide (x18 < x19)) (
  some (false, ())) (
  G0 (x14, x15, x16, x17, (IntKind.i64.wrap (x18 + (IntKind.i64.wrap ((1 : Int) - x19)))), x21, x22, (IntKind.i64.wrap (x23 + (1 : Int))), ())))

def impl_formFits.B0 (N : Nat) (G0 : (List (ImplStep)) × Int × Int × Int × Int × (List (ImplStep)) × Int × Int × Unit → Option (Bool × Unit)) : (List (ImplStep)) × Int × Int × Int × Int × (List (ImplStep)) × Int × Int × Unit → Option (Bool × Unit) :=
fun (x4, x5, x6, x7, x8, x9, x10, x11, ()) =>
 br (decide (x11 < x10)) (
  gd (decide ((0 : Int) ≤ x11)) (
  gd (decide (x11 < (((List.length x9) : Nat) : Int))) (
  br ((ImplStep.kind (get x9 x11)) != (0 : Int)) (
   br (!(((ImplStep.val_Kind (get x9 x11)) == (0 : Int)) && (((ImplStep.val_Num (get x9 x11)) == (0 : Int)) && ((ImplStep.val_Text (get x9 x11)) == ([] : List (UInt8)))))) (
    some (false, ())) (
    br ((ImplStep.kind (get x9 x11)) == (0 : Int)) (
    br ((ImplStep.a (get x9 x11)) == (0 : Int)) (
     bnd (impl_ValOk N (ImplValue.mk (ImplStep.val_Kind (get x9 x11)) (ImplStep.val_Num (get x9 x11)) (ImplStep.val_Text (get x9 x11)))) fun r13 =>
     impl_formFits.J27 N G0 (x4, x5, x6, x7, x8, (0 : Int), (r13).1, x9, x10, x11, ())) (
     impl_formFits.J27 N G0 (x4, x5, x6, x7, x8, (0 : Int), false, x9, x10, x11, ()))) (
    br ((ImplStep.kind (get x9 x11)) == (1 : Int)) (
    bnd (impl_within N (ImplStep.a (get x9 x11)) (0 : Int) (IntKind.i64.wrap (x5 - (1 : Int)))) fun r24 =>
    impl_formFits.J27 N G0 (x4, x5, x6, x7, x8, (0 : Int), (r24).1, x9, x10, x11, ())) (
    br ((ImplStep.kind (get x9 x11)) == (2 : Int)) (
    bnd (impl_within N (ImplStep.a (get x9 x11)) (0 : Int) (IntKind.i64.wrap (x6 - (1 : Int)))) fun r25 =>
    impl_formFits.J27 N G0 (x4, x5, x6, x7, x8, (0 : Int), (r25).1, x9, x10, x11, ())) (
    br ((ImplStep.kind (get x9 x11)) == (3 : Int)) (
    bnd (impl_within N (ImplStep.a (get x9 x11)) (0 : Int) (IntKind.i64.wrap (x7 - (1 : Int)))) fun r26 =>
    impl_formFits.J27 N G0 (x4, x5, x6, x7, x8, (0 : Int), (r26).1, x9, x10, x11, ())) (
    br ((ImplStep.kind (get x9 x11)) == (4 : Int)) (
    bnd (impl_within N (ImplStep.a (get x9 x11)) (0 : Int) (1 : Int)) fun r27 =>
    impl_formFits.J27 N G0 (x4, x5, x6, x7, x8, (0 : Int), (r27).1, x9, x10, x11, ())) (
    br ((ImplStep.kind (get x9 x11)) == (5 : Int)) (
    bnd (impl_within N (ImplStep.a (get x9 x11)) (0 : Int) (6 : Int)) fun r28 =>
    impl_formFits.J27 N G0 (x4, x5, x6, x7, x8, (2 : Int), (r28).1, x9, x10, x11, ())) (
    br ((ImplStep.kind (get x9 x11)) == (6 : Int)) (
    impl_formFits.J27 N G0 (x4, x5, x6, x7, x8, (3 : Int), ((ImplStep.a (get x9 x11)) == (0 : Int)), x9, x10, x11, ())) (
    impl_formFits.J27 N G0 (x4, x5, x6, x7, x8, (0 : Int), false, x9, x10, x11, ())))))))))) (
   br ((ImplStep.kind (get x9 x11)) == (0 : Int)) (
   br ((ImplStep.a (get x9 x11)) == (0 : Int)) (
    bnd (impl_ValOk N (ImplValue.mk (ImplStep.val_Kind (get x9 x11)) (ImplStep.val_Num (get x9 x11)) (ImplStep.val_Text (get x9 x11)))) fun r29 =>
    impl_formFits.J27 N G0 (x4, x5, x6, x7, x8, (0 : Int), (r29).1, x9, x10, x11, ())) (
    impl_formFits.J27 N G0 (x4, x5, x6, x7, x8, (0 : Int), false, x9, x10, x11, ()))) (
   br ((ImplStep.kind (get x9 x11)) == (1 : Int)) (
   bnd (impl_within N (ImplStep.a (get x9 x11)) (0 : Int) (IntKind.i64.wrap (x5 - (1 : Int)))) fun r30 =>
   impl_formFits.J27 N G0 (x4, x5, x6, x7, x8, (0 : Int), (r30).1, x9, x10, x11, ())) (
   br ((ImplStep.kind (get x9 x11)) == (2 : Int)) (
   bnd (impl_within N (ImplStep.a (get x9 x11)) (0 : Int) (IntKind.i64.wrap (x6 - (1 : Int)))) fun r31 =>
   impl_formFits.J27 N G0 (x4, x5, x6, x7, x8, (0 : Int), (r31).1, x9, x10, x11, ())) (
   br ((ImplStep.kind (get x9 x11)) == (3 : Int)) (
   bnd (impl_within N (ImplStep.a (get x9 x11)) (0 : Int) (IntKind.i64.wrap (x7 - (1 : Int)))) fun r32 =>
   impl_formFits.J27 N G0 (x4, x5, x6, x7, x8, (0 : Int), (r32).1, x9, x10, x11, ())) (
   br ((ImplStep.kind (get x9 x11)) == (4 : Int)) (
   bnd (impl_within N (ImplStep.a (get x9 x11)) (0 : Int) (1 : Int)) fun r33 =>
   impl_formFits.J27 N G0 (x4, x5, x6, x7, x8, (0 : Int), (r33).1, x9, x10, x11, ())) (
   br ((ImplStep.kind (get x9 x11)) == (5 : Int)) (
   bnd (impl_within N (ImplStep.a (get x9 x11)) (0 : Int) (6 : Int)) fun r34 =>
   impl_formFits.J27 N G0 (x4, x5, x6, x7, x8, (2 : Int), (r34).1, x9, x10, x11, ())) (
   br ((ImplStep.kind (get x9 x11)) == (6 : Int)) (
   impl_formFits.J27 N G0 (x4, x5, x6, x7, x8, (3 : Int), ((ImplStep.a (get x9 x11)) == (0 : Int)), x9, x10, x11, ())) (
   impl_formFits.J27 N G0 (x4, x5, x6, x7, x8, (0 : Int), false, x9, x10, x11, ())))))))))))) (
  br (x8 == (1 : Int)) (
  some ((decide ((((List.length x4) : Nat) : Int) ≤ (9 : Int))), ())) (
  some (false, ())))

def impl_formFits.B (N : Nat) (E0 : (List (ImplStep)) × Int × Int × Int × Int × (List (ImplStep)) × Int × Int × Unit → Option (Bool × Unit)) (x0 : List (ImplStep)) (x1 : Int) (x2 : Int) (x3 : Int) : Option (Bool × Unit) :=
 E0 (x0, x1, x2, x3, (0 : Int), x0, (((List.length x0) : Nat) : Int), (0 : Int), ())

def impl_formFits.L0 (N : Nat) : Nat → (List (ImplStep)) × Int × Int × Int × Int × (List (ImplStep)) × Int × Int × Unit → Option (Bool × Unit)
  | 0, _ => none
  | n + 1, x => impl_formFits.B0 N (impl_formFits.L0 N n) x

def impl_formFits (N : Nat) (x0 : List (ImplStep)) (x1 : Int) (x2 : Int) (x3 : Int) : Option (Bool × Unit) := impl_formFits.B N (impl_formFits.L0 N N) x0 x1 x2 x3

def impl_FormOk.B (N : Nat) (x0 : List (ImplStep)) (x1 : Int) (x2 : Int) (x3 : Int) : Option (Bool × Unit) :=
 bnd (impl_within N x1 (0 : Int) (3 : Int)) fun r4 =>
 br (r4).1 (
  bnd (impl_within N x2 (0 : Int) (3 : Int)) fun r5 =>
  br (r5).1 (
   bnd (impl_within N x3 (0 : Int) (4 : Int)) fun r6 =>
   br (r6).1 (
    bnd (impl_formFits N x0 x1 x2 x3) fun r7 =>
    some ((r7).1, ())) (
    some (false, ()))) (
   some (false, ()))) (
  some (false, ()))

def impl_FormOk (N : Nat) (x0 : List (ImplStep)) (x1 : Int) (x2 : Int) (x3 : Int) : Option (Bool × Unit) := impl_FormOk.B N x0 x1 x2 x3

def impl_number.B (N : Nat) (x0 : Int) : Option (ImplValue × Unit) :=
 some ((ImplValue.mk (1 : Int) x0 ([] : List (UInt8))), ())

def impl_number (N : Nat) (x0 : Int) : Option (ImplValue × Unit) := impl_number.B N x0

def impl_truth.B (N : Nat) (x0 : Bool) : Option (ImplValue × Unit) :=
 br x0 (
  bnd (impl_number N (1 : Int)) fun r1 =>
  some ((r1).1, ())) (
  bnd (impl_number N (0 : Int)) fun r2 =>
 some ((r2).1, ()))

def impl_truth (N : Nat) (x0 : Bool) : Option (ImplValue × Unit) := impl_truth.B N x0

def impl_ValShow.B (N : Nat) (x0 : ImplValue) : Option ((List UInt8) × Unit) :=
 bnd (impl_ValOk N x0) fun r1 =>
 br (!(r1).1) (
  some (([] : List (UInt8)), ())) (
  br ((ImplValue.kind x0) == (0 : Int)) (
  some (([] : List (UInt8)), ())) (
  br ((ImplValue.kind x0) == (1 : Int)) (
  bnd (LibItoa N (ImplValue.num x0)) fun r2 =>
  some ((r2).1, ())) (
  some ((ImplValue.text x0), ()))))

def impl_ValShow (N : Nat) (x0 : ImplValue) : Option ((List UInt8) × Unit) := impl_ValShow.B N x0

def impl_ValTrue.B (N : Nat) (x0 : ImplValue) : Option (Bool × Unit) :=
 bnd (impl_ValOk N x0) fun r1 =>
 br (r1).1 (
  br ((ImplValue.kind x0) == (1 : Int)) (
   br ((ImplValue.num x0) != (0 : Int)) (
    some (true, ())) (
    br ((ImplValue.kind x0) == (2 : Int)) (
    some ((!((ImplValue.text x0) == ([] : List (UInt8)))), ())) (
    some (false, ())))) (
   br ((ImplValue.kind x0) == (2 : Int)) (
   some ((!((ImplValue.text x0) == ([] : List (UInt8)))), ())) (
   some (false, ())))) (
  some (false, ()))

def impl_ValTrue (N : Nat) (x0 : ImplValue) : Option (Bool × Unit) := impl_ValTrue.B N x0

def impl_ValDo.J19 (N : Nat) : ImplValue × Int × Unit → Option (ImplValue × Unit) :=
fun (x5, x6, ()) =>
 bnd (impl_within N x6 (-(1000 : Int)) (1000 : Int)) fun r7 =>
 br (!(r7).1) (
  some ((ImplValue.mk (0 : Int) (0 : Int) ([] : List (UInt8))), ())) (
  bnd (impl_number N x6) fun r8 =>
 some ((r8).1, ()))

def impl_ValDo.B (N : Nat) (x0 : Int) (x1 : ImplValue) (x2 : ImplValue) : Option (ImplValue × Unit) :=
 bnd (impl_ValOk N x1) fun r3 =>
 br (!(r3).1) (
  some ((ImplValue.mk (0 : Int) (0 : Int) ([] : List (UInt8))), ())) (
  bnd (impl_ValOk N x2) fun r4 =>
 br (!(r4).1) (
  some ((ImplValue.mk (0 : Int) (0 : Int) ([] : List (UInt8))), ())) (
  br (x0 == (0 : Int)) (
  br (x0 == (0 : Int)) (
   br ((ImplValue.kind x1) != (1 : Int)) (
    some ((ImplValue.mk (0 : Int) (0 : Int) ([] : List (UInt8))), ())) (
    br ((ImplValue.kind x2) != (1 : Int)) (
    some ((ImplValue.mk (0 : Int) (0 : Int) ([] : List (UInt8))), ())) (
    br (x0 == (0 : Int)) (
    impl_ValDo.J19 N ((ImplValue.mk (0 : Int) (0 : Int) ([] : List (UInt8))), (IntKind.i64.wrap ((ImplValue.num x1) + (ImplValue.num x2))), ())) (
    br (x0 == (1 : Int)) (
    impl_ValDo.J19 N ((ImplValue.mk (0 : Int) (0 : Int) ([] : List (UInt8))), (IntKind.i64.wrap ((ImplValue.num x1) - (ImplValue.num x2))), ())) (
    br (x0 == (2 : Int)) (
    impl_ValDo.J19 N ((ImplValue.mk (0 : Int) (0 : Int) ([] : List (UInt8))), (IntKind.i64.wrap ((ImplValue.num x1) * (ImplValue.num x2))), ())) (
    bnd (impl_truth N (decide ((ImplValue.num x1) < (ImplValue.num x2)))) fun r9 =>
   some ((r9).1, ()))))))) (
   br (x0 == (4 : Int)) (
   bnd (impl_truth N (((ImplValue.kind x1) == (ImplValue.kind x2)) && (((ImplValue.num x1) == (ImplValue.num x2)) && ((ImplValue.text x1) == (ImplValue.text x2))))) fun r10 =>
   some ((r10).1, ())) (
   br (x0 == (5 : Int)) (
   bnd (impl_ValShow N x1) fun r11 =>
   bnd (impl_ValShow N x2) fun r12 =>
   gd (decide (((List.length (r11).1) + (List.length (r12).1)) < 68719476736)) (
   bnd (impl_ValOk N (ImplValue.mk (2 : Int) (0 : Int) ((r11).1 ++ (r12).1))) fun r13 =>
   br (!(r13).1) (
    some ((ImplValue.mk (0 : Int) (0 : Int) ([] : List (UInt8))), ())) (
    some ((ImplValue.mk (2 : Int) (0 : Int) ((r11).1 ++ (r12).1)), ())))) (
   br (x0 == (6 : Int)) (
   bnd (impl_ValTrue N x1) fun r14 =>
   br (r14).1 (
    some (x2, ())) (
    some (x1, ()))) (
   some ((ImplValue.mk (0 : Int) (0 : Int) ([] : List (UInt8))), ())))))) (
  br (x0 == (1 : Int)) (
  br (x0 == (1 : Int)) (
   br ((ImplValue.kind x1) != (1 : Int)) (
    some ((ImplValue.mk (0 : Int) (0 : Int) ([] : List (UInt8))), ())) (
    br ((ImplValue.kind x2) != (1 : Int)) (
    some ((ImplValue.mk (0 : Int) (0 : Int) ([] : List (UInt8))), ())) (
    br (x0 == (0 : Int)) (
    impl_ValDo.J19 N ((ImplValue.mk (0 : Int) (0 : Int) ([] : List (UInt8))), (IntKind.i64.wrap ((ImplValue.num x1) + (ImplValue.num x2))), ())) (
    br (x0 == (1 : Int)) (
    impl_ValDo.J19 N ((ImplValue.mk (0 : Int) (0 : Int) ([] : List (UInt8))), (IntKind.i64.wrap ((ImplValue.num x1) - (ImplValue.num x2))), ())) (
    br (x0 == (2 : Int)) (
    impl_ValDo.J19 N ((ImplValue.mk (0 : Int) (0 : Int) ([] : List (UInt8))), (IntKind.i64.wrap ((ImplValue.num x1) * (ImplValue.num x2))), ())) (
    bnd (impl_truth N (decide ((ImplValue.num x1) < (ImplValue.num x2)))) fun r15 =>
   some ((r15).1, ()))))))) (
   br (x0 == (4 : Int)) (
   bnd (impl_truth N (((ImplValue.kind x1) == (ImplValue.kind x2)) && (((ImplValue.num x1) == (ImplValue.num x2)) && ((ImplValue.text x1) == (ImplValue.text x2))))) fun r16 =>
   some ((r16).1, ())) (
   br (x0 == (5 : Int)) (
   bnd (impl_ValShow N x1) fun r17 =>
   bnd (impl_ValShow N x2) fun r18 =>
   gd (decide (((List.length (r17).1) + (List.length (r18).1)) < 68719476736)) (
   bnd (impl_ValOk N (ImplValue.mk (2 : Int) (0 : Int) ((r17).1 ++ (r18).1))) fun r19 =>
   br (!(r19).1) (
    some ((ImplValue.mk (0 : Int) (0 : Int) ([] : List (UInt8))), ())) (
    some ((ImplValue.mk (2 : Int) (0 : Int) ((r17).1 ++ (r18).1)), ())))) (
   br (x0 == (6 : Int)) (
   bnd (impl_ValTrue N x1) fun r20 =>
   br (r20).1 (
    some (x2, ())) (
    some (x1, ()))) (
   some ((ImplValue.mk (0 : Int) (0 : Int) ([] : List (UInt8))), ())))))) (
  br (x0 == (2 : Int)) (
  br (x0 == (2 : Int)) (
   br ((ImplValue.kind x1) != (1 : Int)) (
    some ((ImplValue.mk (0 : Int) (0 : Int) ([] : List (UInt8))), ())) (
    br ((ImplValue.kind x2) != (1 : Int)) (
    some ((ImplValue.mk (0 : Int) (0 : Int) ([] : List (UInt8))), ())) (
    br (x0 == (0 : Int)) (
    impl_ValDo.J19 N ((ImplValue.mk (0 : Int) (0 : Int) ([] : List (UInt8))), (IntKind.i64.wrap ((ImplValue.num x1) + (ImplValue.num x2))), ())) (
    br (x0 == (1 : Int)) (
    impl_ValDo.J19 N ((ImplValue.mk (0 : Int) (0 : Int) ([] : List (UInt8))), (IntKind.i64.wrap ((ImplValue.num x1) - (ImplValue.num x2))), ())) (
    br (x0 == (2 : Int)) (
    impl_ValDo.J19 N ((ImplValue.mk (0 : Int) (0 : Int) ([] : List (UInt8))), (IntKind.i64.wrap ((ImplValue.num x1) * (ImplValue.num x2))), ())) (
    bnd (impl_truth N (decide ((ImplValue.num x1) < (ImplValue.num x2)))) fun r21 =>
   some ((r21).1, ()))))))) (
   br (x0 == (4 : Int)) (
   bnd (impl_truth N (((ImplValue.kind x1) == (ImplValue.kind x2)) && (((ImplValue.num x1) == (ImplValue.num x2)) && ((ImplValue.text x1) == (ImplValue.text x2))))) fun r22 =>
   some ((r22).1, ())) (
   br (x0 == (5 : Int)) (
   bnd (impl_ValShow N x1) fun r23 =>
   bnd (impl_ValShow N x2) fun r24 =>
   gd (decide (((List.length (r23).1) + (List.length (r24).1)) < 68719476736)) (
   bnd (impl_ValOk N (ImplValue.mk (2 : Int) (0 : Int) ((r23).1 ++ (r24).1))) fun r25 =>
   br (!(r25).1) (
    some ((ImplValue.mk (0 : Int) (0 : Int) ([] : List (UInt8))), ())) (
    some ((ImplValue.mk (2 : Int) (0 : Int) ((r23).1 ++ (r24).1)), ())))) (
   br (x0 == (6 : Int)) (
   bnd (impl_ValTrue N x1) fun r26 =>
   br (r26).1 (
    some (x2, ())) (
    some (x1, ()))) (
   some ((ImplValue.mk (0 : Int) (0 : Int) ([] : List (UInt8))), ())))))) (
  br (x0 == (3 : Int)) (
  br ((ImplValue.kind x1) != (1 : Int)) (
   some ((ImplValue.mk (0 : Int) (0 : Int) ([] : List (UInt8))), ())) (
   br ((ImplValue.kind x2) != (1 : Int)) (
   some ((ImplValue.mk (0 : Int) (0 : Int) ([] : List (UInt8))), ())) (
   br (x0 == (0 : Int)) (
   impl_ValDo.J19 N ((ImplValue.mk (0 : Int) (0 : Int) ([] : List (UInt8))), (IntKind.i64.wrap ((ImplValue.num x1) + (ImplValue.num x2))), ())) (
   br (x0 == (1 : Int)) (
   impl_ValDo.J19 N ((ImplValue.mk (0 : Int) (0 : Int) ([] : List (UInt8))), (IntKind.i64.wrap ((ImplValue.num x1) - (ImplValue.num x2))), ())) (
   br (x0 == (2 : Int)) (
   impl_ValDo.J19 N ((ImplValue.mk (0 : Int) (0 : Int) ([] : List (UInt8))), (IntKind.i64.wrap ((ImplValue.num x1) * (ImplValue.num x2))), ())) (
   bnd (impl_truth N (decide ((ImplValue.num x1) < (ImplValue.num x2)))) fun r27 =>
  some ((r27).1, ()))))))) (
  br (x0 == (4 : Int)) (
  bnd (impl_truth N (((ImplValue.kind x1) == (ImplValue.kind x2)) && (((ImplValue.num x1) == (ImplValue.num x2)) && ((ImplValue.text x1) == (ImplValue.text x2))))) fun r28 =>
  some ((r28).1, ())) (
  br (x0 == (5 : Int)) (
  bnd (impl_ValShow N x1) fun r29 =>
  bnd (impl_ValShow N x2) fun r30 =>
  gd (decide (((List.length (r29).1) + (List.length (r30).1)) < 68719476736)) (
  bnd (impl_ValOk N (ImplValue.mk (2 : Int) (0 : Int) ((r29).1 ++ (r30).1))) fun r31 =>
  br (!(r31).1) (
   some ((ImplValue.mk (0 : Int) (0 : Int) ([] : List (UInt8))), ())) (
   some ((ImplValue.mk (2 : Int) (0 : Int) ((r29).1 ++ (r30).1)), ())))) (
  br (x0 == (6 : Int)) (
  bnd (impl_ValTrue N x1) fun r32 =>
  br (r32).1 (
   some (x2, ())) (
   some (x1, ()))) (
  some ((ImplValue.mk (0 : Int) (0 : Int) ([] : List (UInt8))), ()))))))))))

def impl_ValDo (N : Nat) (x0 : Int) (x1 : ImplValue) (x2 : ImplValue) : Option (ImplValue × Unit) := impl_ValDo.B N x0 x1 x2

def impl_formRun.J23 (N : Nat) (G0 : ImplEnv × ImplValue × (List (ImplValue)) × (List (ImplStep)) × Int × Int × Unit → Option (ImplValue × Unit)) : ImplEnv × ImplValue × (List (ImplValue)) × Int × ImplValue × (List (ImplStep)) × Int × Int × Unit → Option (ImplValue × Unit) :=
fun (x12, x13, x14, x15, x16, x17, x18, x19, ()) =>
 gd (decide ((0 : Int) ≤ (IntKind.i64.wrap (x15 - (3 : Int))))) (
 gd (decide ((IntKind.i64.wrap (x15 - (3 : Int))) ≤ (((List.length x14) : Nat) : Int))) (
 gd (decide (((List.length (sub x14 (0 : Int) (IntKind.i64.wrap (x15 - (3 : Int))))) + (List.length ([x16] : List (ImplValue)))) < 68719476736)) (
 G0 (x12, x13, ((sub x14 (0 : Int) (IntKind.i64.wrap (x15 - (3 : Int)))) ++ ([x16] : List (ImplValue))), x17, x18, (IntKind.i64.wrap (x19 + (1 : Int))), ()))))

def impl_formRun.B0 (N : Nat) (G0 : ImplEnv × ImplValue × (List (ImplValue)) × (List (ImplStep)) × Int × Int × Unit → Option (ImplValue × Unit)) : ImplEnv × ImplValue × (List (ImplValue)) × (List (ImplStep)) × Int × Int × Unit → Option (ImplValue × Unit) :=
fun (x2, x3, x4, x5, x6, x7, ()) =>
 br (decide (x7 < x6)) (
  gd (decide ((0 : Int) ≤ x7)) (
  gd (decide (x7 < (((List.length x5) : Nat) : Int))) (
  br ((ImplStep.kind (get x5 x7)) == (0 : Int)) (
   gd (decide (((List.length x4) + (List.length ([(ImplValue.mk (ImplStep.val_Kind (get x5 x7)) (ImplStep.val_Num (get x5 x7)) (ImplStep.val_Text (get x5 x7)))] : List (ImplValue)))) < 68719476736)) (
   G0 (x2, x3, (x4 ++ ([(ImplValue.mk (ImplStep.val_Kind (get x5 x7)) (ImplStep.val_Num (get x5 x7)) (ImplStep.val_Text (get x5 x7)))] : List (ImplValue))), x5, x6, (IntKind.i64.wrap (x7 + (1 : Int))), ()))) (
   br ((ImplStep.kind (get x5 x7)) == (1 : Int)) (
   gd (decide ((0 : Int) ≤ (ImplStep.a (get x5 x7)))) (
   gd (decide ((ImplStep.a (get x5 x7)) < (((List.length (ImplEnv.props x2)) : Nat) : Int))) (
   gd (decide (((List.length x4) + (List.length ([(get (ImplEnv.props x2) (ImplStep.a (get x5 x7)))] : List (ImplValue)))) < 68719476736)) (
   G0 (x2, x3, (x4 ++ ([(get (ImplEnv.props x2) (ImplStep.a (get x5 x7)))] : List (ImplValue))), x5, x6, (IntKind.i64.wrap (x7 + (1 : Int))), ()))))) (
   br ((ImplStep.kind (get x5 x7)) == (2 : Int)) (
   gd (decide ((0 : Int) ≤ (ImplStep.a (get x5 x7)))) (
   gd (decide ((ImplStep.a (get x5 x7)) < (((List.length (ImplEnv.states x2)) : Nat) : Int))) (
   gd (decide (((List.length x4) + (List.length ([(get (ImplEnv.states x2) (ImplStep.a (get x5 x7)))] : List (ImplValue)))) < 68719476736)) (
   G0 (x2, x3, (x4 ++ ([(get (ImplEnv.states x2) (ImplStep.a (get x5 x7)))] : List (ImplValue))), x5, x6, (IntKind.i64.wrap (x7 + (1 : Int))), ()))))) (
   br ((ImplStep.kind (get x5 x7)) == (3 : Int)) (
   gd (decide ((0 : Int) ≤ (IntKind.i64.wrap ((IntKind.i64.wrap ((((List.length (ImplEnv.turns x2)) : Nat) : Int) - (1 : Int))) - (ImplStep.a (get x5 x7)))))) (
   gd (decide ((IntKind.i64.wrap ((IntKind.i64.wrap ((((List.length (ImplEnv.turns x2)) : Nat) : Int) - (1 : Int))) - (ImplStep.a (get x5 x7)))) < (((List.length (ImplEnv.turns x2)) : Nat) : Int))) (
   bnd (impl_number N (get (ImplEnv.turns x2) (IntKind.i64.wrap ((IntKind.i64.wrap ((((List.length (ImplEnv.turns x2)) : Nat) : Int) - (1 : Int))) - (ImplStep.a (get x5 x7)))))) fun r9 =>
   gd (decide (((List.length x4) + (List.length ([(r9).1] : List (ImplValue)))) < 68719476736)) (
   G0 (x2, x3, (x4 ++ ([(r9).1] : List (ImplValue))), x5, x6, (IntKind.i64.wrap (x7 + (1 : Int))), ()))))) (
   br ((ImplStep.kind (get x5 x7)) == (4 : Int)) (
   gd (decide ((0 : Int) ≤ (ImplStep.a (get x5 x7)))) (
   gd (decide ((ImplStep.a (get x5 x7)) < (((List.length (ImplEnv.gifts x2)) : Nat) : Int))) (
   gd (decide (((List.length x4) + (List.length ([(get (ImplEnv.gifts x2) (ImplStep.a (get x5 x7)))] : List (ImplValue)))) < 68719476736)) (
   G0 (x2, x3, (x4 ++ ([(get (ImplEnv.gifts x2) (ImplStep.a (get x5 x7)))] : List (ImplValue))), x5, x6, (IntKind.i64.wrap (x7 + (1 : Int))), ()))))) (
   br ((ImplStep.kind (get x5 x7)) == (5 : Int)) (
   gd (decide ((0 : Int) ≤ (IntKind.i64.wrap ((((List.length x4) : Nat) : Int) - (2 : Int))))) (
   gd (decide ((IntKind.i64.wrap ((((List.length x4) : Nat) : Int) - (2 : Int))) ≤ (((List.length x4) : Nat) : Int))) (
   gd (decide ((0 : Int) ≤ (IntKind.i64.wrap ((((List.length x4) : Nat) : Int) - (2 : Int))))) (
   gd (decide ((IntKind.i64.wrap ((((List.length x4) : Nat) : Int) - (2 : Int))) < (((List.length x4) : Nat) : Int))) (
   gd (decide ((0 : Int) ≤ (IntKind.i64.wrap ((((List.length x4) : Nat) : Int) - (1 : Int))))) (
   gd (decide ((IntKind.i64.wrap ((((List.length x4) : Nat) : Int) - (1 : Int))) < (((List.length x4) : Nat) : Int))) (
   bnd (impl_ValDo N (ImplStep.a (get x5 x7)) (get x4 (IntKind.i64.wrap ((((List.length x4) : Nat) : Int) - (2 : Int)))) (get x4 (IntKind.i64.wrap ((((List.length x4) : Nat) : Int) - (1 : Int))))) fun r10 =>
   gd (decide (((List.length (sub x4 (0 : Int) (IntKind.i64.wrap ((((List.length x4) : Nat) : Int) - (2 : Int))))) + (List.length ([(r10).1] : List (ImplValue)))) < 68719476736)) (
   G0 (x2, x3, ((sub x4 (0 : Int) (IntKind.i64.wrap ((((List.length x4) : Nat) : Int) - (2 : Int)))) ++ ([(r10).1] : List (ImplValue))), x5, x6, (IntKind.i64.wrap (x7 + (1 : Int))), ()))))))))) (
   br ((ImplStep.kind (get x5 x7)) == (6 : Int)) (
   gd (decide ((0 : Int) ≤ (IntKind.i64.wrap ((((List.length x4) : Nat) : Int) - (1 : Int))))) (
   gd (decide ((IntKind.i64.wrap ((((List.length x4) : Nat) : Int) - (1 : Int))) < (((List.length x4) : Nat) : Int))) (
   gd (decide ((0 : Int) ≤ (IntKind.i64.wrap ((((List.length x4) : Nat) : Int) - (3 : Int))))) (
   gd (decide ((IntKind.i64.wrap ((((List.length x4) : Nat) : Int) - (3 : Int))) < (((List.length x4) : Nat) : Int))) (
   bnd (impl_ValTrue N (get x4 (IntKind.i64.wrap ((((List.length x4) : Nat) : Int) - (3 : Int))))) fun r11 =>
   br (r11).1 (
    gd (decide ((0 : Int) ≤ (IntKind.i64.wrap ((((List.length x4) : Nat) : Int) - (2 : Int))))) (
    gd (decide ((IntKind.i64.wrap ((((List.length x4) : Nat) : Int) - (2 : Int))) < (((List.length x4) : Nat) : Int))) (
    impl_formRun.J23 N G0 (x2, x3, x4, (((List.length x4) : Nat) : Int), (get x4 (IntKind.i64.wrap ((((List.length x4) : Nat) : Int) - (2 : Int)))), x5, x6, x7, ())))) (
    impl_formRun.J23 N G0 (x2, x3, x4, (((List.length x4) : Nat) : Int), (get x4 (IntKind.i64.wrap ((((List.length x4) : Nat) : Int) - (1 : Int)))), x5, x6, x7, ()))))))) (
   G0 (x2, x3, x4, x5, x6, (IntKind.i64.wrap (x7 + (1 : Int))), ()))))))))))) (
  gd (decide ((0 : Int) < (((List.length x4) : Nat) : Int))) (
 some ((get x4 (0 : Int)), ())))

def impl_formRun.B (N : Nat) (E0 : ImplEnv × ImplValue × (List (ImplValue)) × (List (ImplStep)) × Int × Int × Unit → Option (ImplValue × Unit)) (x0 : List (ImplStep)) (x1 : ImplEnv) : Option (ImplValue × Unit) :=
 E0 (x1, (ImplValue.mk (0 : Int) (0 : Int) ([] : List (UInt8))), ([] : List (ImplValue)), x0, (((List.length x0) : Nat) : Int), (0 : Int), ())

def impl_formRun.L0 (N : Nat) : Nat → ImplEnv × ImplValue × (List (ImplValue)) × (List (ImplStep)) × Int × Int × Unit → Option (ImplValue × Unit)
  | 0, _ => none
  | n + 1, x => impl_formRun.B0 N (impl_formRun.L0 N n) x

def impl_formRun (N : Nat) (x0 : List (ImplStep)) (x1 : ImplEnv) : Option (ImplValue × Unit) := impl_formRun.B N (impl_formRun.L0 N N) x0 x1

def impl_FormValue.B (N : Nat) (x0 : List (ImplStep)) (x1 : ImplEnv) : Option (ImplValue × Unit) :=
 bnd (impl_envOk N x1) fun r2 =>
 br (!(r2).1) (
  some ((ImplValue.mk (0 : Int) (0 : Int) ([] : List (UInt8))), ())) (
  bnd (impl_FormOk N x0 (((List.length (ImplEnv.props x1)) : Nat) : Int) (((List.length (ImplEnv.states x1)) : Nat) : Int) (((List.length (ImplEnv.turns x1)) : Nat) : Int)) fun r3 =>
 br (!(r3).1) (
  some ((ImplValue.mk (0 : Int) (0 : Int) ([] : List (UInt8))), ())) (
  bnd (impl_formRun N x0 x1) fun r4 =>
 some ((r4).1, ())))

def impl_FormValue (N : Nat) (x0 : List (ImplStep)) (x1 : ImplEnv) : Option (ImplValue × Unit) := impl_FormValue.B N x0 x1

def spec_validValues.B0 (N : Nat) (G0 : (List (ImplValue)) × Int × Unit → Option (Bool × Unit)) : (List (ImplValue)) × Int × Unit → Option (Bool × Unit) :=
fun (x1, x2, ()) =>
 br (decide (x2 < (((List.length x1) : Nat) : Int))) (
  gd (decide ((0 : Int) ≤ x2)) (
  gd (decide (x2 < (((List.length x1) : Nat) : Int))) (
  bnd (spec_validValue N (get x1 x2)) fun r4 =>
  br (!(r4).1) (
   some (false, ())) (
   G0 (x1, (IntKind.i64.wrap (x2 + (1 : Int))), ()))))) (
  some (true, ()))

def spec_validValues.B (N : Nat) (E0 : (List (ImplValue)) × Int × Unit → Option (Bool × Unit)) (x0 : List (ImplValue)) : Option (Bool × Unit) :=
 E0 (x0, (0 : Int), ())

def spec_validValues.L0 (N : Nat) : Nat → (List (ImplValue)) × Int × Unit → Option (Bool × Unit)
  | 0, _ => none
  | n + 1, x => spec_validValues.B0 N (spec_validValues.L0 N n) x

def spec_validValues (N : Nat) (x0 : List (ImplValue)) : Option (Bool × Unit) := spec_validValues.B N (spec_validValues.L0 N N) x0

def spec_validEnv.B0 (N : Nat) (G0 : ImplEnv × Int × Unit → Option (Bool × Unit)) : ImplEnv × Int × Unit → Option (Bool × Unit) :=
fun (x1, x2, ()) =>
 br (decide (x2 < (((List.length (ImplEnv.turns x1)) : Nat) : Int))) (
  gd (decide ((0 : Int) ≤ x2)) (
  gd (decide (x2 < (((List.length (ImplEnv.turns x1)) : Nat) : Int))) (
  bnd (spec_inRange N (get (ImplEnv.turns x1) x2) (0 : Int) (3 : Int)) fun r4 =>
  br (!(r4).1) (
   some (false, ())) (
   G0 (x1, (IntKind.i64.wrap (x2 + (1 : Int))), ()))))) (
  bnd (spec_validValues N (ImplEnv.props x1)) fun r5 =>
 br (r5).1 (
  bnd (spec_validValues N (ImplEnv.states x1)) fun r6 =>
  br (r6).1 (
   bnd (spec_validValues N (ImplEnv.gifts x1)) fun r7 =>
   some ((r7).1, ())) (
   some (false, ()))) (
  some (false, ())))

def spec_validEnv.B (N : Nat) (E0 : ImplEnv × Int × Unit → Option (Bool × Unit)) (x0 : ImplEnv) : Option (Bool × Unit) :=
 br (decide ((((List.length (ImplEnv.props x0)) : Nat) : Int) > (3 : Int))) (
  some (false, ())) (
  br (decide ((((List.length (ImplEnv.states x0)) : Nat) : Int) > (3 : Int))) (
  some (false, ())) (
  br (decide ((((List.length (ImplEnv.turns x0)) : Nat) : Int) > (4 : Int))) (
  some (false, ())) (
  br ((((List.length (ImplEnv.gifts x0)) : Nat) : Int) != (2 : Int)) (
  some (false, ())) (
  E0 (x0, (0 : Int), ())))))

def spec_validEnv.L0 (N : Nat) : Nat → ImplEnv × Int × Unit → Option (Bool × Unit)
  | 0, _ => none
  | n + 1, x => spec_validEnv.B0 N (spec_validEnv.L0 N n) x

def spec_validEnv (N : Nat) (x0 : ImplEnv) : Option (Bool × Unit) := spec_validEnv.B N (spec_validEnv.L0 N N) x0

def spec_validStep.B (N : Nat) (x0 : ImplStep) (x1 : Int) (x2 : Int) (x3 : Int) : Option (Bool × Unit) :=
 br ((ImplStep.kind x0) == (0 : Int)) (
  br ((ImplStep.a x0) == (0 : Int)) (
   bnd (spec_validValue N (ImplValue.mk (ImplStep.val_Kind x0) (ImplStep.val_Num x0) (ImplStep.val_Text x0))) fun r4 =>
   some ((r4).1, ())) (
   some (false, ()))) (
  br ((ImplStep.kind x0) == (1 : Int)) (
  bnd (spec_inRange N (ImplStep.a x0) (0 : Int) (IntKind.i64.wrap (x1 - (1 : Int)))) fun r5 =>
  br (r5).1 (
   some ((((ImplStep.val_Kind x0) == (0 : Int)) && (((ImplStep.val_Num x0) == (0 : Int)) && ((ImplStep.val_Text x0) == ([] : List (UInt8))))), ())) (
   some (false, ()))) (
  br ((ImplStep.kind x0) == (2 : Int)) (
  bnd (spec_inRange N (ImplStep.a x0) (0 : Int) (IntKind.i64.wrap (x2 - (1 : Int)))) fun r6 =>
  br (r6).1 (
   some ((((ImplStep.val_Kind x0) == (0 : Int)) && (((ImplStep.val_Num x0) == (0 : Int)) && ((ImplStep.val_Text x0) == ([] : List (UInt8))))), ())) (
   some (false, ()))) (
  br ((ImplStep.kind x0) == (3 : Int)) (
  bnd (spec_inRange N (ImplStep.a x0) (0 : Int) (IntKind.i64.wrap (x3 - (1 : Int)))) fun r7 =>
  br (r7).1 (
   some ((((ImplStep.val_Kind x0) == (0 : Int)) && (((ImplStep.val_Num x0) == (0 : Int)) && ((ImplStep.val_Text x0) == ([] : List (UInt8))))), ())) (
   some (false, ()))) (
  br ((ImplStep.kind x0) == (4 : Int)) (
  bnd (spec_inRange N (ImplStep.a x0) (0 : Int) (1 : Int)) fun r8 =>
  br (r8).1 (
   some ((((ImplStep.val_Kind x0) == (0 : Int)) && (((ImplStep.val_Num x0) == (0 : Int)) && ((ImplStep.val_Text x0) == ([] : List (UInt8))))), ())) (
   some (false, ()))) (
  br ((ImplStep.kind x0) == (5 : Int)) (
  bnd (spec_inRange N (ImplStep.a x0) (0 : Int) (6 : Int)) fun r9 =>
  br (r9).1 (
   some ((((ImplStep.val_Kind x0) == (0 : Int)) && (((ImplStep.val_Num x0) == (0 : Int)) && ((ImplStep.val_Text x0) == ([] : List (UInt8))))), ())) (
   some (false, ()))) (
  br ((ImplStep.kind x0) == (6 : Int)) (
  br ((ImplStep.a x0) == (0 : Int)) (
   some ((((ImplStep.val_Kind x0) == (0 : Int)) && (((ImplStep.val_Num x0) == (0 : Int)) && ((ImplStep.val_Text x0) == ([] : List (UInt8))))), ())) (
   some (false, ()))) (
  some (false, ()))))))))

def spec_validStep (N : Nat) (x0 : ImplStep) (x1 : Int) (x2 : Int) (x3 : Int) : Option (Bool × Unit) := spec_validStep.B N x0 x1 x2 x3

def spec_takes.B (N : Nat) (x0 : ImplStep) : Option (Int × Unit) :=
 br ((ImplStep.kind x0) == (5 : Int)) (
  some ((2 : Int), ())) (
  br ((ImplStep.kind x0) == (6 : Int)) (
  some ((3 : Int), ())) (
  some ((0 : Int), ())))

def spec_takes (N : Nat) (x0 : ImplStep) : Option (Int × Unit) := spec_takes.B N x0

def spec_validForm.B0 (N : Nat) (G0 : (List (ImplStep)) × Int × Int × Int × Int × Int × Unit → Option (Bool × Unit)) : (List (ImplStep)) × Int × Int × Int × Int × Int × Unit → Option (Bool × Unit) :=
fun (x4, x5, x6, x7, x8, x9, ()) =>
 br (decide (x9 < (((List.length x4) : Nat) : Int))) (
  gd (decide ((0 : Int) ≤ x9)) (
  gd (decide (x9 < (((List.length x4) : Nat) : Int))) (
  bnd (spec_validStep N (get x4 x9) x5 x6 x7) fun r11 =>
  br (!(r11).1) (
   some (false, ())) (
   gd (decide ((0 : Int) ≤ x9)) (
  gd (decide (x9 < (((List.length x4) : Nat) : Int))) (
  bnd (spec_takes N (get x4 x9)) fun r12 =>
  br (decide (x8 < (r12).1)) (
   some (false, ())) (
   gd (decide ((0 : Int) ≤ x9)) (
  gd (decide (x9 < (((List.length x4) : Nat) : Int))) (
  bnd (spec_takes N (get x4 x9)) fun r13 =>
  G0 (x4, x5, x6, x7, (IntKind.i64.wrap ((IntKind.i64.wrap (x8 - (r13).1)) + (1 : Int))), (IntKind.i64.wrap (x9 + (1 : Int))), ())))))))))) (
  some ((x8 == (1 : Int)), ()))

def spec_validForm.B (N : Nat) (E0 : (List (ImplStep)) × Int × Int × Int × Int × Int × Unit → Option (Bool × Unit)) (x0 : List (ImplStep)) (x1 : Int) (x2 : Int) (x3 : Int) : Option (Bool × Unit) :=
 br (decide ((((List.length x0) : Nat) : Int) > (9 : Int))) (
  some (false, ())) (
  E0 (x0, x1, x2, x3, (0 : Int), (0 : Int), ()))

def spec_validForm.L0 (N : Nat) : Nat → (List (ImplStep)) × Int × Int × Int × Int × Int × Unit → Option (Bool × Unit)
  | 0, _ => none
  | n + 1, x => spec_validForm.B0 N (spec_validForm.L0 N n) x

def spec_validForm (N : Nat) (x0 : List (ImplStep)) (x1 : Int) (x2 : Int) (x3 : Int) : Option (Bool × Unit) := spec_validForm.B N (spec_validForm.L0 N N) x0 x1 x2 x3

def spec_number.B (N : Nat) (x0 : Int) : Option (ImplValue × Unit) :=
 bnd (spec_inRange N x0 (-(1000 : Int)) (1000 : Int)) fun r1 =>
 br (!(r1).1) (
  some ((ImplValue.mk (0 : Int) (0 : Int) ([] : List (UInt8))), ())) (
  some ((ImplValue.mk (1 : Int) x0 ([] : List (UInt8))), ()))

def spec_number (N : Nat) (x0 : Int) : Option (ImplValue × Unit) := spec_number.B N x0

def spec_boolean.B (N : Nat) (x0 : Bool) : Option (ImplValue × Unit) :=
 br x0 (
  bnd (spec_number N (1 : Int)) fun r1 =>
  some ((r1).1, ())) (
  bnd (spec_number N (0 : Int)) fun r2 =>
 some ((r2).1, ()))

def spec_boolean (N : Nat) (x0 : Bool) : Option (ImplValue × Unit) := spec_boolean.B N x0

def spec_truth.B (N : Nat) (x0 : ImplValue) : Option (Bool × Unit) :=
 br ((ImplValue.num x0) != (0 : Int)) (
  some (true, ())) (
  some ((!((ImplValue.text x0) == ([] : List (UInt8)))), ()))

def spec_truth (N : Nat) (x0 : ImplValue) : Option (Bool × Unit) := spec_truth.B N x0

def spec_decimal.B (N : Nat) (R_spec_decimal : Int → Option ((List UInt8) × Unit)) (x0 : Int) : Option ((List UInt8) × Unit) :=
 br (decide (x0 < (0 : Int))) (
  bnd (R_spec_decimal (IntKind.i64.wrap ((0 : Int) - x0))) fun r1 =>
  gd (decide (((List.length ([45] : List (UInt8))) + (List.length (r1).1)) < 68719476736)) (
  some ((([45] : List (UInt8)) ++ (r1).1), ()))) (
  br (decide (x0 < (10 : Int))) (
  gd (decide ((0 : Int) ≤ x0)) (
  gd (decide (x0 ≤ (IntKind.i64.wrap (x0 + (1 : Int))))) (
  gd (decide ((IntKind.i64.wrap (x0 + (1 : Int))) ≤ (((List.length ([48, 49, 50, 51, 52, 53, 54, 55, 56, 57] : List (UInt8))) : Nat) : Int))) (
  some ((sub ([48, 49, 50, 51, 52, 53, 54, 55, 56, 57] : List (UInt8)) x0 (IntKind.i64.wrap (x0 + (1 : Int)))), ()))))) (
  bnd (R_spec_decimal (IntKind.i64.wrap (Int.tdiv x0 (10 : Int)))) fun r2 =>
 bnd (R_spec_decimal (Int.tmod x0 (10 : Int))) fun r3 =>
 gd (decide (((List.length (r2).1) + (List.length (r3).1)) < 68719476736)) (
 some (((r2).1 ++ (r3).1), ()))))

def spec_decimal.R (N : Nat) : Nat → Int → Option ((List UInt8) × Unit)
  | 0, _ => none
  | d + 1, x0 => spec_decimal.B N (spec_decimal.R N d) x0

def spec_decimal (N : Nat) (x0 : Int) : Option ((List UInt8) × Unit) := spec_decimal.R N N x0

def spec_show.B (N : Nat) (x0 : ImplValue) : Option ((List UInt8) × Unit) :=
 br ((ImplValue.kind x0) == (1 : Int)) (
  bnd (spec_decimal N (ImplValue.num x0)) fun r1 =>
  some ((r1).1, ())) (
  br ((ImplValue.kind x0) == (2 : Int)) (
  some ((ImplValue.text x0), ())) (
  some (([] : List (UInt8)), ())))

def spec_show (N : Nat) (x0 : ImplValue) : Option ((List UInt8) × Unit) := spec_show.B N x0

def spec_do.B (N : Nat) (x0 : Int) (x1 : ImplValue) (x2 : ImplValue) : Option (ImplValue × Unit) :=
 br ((ImplValue.kind x1) == (1 : Int)) (
  br (x0 == (4 : Int)) (
   bnd (spec_boolean N (((ImplValue.kind x1) == (ImplValue.kind x2)) && (((ImplValue.num x1) == (ImplValue.num x2)) && ((ImplValue.text x1) == (ImplValue.text x2))))) fun r3 =>
   some ((r3).1, ())) (
   br (x0 == (6 : Int)) (
   bnd (spec_truth N x1) fun r4 =>
   br (r4).1 (
    some (x2, ())) (
    some (x1, ()))) (
   br (x0 == (5 : Int)) (
   bnd (spec_show N x1) fun r5 =>
   bnd (spec_show N x2) fun r6 =>
   gd (decide (((List.length (r5).1) + (List.length (r6).1)) < 68719476736)) (
   bnd (spec_validWord N ((r5).1 ++ (r6).1)) fun r7 =>
   br (!(r7).1) (
    some ((ImplValue.mk (0 : Int) (0 : Int) ([] : List (UInt8))), ())) (
    some ((ImplValue.mk (2 : Int) (0 : Int) ((r5).1 ++ (r6).1)), ())))) (
   br (!((ImplValue.kind x2) == (1 : Int))) (
   some ((ImplValue.mk (0 : Int) (0 : Int) ([] : List (UInt8))), ())) (
   br (x0 == (0 : Int)) (
   bnd (spec_number N (IntKind.i64.wrap ((ImplValue.num x1) + (ImplValue.num x2)))) fun r8 =>
   some ((r8).1, ())) (
   br (x0 == (1 : Int)) (
   bnd (spec_number N (IntKind.i64.wrap ((ImplValue.num x1) - (ImplValue.num x2)))) fun r9 =>
   some ((r9).1, ())) (
   br (x0 == (2 : Int)) (
   bnd (spec_number N (IntKind.i64.wrap ((ImplValue.num x1) * (ImplValue.num x2)))) fun r10 =>
   some ((r10).1, ())) (
   bnd (spec_boolean N (decide ((ImplValue.num x1) < (ImplValue.num x2)))) fun r11 =>
  some ((r11).1, ()))))))))) (
  br (x0 == (4 : Int)) (
  bnd (spec_boolean N (((ImplValue.kind x1) == (ImplValue.kind x2)) && (((ImplValue.num x1) == (ImplValue.num x2)) && ((ImplValue.text x1) == (ImplValue.text x2))))) fun r12 =>
  some ((r12).1, ())) (
  br (x0 == (6 : Int)) (
  bnd (spec_truth N x1) fun r13 =>
  br (r13).1 (
   some (x2, ())) (
   some (x1, ()))) (
  br (x0 == (5 : Int)) (
  bnd (spec_show N x1) fun r14 =>
  bnd (spec_show N x2) fun r15 =>
  gd (decide (((List.length (r14).1) + (List.length (r15).1)) < 68719476736)) (
  bnd (spec_validWord N ((r14).1 ++ (r15).1)) fun r16 =>
  br (!(r16).1) (
   some ((ImplValue.mk (0 : Int) (0 : Int) ([] : List (UInt8))), ())) (
   some ((ImplValue.mk (2 : Int) (0 : Int) ((r14).1 ++ (r15).1)), ())))) (
  some ((ImplValue.mk (0 : Int) (0 : Int) ([] : List (UInt8))), ())))))

def spec_do (N : Nat) (x0 : Int) (x1 : ImplValue) (x2 : ImplValue) : Option (ImplValue × Unit) := spec_do.B N x0 x1 x2

def spec_told.B (N : Nat) (x0 : ImplStep) (x1 : ImplEnv) : Option (ImplValue × Unit) :=
 br ((ImplStep.kind x0) == (1 : Int)) (
  gd (decide ((0 : Int) ≤ (ImplStep.a x0))) (
  gd (decide ((ImplStep.a x0) < (((List.length (ImplEnv.props x1)) : Nat) : Int))) (
  some ((get (ImplEnv.props x1) (ImplStep.a x0)), ())))) (
  br ((ImplStep.kind x0) == (2 : Int)) (
  gd (decide ((0 : Int) ≤ (ImplStep.a x0))) (
  gd (decide ((ImplStep.a x0) < (((List.length (ImplEnv.states x1)) : Nat) : Int))) (
  some ((get (ImplEnv.states x1) (ImplStep.a x0)), ())))) (
  br ((ImplStep.kind x0) == (3 : Int)) (
  gd (decide ((0 : Int) ≤ (IntKind.i64.wrap ((IntKind.i64.wrap ((((List.length (ImplEnv.turns x1)) : Nat) : Int) - (1 : Int))) - (ImplStep.a x0))))) (
  gd (decide ((IntKind.i64.wrap ((IntKind.i64.wrap ((((List.length (ImplEnv.turns x1)) : Nat) : Int) - (1 : Int))) - (ImplStep.a x0))) < (((List.length (ImplEnv.turns x1)) : Nat) : Int))) (
  bnd (spec_number N (get (ImplEnv.turns x1) (IntKind.i64.wrap ((IntKind.i64.wrap ((((List.length (ImplEnv.turns x1)) : Nat) : Int) - (1 : Int))) - (ImplStep.a x0))))) fun r2 =>
  some ((r2).1, ())))) (
  br ((ImplStep.kind x0) == (4 : Int)) (
  gd (decide ((0 : Int) ≤ (ImplStep.a x0))) (
  gd (decide ((ImplStep.a x0) < (((List.length (ImplEnv.gifts x1)) : Nat) : Int))) (
  some ((get (ImplEnv.gifts x1) (ImplStep.a x0)), ())))) (
  some ((ImplValue.mk (ImplStep.val_Kind x0) (ImplStep.val_Num x0) (ImplStep.val_Text x0)), ())))))

def spec_told (N : Nat) (x0 : ImplStep) (x1 : ImplEnv) : Option (ImplValue × Unit) := spec_told.B N x0 x1

def spec_eval.J15 (N : Nat) (G0 : (List (ImplStep)) × ImplEnv × ImplValue × (List (ImplValue)) × Int × Unit → Option (ImplValue × Unit)) : (List (ImplStep)) × ImplEnv × ImplValue × (List (ImplValue)) × Int × Int × ImplValue × Unit → Option (ImplValue × Unit) :=
fun (x10, x11, x12, x13, x14, x15, x16, ()) =>
 gd (decide ((0 : Int) ≤ x15)) (
 gd (decide (x15 ≤ (((List.length x13) : Nat) : Int))) (
 gd (decide (((List.length (sub x13 (0 : Int) x15)) + (List.length ([x16] : List (ImplValue)))) < 68719476736)) (
 G0 (x10, x11, x12, ((sub x13 (0 : Int) x15) ++ ([x16] : List (ImplValue))), (IntKind.i64.wrap (x14 + (1 : Int))), ()))))

def spec_eval.B0 (N : Nat) (G0 : (List (ImplStep)) × ImplEnv × ImplValue × (List (ImplValue)) × Int × Unit → Option (ImplValue × Unit)) : (List (ImplStep)) × ImplEnv × ImplValue × (List (ImplValue)) × Int × Unit → Option (ImplValue × Unit) :=
fun (x2, x3, x4, x5, x6, ()) =>
 br (decide (x6 < (((List.length x2) : Nat) : Int))) (
  gd (decide ((0 : Int) ≤ x6)) (
  gd (decide (x6 < (((List.length x2) : Nat) : Int))) (
  bnd (spec_takes N (get x2 x6)) fun r8 =>
  gd (decide ((0 : Int) ≤ x6)) (
  gd (decide (x6 < (((List.length x2) : Nat) : Int))) (
  br ((ImplStep.kind (get x2 x6)) == (5 : Int)) (
   gd (decide ((0 : Int) ≤ x6)) (
   gd (decide (x6 < (((List.length x2) : Nat) : Int))) (
   gd (decide ((0 : Int) ≤ (IntKind.i64.wrap ((((List.length x5) : Nat) : Int) - (r8).1)))) (
   gd (decide ((IntKind.i64.wrap ((((List.length x5) : Nat) : Int) - (r8).1)) < (((List.length x5) : Nat) : Int))) (
   gd (decide ((0 : Int) ≤ (IntKind.i64.wrap ((IntKind.i64.wrap ((((List.length x5) : Nat) : Int) - (r8).1)) + (1 : Int))))) (
   gd (decide ((IntKind.i64.wrap ((IntKind.i64.wrap ((((List.length x5) : Nat) : Int) - (r8).1)) + (1 : Int))) < (((List.length x5) : Nat) : Int))) (
   bnd (spec_do N (ImplStep.a (get x2 x6)) (get x5 (IntKind.i64.wrap ((((List.length x5) : Nat) : Int) - (r8).1))) (get x5 (IntKind.i64.wrap ((IntKind.i64.wrap ((((List.length x5) : Nat) : Int) - (r8).1)) + (1 : Int))))) fun r9 =>
   spec_eval.J15 N G0 (x2, x3, x4, x5, x6, (IntKind.i64.wrap ((((List.length x5) : Nat) : Int) - (r8).1)), (r9).1, ())))))))) (
   br ((ImplStep.kind (get x2 x6)) == (6 : Int)) (
   gd (decide ((0 : Int) ≤ (IntKind.i64.wrap ((IntKind.i64.wrap ((((List.length x5) : Nat) : Int) - (r8).1)) + (2 : Int))))) (
   gd (decide ((IntKind.i64.wrap ((IntKind.i64.wrap ((((List.length x5) : Nat) : Int) - (r8).1)) + (2 : Int))) < (((List.length x5) : Nat) : Int))) (
   gd (decide ((0 : Int) ≤ (IntKind.i64.wrap ((((List.length x5) : Nat) : Int) - (r8).1)))) (
   gd (decide ((IntKind.i64.wrap ((((List.length x5) : Nat) : Int) - (r8).1)) < (((List.length x5) : Nat) : Int))) (
   bnd (spec_truth N (get x5 (IntKind.i64.wrap ((((List.length x5) : Nat) : Int) - (r8).1)))) fun r17 =>
   br (r17).1 (
    gd (decide ((0 : Int) ≤ (IntKind.i64.wrap ((IntKind.i64.wrap ((((List.length x5) : Nat) : Int) - (r8).1)) + (1 : Int))))) (
    gd (decide ((IntKind.i64.wrap ((IntKind.i64.wrap ((((List.length x5) : Nat) : Int) - (r8).1)) + (1 : Int))) < (((List.length x5) : Nat) : Int))) (
    spec_eval.J15 N G0 (x2, x3, x4, x5, x6, (IntKind.i64.wrap ((((List.length x5) : Nat) : Int) - (r8).1)), (get x5 (IntKind.i64.wrap ((IntKind.i64.wrap ((((List.length x5) : Nat) : Int) - (r8).1)) + (1 : Int)))), ())))) (
    spec_eval.J15 N G0 (x2, x3, x4, x5, x6, (IntKind.i64.wrap ((((List.length x5) : Nat) : Int) - (r8).1)), (get x5 (IntKind.i64.wrap ((IntKind.i64.wrap ((((List.length x5) : Nat) : Int) - (r8).1)) + (2 : Int)))), ()))))))) (
   gd (decide ((0 : Int) ≤ x6)) (
  gd (decide (x6 < (((List.length x2) : Nat) : Int))) (
  bnd (spec_told N (get x2 x6) x3) fun r18 =>
  spec_eval.J15 N G0 (x2, x3, x4, x5, x6, (IntKind.i64.wrap ((((List.length x5) : Nat) : Int) - (r8).1)), (r18).1, ())))))))))) (
  gd (decide ((0 : Int) < (((List.length x5) : Nat) : Int))) (
 some ((get x5 (0 : Int)), ())))

def spec_eval.B (N : Nat) (E0 : (List (ImplStep)) × ImplEnv × ImplValue × (List (ImplValue)) × Int × Unit → Option (ImplValue × Unit)) (x0 : List (ImplStep)) (x1 : ImplEnv) : Option (ImplValue × Unit) :=
 E0 (x0, x1, (ImplValue.mk (0 : Int) (0 : Int) ([] : List (UInt8))), ([] : List (ImplValue)), (0 : Int), ())

def spec_eval.L0 (N : Nat) : Nat → (List (ImplStep)) × ImplEnv × ImplValue × (List (ImplValue)) × Int × Unit → Option (ImplValue × Unit)
  | 0, _ => none
  | n + 1, x => spec_eval.B0 N (spec_eval.L0 N n) x

def spec_eval (N : Nat) (x0 : List (ImplStep)) (x1 : ImplEnv) : Option (ImplValue × Unit) := spec_eval.B N (spec_eval.L0 N N) x0 x1

def spec_FormValue.B (N : Nat) (x0 : List (ImplStep)) (x1 : ImplEnv) : Option (ImplValue × Unit) :=
 bnd (spec_validEnv N x1) fun r2 =>
 br (!(r2).1) (
  some ((ImplValue.mk (0 : Int) (0 : Int) ([] : List (UInt8))), ())) (
  bnd (spec_validForm N x0 (((List.length (ImplEnv.props x1)) : Nat) : Int) (((List.length (ImplEnv.states x1)) : Nat) : Int) (((List.length (ImplEnv.turns x1)) : Nat) : Int)) fun r3 =>
 br (!(r3).1) (
  some ((ImplValue.mk (0 : Int) (0 : Int) ([] : List (UInt8))), ())) (
  bnd (spec_eval N x0 x1) fun r4 =>
 some ((r4).1, ())))

def spec_FormValue (N : Nat) (x0 : List (ImplStep)) (x1 : ImplEnv) : Option (ImplValue × Unit) := spec_FormValue.B N x0 x1

def spec_EnvOk.B (N : Nat) (x0 : ImplEnv) : Option (Bool × Unit) :=
 bnd (spec_validEnv N x0) fun r1 =>
 some ((r1).1, ())

def spec_EnvOk (N : Nat) (x0 : ImplEnv) : Option (Bool × Unit) := spec_EnvOk.B N x0

def impl_FormNeeds.B0 (N : Nat) (G0 : Int × (List (Int)) × (List (ImplStep)) × Int × Int × Unit → Option ((List (Int)) × Unit)) : Int × (List (Int)) × (List (ImplStep)) × Int × Int × Unit → Option ((List (Int)) × Unit) :=
fun (x4, x5, x6, x7, x8, ()) =>
 br (decide (x8 < x7)) (
  gd (decide ((0 : Int) ≤ x8)) (
  gd (decide (x8 < (((List.length x6) : Nat) : Int))) (
  br ((ImplStep.kind (get x6 x8)) == x4) (
   bnd (LibHas N x5 (ImplStep.a (get x6 x8))) fun r10 =>
   br (!(r10).1) (
    gd (decide (((List.length x5) + (List.length ([(ImplStep.a (get x6 x8))] : List (Int)))) < 68719476736)) (
    G0 (x4, (x5 ++ ([(ImplStep.a (get x6 x8))] : List (Int))), x6, x7, (IntKind.i64.wrap (x8 + (1 : Int))), ()))) (
    G0 (x4, x5, x6, x7, (IntKind.i64.wrap (x8 + (1 : Int))), ()))) (
   G0 (x4, x5, x6, x7, (IntKind.i64.wrap (x8 + (1 : Int))), ()))))) (
  bnd (LibSort N x5) fun r11 =>
 some ((r11).1, ()))

def impl_FormNeeds.B (N : Nat) (E0 : Int × (List (Int)) × (List (ImplStep)) × Int × Int × Unit → Option ((List (Int)) × Unit)) (x0 : List (ImplStep)) (x1 : Int) : Option ((List (Int)) × Unit) :=
 bnd (impl_within N x1 (1 : Int) (4 : Int)) fun r2 =>
 br (!(r2).1) (
  some (([] : List (Int)), ())) (
  bnd (impl_FormOk N x0 (3 : Int) (3 : Int) (4 : Int)) fun r3 =>
 br (!(r3).1) (
  some (([] : List (Int)), ())) (
  E0 (x1, ([] : List (Int)), x0, (((List.length x0) : Nat) : Int), (0 : Int), ())))

def impl_FormNeeds.L0 (N : Nat) : Nat → Int × (List (Int)) × (List (ImplStep)) × Int × Int × Unit → Option ((List (Int)) × Unit)
  | 0, _ => none
  | n + 1, x => impl_FormNeeds.B0 N (impl_FormNeeds.L0 N n) x

def impl_FormNeeds (N : Nat) (x0 : List (ImplStep)) (x1 : Int) : Option ((List (Int)) × Unit) := impl_FormNeeds.B N (impl_FormNeeds.L0 N N) x0 x1

def spec_hasInt.B0 (N : Nat) (G0 : (List (Int)) × Int × Int × Unit → Option (Bool × Unit)) : (List (Int)) × Int × Int × Unit → Option (Bool × Unit) :=
fun (x2, x3, x4, ()) =>
 br (decide (x4 < (((List.length x2) : Nat) : Int))) (
  gd (decide ((0 : Int) ≤ x4)) (
  gd (decide (x4 < (((List.length x2) : Nat) : Int))) (
  br ((get x2 x4) == x3) (
   some (true, ())) (
   G0 (x2, x3, (IntKind.i64.wrap (x4 + (1 : Int))), ()))))) (
  some (false, ()))

def spec_hasInt.B (N : Nat) (E0 : (List (Int)) × Int × Int × Unit → Option (Bool × Unit)) (x0 : List (Int)) (x1 : Int) : Option (Bool × Unit) :=
 E0 (x0, x1, (0 : Int), ())

def spec_hasInt.L0 (N : Nat) : Nat → (List (Int)) × Int × Int × Unit → Option (Bool × Unit)
  | 0, _ => none
  | n + 1, x => spec_hasInt.B0 N (spec_hasInt.L0 N n) x

def spec_hasInt (N : Nat) (x0 : List (Int)) (x1 : Int) : Option (Bool × Unit) := spec_hasInt.B N (spec_hasInt.L0 N N) x0 x1

def spec_Kept.J8 (N : Nat) (G0 : (List (ImplValue)) × (List (Int)) × (List (ImplValue)) × Int × Unit → Option ((List (ImplValue)) × Unit)) : (List (ImplValue)) × (List (Int)) × (List (ImplValue)) × Int × ImplValue × Unit → Option ((List (ImplValue)) × Unit) :=
fun (x8, x9, x10, x11, x12, ()) =>
 gd (decide (((List.length x10) + (List.length ([x12] : List (ImplValue)))) < 68719476736)) (
 G0 (x8, x9, (x10 ++ ([x12] : List (ImplValue))), (IntKind.i64.wrap (x11 + (1 : Int))), ()))

def spec_Kept.B0 (N : Nat) (G0 : (List (ImplValue)) × (List (Int)) × (List (ImplValue)) × Int × Unit → Option ((List (ImplValue)) × Unit)) : (List (ImplValue)) × (List (Int)) × (List (ImplValue)) × Int × Unit → Option ((List (ImplValue)) × Unit) :=
fun (x2, x3, x4, x5, ()) =>
 br (decide (x5 < (((List.length x2) : Nat) : Int))) (
  bnd (spec_hasInt N x3 x5) fun r7 =>
  br (r7).1 (
   gd (decide ((0 : Int) ≤ x5)) (
   gd (decide (x5 < (((List.length x2) : Nat) : Int))) (
   spec_Kept.J8 N G0 (x2, x3, x4, x5, (get x2 x5), ())))) (
   spec_Kept.J8 N G0 (x2, x3, x4, x5, (ImplValue.mk (0 : Int) (0 : Int) ([] : List (UInt8))), ()))) (
  some (x4, ()))

def spec_Kept.B (N : Nat) (E0 : (List (ImplValue)) × (List (Int)) × (List (ImplValue)) × Int × Unit → Option ((List (ImplValue)) × Unit)) (x0 : List (ImplValue)) (x1 : List (Int)) : Option ((List (ImplValue)) × Unit) :=
 E0 (x0, x1, ([] : List (ImplValue)), (0 : Int), ())

def spec_Kept.L0 (N : Nat) : Nat → (List (ImplValue)) × (List (Int)) × (List (ImplValue)) × Int × Unit → Option ((List (ImplValue)) × Unit)
  | 0, _ => none
  | n + 1, x => spec_Kept.B0 N (spec_Kept.L0 N n) x

def spec_Kept (N : Nat) (x0 : List (ImplValue)) (x1 : List (Int)) : Option ((List (ImplValue)) × Unit) := spec_Kept.B N (spec_Kept.L0 N N) x0 x1

def laws_FnFormValue.B (N : Nat) (x0 : List (Int)) : Option (Bool × Unit) :=
 br (decide ((((List.length x0) : Nat) : Int) > (1048576 : Int))) (
  some (true, ())) (
  bnd (spec_DrawFormValue N x0) fun r1 =>
 bnd (impl_FormValue N (r1).1 ((r1).2).1) fun r2 =>
 bnd (spec_FormValue N (r1).1 ((r1).2).1) fun r3 =>
 br (!(((ImplValue.kind (r2).1) == (ImplValue.kind (r3).1)) && (((ImplValue.num (r2).1) == (ImplValue.num (r3).1)) && ((ImplValue.text (r2).1) == (ImplValue.text (r3).1))))) (
  some ((((ImplValue.kind (r2).1) == (ImplValue.kind (r3).1)) && (((ImplValue.num (r2).1) == (ImplValue.num (r3).1)) && ((ImplValue.text (r2).1) == (ImplValue.text (r3).1)))), ())) (
  bnd (impl_FormOk N (r1).1 (((List.length (ImplEnv.props ((r1).2).1)) : Nat) : Int) (((List.length (ImplEnv.states ((r1).2).1)) : Nat) : Int) (((List.length (ImplEnv.turns ((r1).2).1)) : Nat) : Int)) fun r4 =>
 br (!(r4).1) (
  some ((((ImplValue.kind (r2).1) == (ImplValue.kind (r3).1)) && (((ImplValue.num (r2).1) == (ImplValue.num (r3).1)) && ((ImplValue.text (r2).1) == (ImplValue.text (r3).1)))), ())) (
  br ((((List.length (ImplEnv.gifts ((r1).2).1)) : Nat) : Int) != (2 : Int)) (
  some ((((ImplValue.kind (r2).1) == (ImplValue.kind (r3).1)) && (((ImplValue.num (r2).1) == (ImplValue.num (r3).1)) && ((ImplValue.text (r2).1) == (ImplValue.text (r3).1)))), ())) (
  bnd (spec_EnvOk N ((r1).2).1) fun r5 =>
 br (!(r5).1) (
  some ((((ImplValue.kind (r2).1) == (ImplValue.kind (r3).1)) && (((ImplValue.num (r2).1) == (ImplValue.num (r3).1)) && ((ImplValue.text (r2).1) == (ImplValue.text (r3).1)))), ())) (
  bnd (impl_FormNeeds N (r1).1 (1 : Int)) fun r6 =>
 bnd (spec_Kept N (ImplEnv.props ((r1).2).1) (r6).1) fun r7 =>
 bnd (impl_ValOk N (r2).1) fun r8 =>
 br (r8).1 (
  bnd (impl_FormValue N (r1).1 (ImplEnv.mk (r7).1 (ImplEnv.states ((r1).2).1) (ImplEnv.turns ((r1).2).1) (ImplEnv.gifts ((r1).2).1))) fun r9 =>
  some ((((ImplValue.kind (r9).1) == (ImplValue.kind (r2).1)) && (((ImplValue.num (r9).1) == (ImplValue.num (r2).1)) && ((ImplValue.text (r9).1) == (ImplValue.text (r2).1)))), ())) (
  some (false, ())))))))

def laws_FnFormValue (N : Nat) (x0 : List (Int)) : Option (Bool × Unit) := laws_FnFormValue.B N x0

end
end Go.Ev
