/- The functions that the law reaches, written as plain functions; nothing is claimed here. -/
import Derived.Test.YtadoojpcjfglgaaGreatDoorEvE
set_option linter.all false
set_option linter.unusedVariables false
set_option linter.unusedSimpArgs false
/- F -/
set_option maxRecDepth 10000
namespace Go.Ev
noncomputable section
def spec_inRange.B (N : Nat) (x0 : Int) (x1 : Int) (x2 : Int) : Option (Bool × Unit) :=
 br (decide (x0 ≥ x1)) (
  some ((decide (x0 ≤ x2)), ())) (
  some (false, ()))

def spec_inRange (N : Nat) (x0 : Int) (x1 : Int) (x2 : Int) : Option (Bool × Unit) := spec_inRange.B N x0 x1 x2

def spec_plainByte.B (N : Nat) (x0 : Int) : Option (Bool × Unit) :=
 br (decide (x0 ≥ (97 : Int))) (
  br (decide (x0 ≤ (122 : Int))) (
   some (true, ())) (
   br (decide (x0 ≥ (48 : Int))) (
   br (decide (x0 ≤ (57 : Int))) (
    some (true, ())) (
    some ((x0 == (32 : Int)), ()))) (
   some ((x0 == (32 : Int)), ())))) (
  br (decide (x0 ≥ (48 : Int))) (
  br (decide (x0 ≤ (57 : Int))) (
   some (true, ())) (
   some ((x0 == (32 : Int)), ()))) (
  some ((x0 == (32 : Int)), ())))

def spec_plainByte (N : Nat) (x0 : Int) : Option (Bool × Unit) := spec_plainByte.B N x0

def spec_validWord.B0 (N : Nat) (G0 : (List UInt8) × Int × Unit → Option (Bool × Unit)) : (List UInt8) × Int × Unit → Option (Bool × Unit) :=
fun (x1, x2, ()) =>
 br (decide (x2 < (((List.length x1) : Nat) : Int))) (
  gd (decide ((0 : Int) ≤ x2)) (
  gd (decide (x2 < (((List.length x1) : Nat) : Int))) (
  bnd (spec_plainByte N (((UInt8.toNat (List.getD x1 (Int.toNat x2) 0)) : Nat) : Int)) fun r4 =>
  br (!(r4).1) (
   some (false, ())) (
   G0 (x1, (IntKind.i64.wrap (x2 + (1 : Int))), ()))))) (
  some (true, ()))

def spec_validWord.B (N : Nat) (E0 : (List UInt8) × Int × Unit → Option (Bool × Unit)) (x0 : List UInt8) : Option (Bool × Unit) :=
 br (decide ((((List.length x0) : Nat) : Int) > (12 : Int))) (
  some (false, ())) (
  E0 (x0, (0 : Int), ()))

def spec_validWord.L0 (N : Nat) : Nat → (List UInt8) × Int × Unit → Option (Bool × Unit)
  | 0, _ => none
  | n + 1, x => spec_validWord.B0 N (spec_validWord.L0 N n) x

def spec_validWord (N : Nat) (x0 : List UInt8) : Option (Bool × Unit) := spec_validWord.B N (spec_validWord.L0 N N) x0

def spec_validValue.B (N : Nat) (x0 : ImplValue) : Option (Bool × Unit) :=
 br ((ImplValue.kind x0) == (0 : Int)) (
  br ((ImplValue.num x0) == (0 : Int)) (
   some (((ImplValue.text x0) == ([] : List (UInt8))), ())) (
   some (false, ()))) (
  br ((ImplValue.kind x0) == (1 : Int)) (
  bnd (spec_inRange N (ImplValue.num x0) (-(1000 : Int)) (1000 : Int)) fun r1 =>
  br (r1).1 (
   some (((ImplValue.text x0) == ([] : List (UInt8))), ())) (
   some (false, ()))) (
  br ((ImplValue.kind x0) == (2 : Int)) (
  br ((ImplValue.num x0) == (0 : Int)) (
   bnd (spec_validWord N (ImplValue.text x0)) fun r2 =>
   some ((r2).1, ())) (
   some (false, ()))) (
  some (false, ()))))

def spec_validValue (N : Nat) (x0 : ImplValue) : Option (Bool × Unit) := spec_validValue.B N x0

def spec_validSlot.B (N : Nat) (x0 : ImplSlot) : Option (Bool × Unit) :=
 bnd (spec_inRange N (ImplSlot.pos x0) (0 : Int) (3 : Int)) fun r1 =>
 br (r1).1 (
  bnd (spec_inRange N (ImplSlot.sub x0) (0 : Int) (103 : Int)) fun r2 =>
  some ((r2).1, ())) (
  some (false, ()))

def spec_validSlot (N : Nat) (x0 : ImplSlot) : Option (Bool × Unit) := spec_validSlot.B N x0

def spec_validPlace.B0 (N : Nat) (G0 : (List (ImplSlot)) × Int × Unit → Option (Bool × Unit)) : (List (ImplSlot)) × Int × Unit → Option (Bool × Unit) :=
fun (x1, x2, ()) =>
 br (decide (x2 < (((List.length x1) : Nat) : Int))) (
  gd (decide ((0 : Int) ≤ x2)) (
  gd (decide (x2 < (((List.length x1) : Nat) : Int))) (
  bnd (spec_validSlot N (get x1 x2)) fun r4 =>
  br (!(r4).1) (
   some (false, ())) (
   G0 (x1, (IntKind.i64.wrap (x2 + (1 : Int))), ()))))) (
  some (true, ()))

def spec_validPlace.B (N : Nat) (E0 : (List (ImplSlot)) × Int × Unit → Option (Bool × Unit)) (x0 : List (ImplSlot)) : Option (Bool × Unit) :=
 br (decide ((((List.length x0) : Nat) : Int) > (20 : Int))) (
  some (false, ())) (
  E0 (x0, (0 : Int), ()))

def spec_validPlace.L0 (N : Nat) : Nat → (List (ImplSlot)) × Int × Unit → Option (Bool × Unit)
  | 0, _ => none
  | n + 1, x => spec_validPlace.B0 N (spec_validPlace.L0 N n) x

def spec_validPlace (N : Nat) (x0 : List (ImplSlot)) : Option (Bool × Unit) := spec_validPlace.B N (spec_validPlace.L0 N N) x0

def spec_comparePlaces.B0 (N : Nat) (G0 : (List (ImplSlot)) × (List (ImplSlot)) × Int × Unit → Option (Int × Unit)) : (List (ImplSlot)) × (List (ImplSlot)) × Int × Unit → Option (Int × Unit) :=
fun (x2, x3, x4, ()) =>
 br (decide (x4 < (((List.length x2) : Nat) : Int))) (
  br (decide (x4 < (((List.length x3) : Nat) : Int))) (
   gd (decide ((0 : Int) ≤ x4)) (
   gd (decide (x4 < (((List.length x2) : Nat) : Int))) (
   gd (decide ((0 : Int) ≤ x4)) (
   gd (decide (x4 < (((List.length x3) : Nat) : Int))) (
   br (decide ((ImplSlot.pos (get x2 x4)) < (ImplSlot.pos (get x3 x4)))) (
    br (decide ((ImplSlot.pos (get x2 x4)) < (ImplSlot.pos (get x3 x4)))) (
     some ((-(1 : Int)), ())) (
     gd (decide ((0 : Int) ≤ x4)) (
    gd (decide (x4 < (((List.length x2) : Nat) : Int))) (
    gd (decide ((0 : Int) ≤ x4)) (
    gd (decide (x4 < (((List.length x3) : Nat) : Int))) (
    br (!(((ImplSlot.pos (get x2 x4)) == (ImplSlot.pos (get x3 x4))) && ((ImplSlot.sub (get x2 x4)) == (ImplSlot.sub (get x3 x4))))) (
     some ((1 : Int), ())) (
     G0 (x2, x3, (IntKind.i64.wrap (x4 + (1 : Int))), ())))))))) (
    gd (decide ((0 : Int) ≤ x4)) (
   gd (decide (x4 < (((List.length x2) : Nat) : Int))) (
   gd (decide ((0 : Int) ≤ x4)) (
   gd (decide (x4 < (((List.length x3) : Nat) : Int))) (
   br ((ImplSlot.pos (get x2 x4)) == (ImplSlot.pos (get x3 x4))) (
    gd (decide ((0 : Int) ≤ x4)) (
    gd (decide (x4 < (((List.length x2) : Nat) : Int))) (
    gd (decide ((0 : Int) ≤ x4)) (
    gd (decide (x4 < (((List.length x3) : Nat) : Int))) (
    br (decide ((ImplSlot.sub (get x2 x4)) < (ImplSlot.sub (get x3 x4)))) (
     some ((-(1 : Int)), ())) (
     gd (decide ((0 : Int) ≤ x4)) (
    gd (decide (x4 < (((List.length x2) : Nat) : Int))) (
    gd (decide ((0 : Int) ≤ x4)) (
    gd (decide (x4 < (((List.length x3) : Nat) : Int))) (
    br (!(((ImplSlot.pos (get x2 x4)) == (ImplSlot.pos (get x3 x4))) && ((ImplSlot.sub (get x2 x4)) == (ImplSlot.sub (get x3 x4))))) (
     some ((1 : Int), ())) (
     G0 (x2, x3, (IntKind.i64.wrap (x4 + (1 : Int))), ())))))))))))) (
    gd (decide ((0 : Int) ≤ x4)) (
   gd (decide (x4 < (((List.length x2) : Nat) : Int))) (
   gd (decide ((0 : Int) ≤ x4)) (
   gd (decide (x4 < (((List.length x3) : Nat) : Int))) (
   br (!(((ImplSlot.pos (get x2 x4)) == (ImplSlot.pos (get x3 x4))) && ((ImplSlot.sub (get x2 x4)) == (ImplSlot.sub (get x3 x4))))) (
    some ((1 : Int), ())) (
    G0 (x2, x3, (IntKind.i64.wrap (x4 + (1 : Int))), ()))))))))))))))))) (
   br (decide ((((List.length x2) : Nat) : Int) < (((List.length x3) : Nat) : Int))) (
   some ((-(1 : Int)), ())) (
   br (decide ((((List.length x2) : Nat) : Int) > (((List.length x3) : Nat) : Int))) (
   some ((1 : Int), ())) (
   some ((0 : Int), ()))))) (
  br (decide ((((List.length x2) : Nat) : Int) < (((List.length x3) : Nat) : Int))) (
  some ((-(1 : Int)), ())) (
  br (decide ((((List.length x2) : Nat) : Int) > (((List.length x3) : Nat) : Int))) (
  some ((1 : Int), ())) (
  some ((0 : Int), ()))))

def spec_comparePlaces.B (N : Nat) (E0 : (List (ImplSlot)) × (List (ImplSlot)) × Int × Unit → Option (Int × Unit)) (x0 : List (ImplSlot)) (x1 : List (ImplSlot)) : Option (Int × Unit) :=
 E0 (x0, x1, (0 : Int), ())

def spec_comparePlaces.L0 (N : Nat) : Nat → (List (ImplSlot)) × (List (ImplSlot)) × Int × Unit → Option (Int × Unit)
  | 0, _ => none
  | n + 1, x => spec_comparePlaces.B0 N (spec_comparePlaces.L0 N n) x

def spec_comparePlaces (N : Nat) (x0 : List (ImplSlot)) (x1 : List (ImplSlot)) : Option (Int × Unit) := spec_comparePlaces.B N (spec_comparePlaces.L0 N N) x0 x1

def spec_cellAt.B0 (N : Nat) (G0 : (List (ImplCell)) × (List (ImplSlot)) × Int × Unit → Option (Int × Bool × Unit)) : (List (ImplCell)) × (List (ImplSlot)) × Int × Unit → Option (Int × Bool × Unit) :=
fun (x2, x3, x4, ()) =>
 br (decide (x4 < (((List.length x2) : Nat) : Int))) (
  gd (decide ((0 : Int) ≤ x4)) (
  gd (decide (x4 < (((List.length x2) : Nat) : Int))) (
  bnd (spec_comparePlaces N (ImplCell.place (get x2 x4)) x3) fun r6 =>
  br (decide ((r6).1 < (0 : Int))) (
   G0 (x2, x3, (IntKind.i64.wrap (x4 + (1 : Int))), ())) (
   br (decide (x4 < (((List.length x2) : Nat) : Int))) (
   gd (decide ((0 : Int) ≤ x4)) (
   gd (decide (x4 < (((List.length x2) : Nat) : Int))) (
   bnd (spec_comparePlaces N (ImplCell.place (get x2 x4)) x3) fun r7 =>
   some (x4, ((r7).1 == (0 : Int)), ())))) (
   some (x4, false, ())))))) (
  br (decide (x4 < (((List.length x2) : Nat) : Int))) (
  gd (decide ((0 : Int) ≤ x4)) (
  gd (decide (x4 < (((List.length x2) : Nat) : Int))) (
  bnd (spec_comparePlaces N (ImplCell.place (get x2 x4)) x3) fun r8 =>
  some (x4, ((r8).1 == (0 : Int)), ())))) (
  some (x4, false, ())))

def spec_cellAt.B (N : Nat) (E0 : (List (ImplCell)) × (List (ImplSlot)) × Int × Unit → Option (Int × Bool × Unit)) (x0 : List (ImplCell)) (x1 : List (ImplSlot)) : Option (Int × Bool × Unit) :=
 E0 (x0, x1, (0 : Int), ())

def spec_cellAt.L0 (N : Nat) : Nat → (List (ImplCell)) × (List (ImplSlot)) × Int × Unit → Option (Int × Bool × Unit)
  | 0, _ => none
  | n + 1, x => spec_cellAt.B0 N (spec_cellAt.L0 N n) x

def spec_cellAt (N : Nat) (x0 : List (ImplCell)) (x1 : List (ImplSlot)) : Option (Int × Bool × Unit) := spec_cellAt.B N (spec_cellAt.L0 N N) x0 x1

def spec_copyCell.B (N : Nat) (x0 : ImplCell) : Option (ImplCell × Unit) :=
 gd (decide (((List.length ([] : List (ImplSlot))) + (List.length (ImplCell.place x0))) < 68719476736)) (
 gd (decide (((List.length ([] : List (ImplValue))) + (List.length (ImplCell.states x0))) < 68719476736)) (
 some ((ImplCell.mk (([] : List (ImplSlot)) ++ (ImplCell.place x0)) (([] : List (ImplValue)) ++ (ImplCell.states x0))), ())))

def spec_copyCell (N : Nat) (x0 : ImplCell) : Option (ImplCell × Unit) := spec_copyCell.B N x0

def spec_copyStore.B0 (N : Nat) (G0 : (List (ImplCell)) × (List (ImplCell)) × Int × Unit → Option ((List (ImplCell)) × Unit)) : (List (ImplCell)) × (List (ImplCell)) × Int × Unit → Option ((List (ImplCell)) × Unit) :=
fun (x1, x2, x3, ()) =>
 br (decide (x3 < (((List.length x1) : Nat) : Int))) (
  gd (decide ((0 : Int) ≤ x3)) (
  gd (decide (x3 < (((List.length x1) : Nat) : Int))) (
  bnd (spec_copyCell N (get x1 x3)) fun r5 =>
  gd (decide (((List.length x2) + (List.length ([(r5).1] : List (ImplCell)))) < 68719476736)) (
  G0 (x1, (x2 ++ ([(r5).1] : List (ImplCell))), (IntKind.i64.wrap (x3 + (1 : Int))), ()))))) (
  some (x2, ()))

def spec_copyStore.B (N : Nat) (E0 : (List (ImplCell)) × (List (ImplCell)) × Int × Unit → Option ((List (ImplCell)) × Unit)) (x0 : List (ImplCell)) : Option ((List (ImplCell)) × Unit) :=
 E0 (x0, ([] : List (ImplCell)), (0 : Int), ())

def spec_copyStore.L0 (N : Nat) : Nat → (List (ImplCell)) × (List (ImplCell)) × Int × Unit → Option ((List (ImplCell)) × Unit)
  | 0, _ => none
  | n + 1, x => spec_copyStore.B0 N (spec_copyStore.L0 N n) x

def spec_copyStore (N : Nat) (x0 : List (ImplCell)) : Option ((List (ImplCell)) × Unit) := spec_copyStore.B N (spec_copyStore.L0 N N) x0

def spec_validValues.B0 (N : Nat) (G0 : (List (ImplValue)) × Int × Unit → Option (Bool × Unit)) : (List (ImplValue)) × Int × Unit → Option (Bool × Unit) :=
fun (x1, x2, ()) =>
 br (decide (x2 < (((List.length x1) : Nat) : Int))) (
  gd (decide ((0 : Int) ≤ x2)) (
  gd (decide (x2 < (((List.length x1) : Nat) : Int))) (
  bnd (spec_validValue N (get x1 x2)) fun r4 =>
  br (!(r4).1) (
   some (false, ())) (
   G0 (x1, (IntKind.i64.wrap (x2 + (1 : Int))), ()))))) (
  some (true, ()))

def spec_validValues.B (N : Nat) (E0 : (List (ImplValue)) × Int × Unit → Option (Bool × Unit)) (x0 : List (ImplValue)) : Option (Bool × Unit) :=
 E0 (x0, (0 : Int), ())

def spec_validValues.L0 (N : Nat) : Nat → (List (ImplValue)) × Int × Unit → Option (Bool × Unit)
  | 0, _ => none
  | n + 1, x => spec_validValues.B0 N (spec_validValues.L0 N n) x

def spec_validValues (N : Nat) (x0 : List (ImplValue)) : Option (Bool × Unit) := spec_validValues.B N (spec_validValues.L0 N N) x0

def spec_validStore.B0 (N : Nat) (G0 : (List (ImplCell)) × Int × Unit → Option (Bool × Unit)) : (List (ImplCell)) × Int × Unit → Option (Bool × Unit) :=
fun (x1, x2, ()) =>
 br (decide (x2 < (((List.length x1) : Nat) : Int))) (
  gd (decide ((0 : Int) ≤ x2)) (
  gd (decide (x2 < (((List.length x1) : Nat) : Int))) (
  bnd (spec_validPlace N (ImplCell.place (get x1 x2))) fun r4 =>
  br (!(r4).1) (
   some (false, ())) (
   gd (decide ((0 : Int) ≤ x2)) (
  gd (decide (x2 < (((List.length x1) : Nat) : Int))) (
  br (decide ((((List.length (ImplCell.states (get x1 x2))) : Nat) : Int) > (3 : Int))) (
   some (false, ())) (
   gd (decide ((0 : Int) ≤ x2)) (
  gd (decide (x2 < (((List.length x1) : Nat) : Int))) (
  bnd (spec_validValues N (ImplCell.states (get x1 x2))) fun r5 =>
  br (!(r5).1) (
   some (false, ())) (
   br (decide (x2 > (0 : Int))) (
   gd (decide ((0 : Int) ≤ (IntKind.i64.wrap (x2 - (1 : Int))))) (
   gd (decide ((IntKind.i64.wrap (x2 - (1 : Int))) < (((List.length x1) : Nat) : Int))) (
   gd (decide ((0 : Int) ≤ x2)) (
   gd (decide (x2 < (((List.length x1) : Nat) : Int))) (
   bnd (spec_comparePlaces N (ImplCell.place (get x1 (IntKind.i64.wrap (x2 - (1 : Int))))) (ImplCell.place (get x1 x2))) fun r6 =>
   br (decide ((r6).1 ≥ (0 : Int))) (
    some (false, ())) (
    G0 (x1, (IntKind.i64.wrap (x2 + (1 : Int))), ()))))))) (
   G0 (x1, (IntKind.i64.wrap (x2 + (1 : Int))), ())))))))))))) (
  some (true, ()))

def spec_validStore.B (N : Nat) (E0 : (List (ImplCell)) × Int × Unit → Option (Bool × Unit)) (x0 : List (ImplCell)) : Option (Bool × Unit) :=
 br (decide ((((List.length x0) : Nat) : Int) > (200 : Int))) (
  some (false, ())) (
  E0 (x0, (0 : Int), ()))

def spec_validStore.L0 (N : Nat) : Nat → (List (ImplCell)) × Int × Unit → Option (Bool × Unit)
  | 0, _ => none
  | n + 1, x => spec_validStore.B0 N (spec_validStore.L0 N n) x

def spec_validStore (N : Nat) (x0 : List (ImplCell)) : Option (Bool × Unit) := spec_validStore.B N (spec_validStore.L0 N N) x0

def spec_validStep.B (N : Nat) (x0 : ImplStep) (x1 : Int) (x2 : Int) (x3 : Int) : Option (Bool × Unit) :=
 br ((ImplStep.kind x0) == (0 : Int)) (
  br ((ImplStep.a x0) == (0 : Int)) (
   bnd (spec_validValue N (ImplValue.mk (ImplStep.val_Kind x0) (ImplStep.val_Num x0) (ImplStep.val_Text x0))) fun r4 =>
   some ((r4).1, ())) (
   some (false, ()))) (
  br ((ImplStep.kind x0) == (1 : Int)) (
  bnd (spec_inRange N (ImplStep.a x0) (0 : Int) (IntKind.i64.wrap (x1 - (1 : Int)))) fun r5 =>
  br (r5).1 (
   some ((((ImplStep.val_Kind x0) == (0 : Int)) && (((ImplStep.val_Num x0) == (0 : Int)) && ((ImplStep.val_Text x0) == ([] : List (UInt8))))), ())) (
   some (false, ()))) (
  br ((ImplStep.kind x0) == (2 : Int)) (
  bnd (spec_inRange N (ImplStep.a x0) (0 : Int) (IntKind.i64.wrap (x2 - (1 : Int)))) fun r6 =>
  br (r6).1 (
   some ((((ImplStep.val_Kind x0) == (0 : Int)) && (((ImplStep.val_Num x0) == (0 : Int)) && ((ImplStep.val_Text x0) == ([] : List (UInt8))))), ())) (
   some (false, ()))) (
  br ((ImplStep.kind x0) == (3 : Int)) (
  bnd (spec_inRange N (ImplStep.a x0) (0 : Int) (IntKind.i64.wrap (x3 - (1 : Int)))) fun r7 =>
  br (r7).1 (
   some ((((ImplStep.val_Kind x0) == (0 : Int)) && (((ImplStep.val_Num x0) == (0 : Int)) && ((ImplStep.val_Text x0) == ([] : List (UInt8))))), ())) (
   some (false, ()))) (
  br ((ImplStep.kind x0) == (4 : Int)) (
  bnd (spec_inRange N (ImplStep.a x0) (0 : Int) (1 : Int)) fun r8 =>
  br (r8).1 (
   some ((((ImplStep.val_Kind x0) == (0 : Int)) && (((ImplStep.val_Num x0) == (0 : Int)) && ((ImplStep.val_Text x0) == ([] : List (UInt8))))), ())) (
   some (false, ()))) (
  br ((ImplStep.kind x0) == (5 : Int)) (
  bnd (spec_inRange N (ImplStep.a x0) (0 : Int) (6 : Int)) fun r9 =>
  br (r9).1 (
   some ((((ImplStep.val_Kind x0) == (0 : Int)) && (((ImplStep.val_Num x0) == (0 : Int)) && ((ImplStep.val_Text x0) == ([] : List (UInt8))))), ())) (
   some (false, ()))) (
  br ((ImplStep.kind x0) == (6 : Int)) (
  br ((ImplStep.a x0) == (0 : Int)) (
   some ((((ImplStep.val_Kind x0) == (0 : Int)) && (((ImplStep.val_Num x0) == (0 : Int)) && ((ImplStep.val_Text x0) == ([] : List (UInt8))))), ())) (
   some (false, ()))) (
  some (false, ()))))))))

def spec_validStep (N : Nat) (x0 : ImplStep) (x1 : Int) (x2 : Int) (x3 : Int) : Option (Bool × Unit) := spec_validStep.B N x0 x1 x2 x3

def spec_takes.B (N : Nat) (x0 : ImplStep) : Option (Int × Unit) :=
 br ((ImplStep.kind x0) == (5 : Int)) (
  some ((2 : Int), ())) (
  br ((ImplStep.kind x0) == (6 : Int)) (
  some ((3 : Int), ())) (
  some ((0 : Int), ())))

def spec_takes (N : Nat) (x0 : ImplStep) : Option (Int × Unit) := spec_takes.B N x0

def spec_validForm.B0 (N : Nat) (G0 : (List (ImplStep)) × Int × Int × Int × Int × Int × Unit → Option (Bool × Unit)) : (List (ImplStep)) × Int × Int × Int × Int × Int × Unit → Option (Bool × Unit) :=
fun (x4, x5, x6, x7, x8, x9, ()) =>
 br (decide (x9 < (((List.length x4) : Nat) : Int))) (
  gd (decide ((0 : Int) ≤ x9)) (
  gd (decide (x9 < (((List.length x4) : Nat) : Int))) (
  bnd (spec_validStep N (get x4 x9) x5 x6 x7) fun r11 =>
  br (!(r11).1) (
   some (false, ())) (
   gd (decide ((0 : Int) ≤ x9)) (
  gd (decide (x9 < (((List.length x4) : Nat) : Int))) (
  bnd (spec_takes N (get x4 x9)) fun r12 =>
  br (decide (x8 < (r12).1)) (
   some (false, ())) (
   gd (decide ((0 : Int) ≤ x9)) (
  gd (decide (x9 < (((List.length x4) : Nat) : Int))) (
  bnd (spec_takes N (get x4 x9)) fun r13 =>
  G0 (x4, x5, x6, x7, (IntKind.i64.wrap ((IntKind.i64.wrap (x8 - (r13).1)) + (1 : Int))), (IntKind.i64.wrap (x9 + (1 : Int))), ())))))))))) (
  some ((x8 == (1 : Int)), ()))

def spec_validForm.B (N : Nat) (E0 : (List (ImplStep)) × Int × Int × Int × Int × Int × Unit → Option (Bool × Unit)) (x0 : List (ImplStep)) (x1 : Int) (x2 : Int) (x3 : Int) : Option (Bool × Unit) :=
 br (decide ((((List.length x0) : Nat) : Int) > (9 : Int))) (
  some (false, ())) (
  E0 (x0, x1, x2, x3, (0 : Int), (0 : Int), ()))

def spec_validForm.L0 (N : Nat) : Nat → (List (ImplStep)) × Int × Int × Int × Int × Int × Unit → Option (Bool × Unit)
  | 0, _ => none
  | n + 1, x => spec_validForm.B0 N (spec_validForm.L0 N n) x

def spec_validForm (N : Nat) (x0 : List (ImplStep)) (x1 : Int) (x2 : Int) (x3 : Int) : Option (Bool × Unit) := spec_validForm.B N (spec_validForm.L0 N N) x0 x1 x2 x3

def spec_validUpdate.B (N : Nat) (x0 : ImplUpdate) : Option (Bool × Unit) :=
 bnd (spec_validPlace N (ImplUpdate.place x0)) fun r1 =>
 br (r1).1 (
  bnd (spec_inRange N (ImplUpdate.state x0) (0 : Int) (2 : Int)) fun r2 =>
  br (r2).1 (
   bnd (spec_inRange N (ImplUpdate.lane x0) (-(1 : Int)) (2 : Int)) fun r3 =>
   br (r3).1 (
    bnd (spec_validForm N (ImplUpdate.form x0) (0 : Int) (3 : Int) (0 : Int)) fun r4 =>
    some ((r4).1, ())) (
    some (false, ()))) (
   some (false, ()))) (
  some (false, ()))

def spec_validUpdate (N : Nat) (x0 : ImplUpdate) : Option (Bool × Unit) := spec_validUpdate.B N x0

def spec_validUpdates.B0 (N : Nat) (G0 : (List (ImplUpdate)) × Int × Unit → Option (Bool × Unit)) : (List (ImplUpdate)) × Int × Unit → Option (Bool × Unit) :=
fun (x1, x2, ()) =>
 br (decide (x2 < (((List.length x1) : Nat) : Int))) (
  gd (decide ((0 : Int) ≤ x2)) (
  gd (decide (x2 < (((List.length x1) : Nat) : Int))) (
  bnd (spec_validUpdate N (get x1 x2)) fun r4 =>
  br (!(r4).1) (
   some (false, ())) (
   G0 (x1, (IntKind.i64.wrap (x2 + (1 : Int))), ()))))) (
  some (true, ()))

def spec_validUpdates.B (N : Nat) (E0 : (List (ImplUpdate)) × Int × Unit → Option (Bool × Unit)) (x0 : List (ImplUpdate)) : Option (Bool × Unit) :=
 br (decide ((((List.length x0) : Nat) : Int) > (40 : Int))) (
  some (false, ())) (
  E0 (x0, (0 : Int), ()))

def spec_validUpdates.L0 (N : Nat) : Nat → (List (ImplUpdate)) × Int × Unit → Option (Bool × Unit)
  | 0, _ => none
  | n + 1, x => spec_validUpdates.B0 N (spec_validUpdates.L0 N n) x

def spec_validUpdates (N : Nat) (x0 : List (ImplUpdate)) : Option (Bool × Unit) := spec_validUpdates.B N (spec_validUpdates.L0 N N) x0

def spec_applies.B (N : Nat) (x0 : List (ImplValue)) (x1 : ImplUpdate) : Option (Bool × Unit) :=
 br (decide ((ImplUpdate.state x1) < (((List.length x0) : Nat) : Int))) (
  bnd (spec_validForm N (ImplUpdate.form x1) (0 : Int) (((List.length x0) : Nat) : Int) (0 : Int)) fun r2 =>
  some ((r2).1, ())) (
  some (false, ()))

def spec_applies (N : Nat) (x0 : List (ImplValue)) (x1 : ImplUpdate) : Option (Bool × Unit) := spec_applies.B N x0 x1

def spec_number.B (N : Nat) (x0 : Int) : Option (ImplValue × Unit) :=
 bnd (spec_inRange N x0 (-(1000 : Int)) (1000 : Int)) fun r1 =>
 br (!(r1).1) (
  some ((ImplValue.mk (0 : Int) (0 : Int) ([] : List (UInt8))), ())) (
  some ((ImplValue.mk (1 : Int) x0 ([] : List (UInt8))), ()))

def spec_number (N : Nat) (x0 : Int) : Option (ImplValue × Unit) := spec_number.B N x0

def spec_boolean.B (N : Nat) (x0 : Bool) : Option (ImplValue × Unit) :=
 br x0 (
  bnd (spec_number N (1 : Int)) fun r1 =>
  some ((r1).1, ())) (
  bnd (spec_number N (0 : Int)) fun r2 =>
 some ((r2).1, ()))

def spec_boolean (N : Nat) (x0 : Bool) : Option (ImplValue × Unit) := spec_boolean.B N x0

def spec_truth.B (N : Nat) (x0 : ImplValue) : Option (Bool × Unit) :=
 br ((ImplValue.num x0) != (0 : Int)) (
  some (true, ())) (
  some ((!((ImplValue.text x0) == ([] : List (UInt8)))), ()))

def spec_truth (N : Nat) (x0 : ImplValue) : Option (Bool × Unit) := spec_truth.B N x0

def spec_decimal.B (N : Nat) (R_spec_decimal : Int → Option ((List UInt8) × Unit)) (x0 : Int) : Option ((List UInt8) × Unit) :=
 br (decide (x0 < (0 : Int))) (
  bnd (R_spec_decimal (IntKind.i64.wrap ((0 : Int) - x0))) fun r1 =>
  gd (decide (((List.length ([45] : List (UInt8))) + (List.length (r1).1)) < 68719476736)) (
  some ((([45] : List (UInt8)) ++ (r1).1), ()))) (
  br (decide (x0 < (10 : Int))) (
  gd (decide ((0 : Int) ≤ x0)) (
  gd (decide (x0 ≤ (IntKind.i64.wrap (x0 + (1 : Int))))) (
  gd (decide ((IntKind.i64.wrap (x0 + (1 : Int))) ≤ (((List.length ([48, 49, 50, 51, 52, 53, 54, 55, 56, 57] : List (UInt8))) : Nat) : Int))) (
  some ((sub ([48, 49, 50, 51, 52, 53, 54, 55, 56, 57] : List (UInt8)) x0 (IntKind.i64.wrap (x0 + (1 : Int)))), ()))))) (
  bnd (R_spec_decimal (IntKind.i64.wrap (Int.tdiv x0 (10 : Int)))) fun r2 =>
 bnd (R_spec_decimal (Int.tmod x0 (10 : Int))) fun r3 =>
 gd (decide (((List.length (r2).1) + (List.length (r3).1)) < 68719476736)) (
 some (((r2).1 ++ (r3).1), ()))))

def spec_decimal.R (N : Nat) : Nat → Int → Option ((List UInt8) × Unit)
  | 0, _ => none
  | d + 1, x0 => spec_decimal.B N (spec_decimal.R N d) x0

def spec_decimal (N : Nat) (x0 : Int) : Option ((List UInt8) × Unit) := spec_decimal.R N N x0

def spec_show.B (N : Nat) (x0 : ImplValue) : Option ((List UInt8) × Unit) :=
 br ((ImplValue.kind x0) == (1 : Int)) (
  bnd (spec_decimal N (ImplValue.num x0)) fun r1 =>
  some ((r1).1, ())) (
  br ((ImplValue.kind x0) == (2 : Int)) (
  some ((ImplValue.text x0), ())) (
  some (([] : List (UInt8)), ())))

def spec_show (N : Nat) (x0 : ImplValue) : Option ((List UInt8) × Unit) := spec_show.B N x0

def spec_do.B (N : Nat) (x0 : Int) (x1 : ImplValue) (x2 : ImplValue) : Option (ImplValue × Unit) :=
 br ((ImplValue.kind x1) == (1 : Int)) (
  br (x0 == (4 : Int)) (
   bnd (spec_boolean N (((ImplValue.kind x1) == (ImplValue.kind x2)) && (((ImplValue.num x1) == (ImplValue.num x2)) && ((ImplValue.text x1) == (ImplValue.text x2))))) fun r3 =>
   some ((r3).1, ())) (
   br (x0 == (6 : Int)) (
   bnd (spec_truth N x1) fun r4 =>
   br (r4).1 (
    some (x2, ())) (
    some (x1, ()))) (
   br (x0 == (5 : Int)) (
   bnd (spec_show N x1) fun r5 =>
   bnd (spec_show N x2) fun r6 =>
   gd (decide (((List.length (r5).1) + (List.length (r6).1)) < 68719476736)) (
   bnd (spec_validWord N ((r5).1 ++ (r6).1)) fun r7 =>
   br (!(r7).1) (
    some ((ImplValue.mk (0 : Int) (0 : Int) ([] : List (UInt8))), ())) (
    some ((ImplValue.mk (2 : Int) (0 : Int) ((r5).1 ++ (r6).1)), ())))) (
   br (!((ImplValue.kind x2) == (1 : Int))) (
   some ((ImplValue.mk (0 : Int) (0 : Int) ([] : List (UInt8))), ())) (
   br (x0 == (0 : Int)) (
   bnd (spec_number N (IntKind.i64.wrap ((ImplValue.num x1) + (ImplValue.num x2)))) fun r8 =>
   some ((r8).1, ())) (
   br (x0 == (1 : Int)) (
   bnd (spec_number N (IntKind.i64.wrap ((ImplValue.num x1) - (ImplValue.num x2)))) fun r9 =>
   some ((r9).1, ())) (
   br (x0 == (2 : Int)) (
   bnd (spec_number N (IntKind.i64.wrap ((ImplValue.num x1) * (ImplValue.num x2)))) fun r10 =>
   some ((r10).1, ())) (
   bnd (spec_boolean N (decide ((ImplValue.num x1) < (ImplValue.num x2)))) fun r11 =>
  some ((r11).1, ()))))))))) (
  br (x0 == (4 : Int)) (
  bnd (spec_boolean N (((ImplValue.kind x1) == (ImplValue.kind x2)) && (((ImplValue.num x1) == (ImplValue.num x2)) && ((ImplValue.text x1) == (ImplValue.text x2))))) fun r12 =>
  some ((r12).1, ())) (
  br (x0 == (6 : Int)) (
  bnd (spec_truth N x1) fun r13 =>
  br (r13).1 (
   some (x2, ())) (
   some (x1, ()))) (
  br (x0 == (5 : Int)) (
  bnd (spec_show N x1) fun r14 =>
  bnd (spec_show N x2) fun r15 =>
  gd (decide (((List.length (r14).1) + (List.length (r15).1)) < 68719476736)) (
  bnd (spec_validWord N ((r14).1 ++ (r15).1)) fun r16 =>
  br (!(r16).1) (
   some ((ImplValue.mk (0 : Int) (0 : Int) ([] : List (UInt8))), ())) (
   some ((ImplValue.mk (2 : Int) (0 : Int) ((r14).1 ++ (r15).1)), ())))) (
  some ((ImplValue.mk (0 : Int) (0 : Int) ([] : List (UInt8))), ())))))

def spec_do (N : Nat) (x0 : Int) (x1 : ImplValue) (x2 : ImplValue) : Option (ImplValue × Unit) := spec_do.B N x0 x1 x2

def spec_told.B (N : Nat) (x0 : ImplStep) (x1 : ImplEnv) : Option (ImplValue × Unit) :=
 br ((ImplStep.kind x0) == (1 : Int)) (
  gd (decide ((0 : Int) ≤ (ImplStep.a x0))) (
  gd (decide ((ImplStep.a x0) < (((List.length (ImplEnv.props x1)) : Nat) : Int))) (
  some ((get (ImplEnv.props x1) (ImplStep.a x0)), ())))) (
  br ((ImplStep.kind x0) == (2 : Int)) (
  gd (decide ((0 : Int) ≤ (ImplStep.a x0))) (
  gd (decide ((ImplStep.a x0) < (((List.length (ImplEnv.states x1)) : Nat) : Int))) (
  some ((get (ImplEnv.states x1) (ImplStep.a x0)), ())))) (
  br ((ImplStep.kind x0) == (3 : Int)) (
  gd (decide ((0 : Int) ≤ (IntKind.i64.wrap ((IntKind.i64.wrap ((((List.length (ImplEnv.turns x1)) : Nat) : Int) - (1 : Int))) - (ImplStep.a x0))))) (
  gd (decide ((IntKind.i64.wrap ((IntKind.i64.wrap ((((List.length (ImplEnv.turns x1)) : Nat) : Int) - (1 : Int))) - (ImplStep.a x0))) < (((List.length (ImplEnv.turns x1)) : Nat) : Int))) (
  bnd (spec_number N (get (ImplEnv.turns x1) (IntKind.i64.wrap ((IntKind.i64.wrap ((((List.length (ImplEnv.turns x1)) : Nat) : Int) - (1 : Int))) - (ImplStep.a x0))))) fun r2 =>
  some ((r2).1, ())))) (
  br ((ImplStep.kind x0) == (4 : Int)) (
  gd (decide ((0 : Int) ≤ (ImplStep.a x0))) (
  gd (decide ((ImplStep.a x0) < (((List.length (ImplEnv.gifts x1)) : Nat) : Int))) (
  some ((get (ImplEnv.gifts x1) (ImplStep.a x0)), ())))) (
  some ((ImplValue.mk (ImplStep.val_Kind x0) (ImplStep.val_Num x0) (ImplStep.val_Text x0)), ())))))

def spec_told (N : Nat) (x0 : ImplStep) (x1 : ImplEnv) : Option (ImplValue × Unit) := spec_told.B N x0 x1

def spec_eval.J15 (N : Nat) (G0 : (List (ImplStep)) × ImplEnv × ImplValue × (List (ImplValue)) × Int × Unit → Option (ImplValue × Unit)) : (List (ImplStep)) × ImplEnv × ImplValue × (List (ImplValue)) × Int × Int × ImplValue × Unit → Option (ImplValue × Unit) :=
fun (x10, x11, x12, x13, x14, x15, x16, ()) =>
 gd (decide ((0 : Int) ≤ x15)) (
 gd (decide (x15 ≤ (((List.length x13) : Nat) : Int))) (
 gd (decide (((List.length (sub x13 (0 : Int) x15)) + (List.length ([x16] : List (ImplValue)))) < 68719476736)) (
 G0 (x10, x11, x12, ((sub x13 (0 : Int) x15) ++ ([x16] : List (ImplValue))), (IntKind.i64.wrap (x14 + (1 : Int))), ()))))

def spec_eval.B0 (N : Nat) (G0 : (List (ImplStep)) × ImplEnv × ImplValue × (List (ImplValue)) × Int × Unit → Option (ImplValue × Unit)) : (List (ImplStep)) × ImplEnv × ImplValue × (List (ImplValue)) × Int × Unit → Option (ImplValue × Unit) :=
fun (x2, x3, x4, x5, x6, ()) =>
 br (decide (x6 < (((List.length x2) : Nat) : Int))) (
  gd (decide ((0 : Int) ≤ x6)) (
  gd (decide (x6 < (((List.length x2) : Nat) : Int))) (
  bnd (spec_takes N (get x2 x6)) fun r8 =>
  gd (decide ((0 : Int) ≤ x6)) (
  gd (decide (x6 < (((List.length x2) : Nat) : Int))) (
  br ((ImplStep.kind (get x2 x6)) == (5 : Int)) (
   gd (decide ((0 : Int) ≤ x6)) (
   gd (decide (x6 < (((List.length x2) : Nat) : Int))) (
   gd (decide ((0 : Int) ≤ (IntKind.i64.wrap ((((List.length x5) : Nat) : Int) - (r8).1)))) (
   gd (decide ((IntKind.i64.wrap ((((List.length x5) : Nat) : Int) - (r8).1)) < (((List.length x5) : Nat) : Int))) (
   gd (decide ((0 : Int) ≤ (IntKind.i64.wrap ((IntKind.i64.wrap ((((List.length x5) : Nat) : Int) - (r8).1)) + (1 : Int))))) (
   gd (decide ((IntKind.i64.wrap ((IntKind.i64.wrap ((((List.length x5) : Nat) : Int) - (r8).1)) + (1 : Int))) < (((List.length x5) : Nat) : Int))) (
   bnd (spec_do N (ImplStep.a (get x2 x6)) (get x5 (IntKind.i64.wrap ((((List.length x5) : Nat) : Int) - (r8).1))) (get x5 (IntKind.i64.wrap ((IntKind.i64.wrap ((((List.length x5) : Nat) : Int) - (r8).1)) + (1 : Int))))) fun r9 =>
   spec_eval.J15 N G0 (x2, x3, x4, x5, x6, (IntKind.i64.wrap ((((List.length x5) : Nat) : Int) - (r8).1)), (r9).1, ())))))))) (
   br ((ImplStep.kind (get x2 x6)) == (6 : Int)) (
   gd (decide ((0 : Int) ≤ (IntKind.i64.wrap ((IntKind.i64.wrap ((((List.length x5) : Nat) : Int) - (r8).1)) + (2 : Int))))) (
   gd (decide ((IntKind.i64.wrap ((IntKind.i64.wrap ((((List.length x5) : Nat) : Int) - (r8).1)) + (2 : Int))) < (((List.length x5) : Nat) : Int))) (
   gd (decide ((0 : Int) ≤ (IntKind.i64.wrap ((((List.length x5) : Nat) : Int) - (r8).1)))) (
   gd (decide ((IntKind.i64.wrap ((((List.length x5) : Nat) : Int) - (r8).1)) < (((List.length x5) : Nat) : Int))) (
   bnd (spec_truth N (get x5 (IntKind.i64.wrap ((((List.length x5) : Nat) : Int) - (r8).1)))) fun r17 =>
   br (r17).1 (
    gd (decide ((0 : Int) ≤ (IntKind.i64.wrap ((IntKind.i64.wrap ((((List.length x5) : Nat) : Int) - (r8).1)) + (1 : Int))))) (
    gd (decide ((IntKind.i64.wrap ((IntKind.i64.wrap ((((List.length x5) : Nat) : Int) - (r8).1)) + (1 : Int))) < (((List.length x5) : Nat) : Int))) (
    spec_eval.J15 N G0 (x2, x3, x4, x5, x6, (IntKind.i64.wrap ((((List.length x5) : Nat) : Int) - (r8).1)), (get x5 (IntKind.i64.wrap ((IntKind.i64.wrap ((((List.length x5) : Nat) : Int) - (r8).1)) + (1 : Int)))), ())))) (
    spec_eval.J15 N G0 (x2, x3, x4, x5, x6, (IntKind.i64.wrap ((((List.length x5) : Nat) : Int) - (r8).1)), (get x5 (IntKind.i64.wrap ((IntKind.i64.wrap ((((List.length x5) : Nat) : Int) - (r8).1)) + (2 : Int)))), ()))))))) (
   gd (decide ((0 : Int) ≤ x6)) (
  gd (decide (x6 < (((List.length x2) : Nat) : Int))) (
  bnd (spec_told N (get x2 x6) x3) fun r18 =>
  spec_eval.J15 N G0 (x2, x3, x4, x5, x6, (IntKind.i64.wrap ((((List.length x5) : Nat) : Int) - (r8).1)), (r18).1, ())))))))))) (
  gd (decide ((0 : Int) < (((List.length x5) : Nat) : Int))) (
 some ((get x5 (0 : Int)), ())))

def spec_eval.B (N : Nat) (E0 : (List (ImplStep)) × ImplEnv × ImplValue × (List (ImplValue)) × Int × Unit → Option (ImplValue × Unit)) (x0 : List (ImplStep)) (x1 : ImplEnv) : Option (ImplValue × Unit) :=
 E0 (x0, x1, (ImplValue.mk (0 : Int) (0 : Int) ([] : List (UInt8))), ([] : List (ImplValue)), (0 : Int), ())

def spec_eval.L0 (N : Nat) : Nat → (List (ImplStep)) × ImplEnv × ImplValue × (List (ImplValue)) × Int × Unit → Option (ImplValue × Unit)
  | 0, _ => none
  | n + 1, x => spec_eval.B0 N (spec_eval.L0 N n) x

def spec_eval (N : Nat) (x0 : List (ImplStep)) (x1 : ImplEnv) : Option (ImplValue × Unit) := spec_eval.B N (spec_eval.L0 N N) x0 x1

def spec_updated.B (N : Nat) (x0 : List (ImplValue)) (x1 : ImplUpdate) : Option ((List (ImplValue)) × Unit) :=
 gd (decide (((List.length ([] : List (ImplValue))) + (List.length x0)) < 68719476736)) (
 bnd (spec_applies N x0 x1) fun r2 =>
 br (r2).1 (
  bnd (spec_eval N (ImplUpdate.form x1) (ImplEnv.mk ([] : List (ImplValue)) x0 ([] : List (Int)) (List.replicate (Int.toNat (2 : Int)) (ImplValue.mk (0 : Int) (0 : Int) ([] : List (UInt8)))))) fun r3 =>
  gd (decide ((0 : Int) ≤ (ImplUpdate.state x1))) (
  gd (decide ((ImplUpdate.state x1) < (((List.length (([] : List (ImplValue)) ++ x0)) : Nat) : Int))) (
  some ((List.set (([] : List (ImplValue)) ++ x0) (Int.toNat (ImplUpdate.state x1)) (r3).1), ())))) (
  some ((([] : List (ImplValue)) ++ x0), ())))

def spec_updated (N : Nat) (x0 : List (ImplValue)) (x1 : ImplUpdate) : Option ((List (ImplValue)) × Unit) := spec_updated.B N x0 x1

def spec_storeUpdated.B (N : Nat) (x0 : List (ImplCell)) (x1 : ImplUpdate) : Option ((List (ImplCell)) × Unit) :=
 bnd (spec_copyStore N x0) fun r2 =>
 bnd (spec_cellAt N (r2).1 (ImplUpdate.place x1)) fun r3 =>
 br ((r3).2).1 (
  gd (decide ((0 : Int) ≤ (r3).1)) (
  gd (decide ((r3).1 < (((List.length (r2).1) : Nat) : Int))) (
  bnd (spec_updated N (ImplCell.states (get (r2).1 (r3).1)) x1) fun r4 =>
  gd (decide ((0 : Int) ≤ (r3).1)) (
  gd (decide ((r3).1 < (((List.length (r2).1) : Nat) : Int))) (
  some ((List.set (r2).1 (Int.toNat (r3).1) (ImplCell.mk (ImplCell.place (get (r2).1 (r3).1)) (r4).1)), ())))))) (
  some ((r2).1, ()))

def spec_storeUpdated (N : Nat) (x0 : List (ImplCell)) (x1 : ImplUpdate) : Option ((List (ImplCell)) × Unit) := spec_storeUpdated.B N x0 x1

def impl_within.B (N : Nat) (x0 : Int) (x1 : Int) (x2 : Int) : Option (Bool × Unit) :=
 br (decide (x0 ≥ x1)) (
  some ((decide (x0 ≤ x2)), ())) (
  some (false, ()))

def impl_within (N : Nat) (x0 : Int) (x1 : Int) (x2 : Int) : Option (Bool × Unit) := impl_within.B N x0 x1 x2

def impl_PlaceOk.B0 (N : Nat) (G0 : (List (ImplSlot)) × (List (ImplSlot)) × Int × Int × Unit → Option (Bool × Unit)) : (List (ImplSlot)) × (List (ImplSlot)) × Int × Int × Unit → Option (Bool × Unit) :=
fun (x1, x2, x3, x4, ()) =>
 br (decide (x4 < x3)) (
  gd (decide ((0 : Int) ≤ x4)) (
  gd (decide (x4 < (((List.length x2) : Nat) : Int))) (
  bnd (impl_within N (ImplSlot.pos (get x2 x4)) (0 : Int) (3 : Int)) fun r6 =>
  br (!(r6).1) (
   some (false, ())) (
   bnd (impl_within N (ImplSlot.sub (get x2 x4)) (0 : Int) (103 : Int)) fun r7 =>
  br (!(r7).1) (
   some (false, ())) (
   G0 (x1, x2, x3, (IntKind.i64.wrap (x4 + (1 : Int))), ())))))) (
  some ((decide ((((List.length x1) : Nat) : Int) ≤ (20 : Int))), ()))

def impl_PlaceOk.B (N : Nat) (E0 : (List (ImplSlot)) × (List (ImplSlot)) × Int × Int × Unit → Option (Bool × Unit)) (x0 : List (ImplSlot)) : Option (Bool × Unit) :=
 E0 (x0, x0, (((List.length x0) : Nat) : Int), (0 : Int), ())

def impl_PlaceOk.L0 (N : Nat) : Nat → (List (ImplSlot)) × (List (ImplSlot)) × Int × Int × Unit → Option (Bool × Unit)
  | 0, _ => none
  | n + 1, x => impl_PlaceOk.B0 N (impl_PlaceOk.L0 N n) x

def impl_PlaceOk (N : Nat) (x0 : List (ImplSlot)) : Option (Bool × Unit) := impl_PlaceOk.B N (impl_PlaceOk.L0 N N) x0

def impl_word.B0 (N : Nat) (G0 : (List UInt8) × Int × Unit → Option (Bool × Unit)) : (List UInt8) × Int × Unit → Option (Bool × Unit) :=
fun (x1, x2, ()) =>
 br (decide (x2 < (((List.length x1) : Nat) : Int))) (
  gd (decide ((0 : Int) ≤ x2)) (
  gd (decide (x2 < (((List.length x1) : Nat) : Int))) (
  br (decide ((((UInt8.toNat (List.getD x1 (Int.toNat x2) 0)) : Nat) : Int) ≥ (97 : Int))) (
   br (decide ((((UInt8.toNat (List.getD x1 (Int.toNat x2) 0)) : Nat) : Int) ≤ (122 : Int))) (
    G0 (x1, (IntKind.i64.wrap (x2 + (1 : Int))), ())) (
    br (decide ((((UInt8.toNat (List.getD x1 (Int.toNat x2) 0)) : Nat) : Int) ≥ (48 : Int))) (
    br (decide ((((UInt8.toNat (List.getD x1 (Int.toNat x2) 0)) : Nat) : Int) ≤ (57 : Int))) (
     G0 (x1, (IntKind.i64.wrap (x2 + (1 : Int))), ())) (
     br (!((((UInt8.toNat (List.getD x1 (Int.toNat x2) 0)) : Nat) : Int) == (32 : Int))) (
     some (false, ())) (
     G0 (x1, (IntKind.i64.wrap (x2 + (1 : Int))), ())))) (
    br (!((((UInt8.toNat (List.getD x1 (Int.toNat x2) 0)) : Nat) : Int) == (32 : Int))) (
    some (false, ())) (
    G0 (x1, (IntKind.i64.wrap (x2 + (1 : Int))), ()))))) (
   br (decide ((((UInt8.toNat (List.getD x1 (Int.toNat x2) 0)) : Nat) : Int) ≥ (48 : Int))) (
   br (decide ((((UInt8.toNat (List.getD x1 (Int.toNat x2) 0)) : Nat) : Int) ≤ (57 : Int))) (
    G0 (x1, (IntKind.i64.wrap (x2 + (1 : Int))), ())) (
    br (!((((UInt8.toNat (List.getD x1 (Int.toNat x2) 0)) : Nat) : Int) == (32 : Int))) (
    some (false, ())) (
    G0 (x1, (IntKind.i64.wrap (x2 + (1 : Int))), ())))) (
   br (!((((UInt8.toNat (List.getD x1 (Int.toNat x2) 0)) : Nat) : Int) == (32 : Int))) (
   some (false, ())) (
   G0 (x1, (IntKind.i64.wrap (x2 + (1 : Int))), ()))))))) (
  some ((decide ((((List.length x1) : Nat) : Int) ≤ (12 : Int))), ()))

def impl_word.B (N : Nat) (E0 : (List UInt8) × Int × Unit → Option (Bool × Unit)) (x0 : List UInt8) : Option (Bool × Unit) :=
 E0 (x0, (0 : Int), ())

def impl_word.L0 (N : Nat) : Nat → (List UInt8) × Int × Unit → Option (Bool × Unit)
  | 0, _ => none
  | n + 1, x => impl_word.B0 N (impl_word.L0 N n) x

def impl_word (N : Nat) (x0 : List UInt8) : Option (Bool × Unit) := impl_word.B N (impl_word.L0 N N) x0

def impl_ValOk.B (N : Nat) (x0 : ImplValue) : Option (Bool × Unit) :=
 br ((ImplValue.kind x0) == (0 : Int)) (
  br ((ImplValue.num x0) == (0 : Int)) (
   some (((ImplValue.text x0) == ([] : List (UInt8))), ())) (
   some (false, ()))) (
  br ((ImplValue.kind x0) == (1 : Int)) (
  bnd (impl_within N (ImplValue.num x0) (-(1000 : Int)) (1000 : Int)) fun r1 =>
  br (r1).1 (
   some (((ImplValue.text x0) == ([] : List (UInt8))), ())) (
   some (false, ()))) (
  br ((ImplValue.kind x0) == (2 : Int)) (
  br ((ImplValue.num x0) == (0 : Int)) (
   bnd (impl_word N (ImplValue.text x0)) fun r2 =>
   some ((r2).1, ())) (
   some (false, ()))) (
  some (false, ()))))

def impl_ValOk (N : Nat) (x0 : ImplValue) : Option (Bool × Unit) := impl_ValOk.B N x0

def impl_valsOk.B0 (N : Nat) (G0 : (List (ImplValue)) × Int × Int × Unit → Option (Bool × Unit)) : (List (ImplValue)) × Int × Int × Unit → Option (Bool × Unit) :=
fun (x1, x2, x3, ()) =>
 br (decide (x3 < x2)) (
  gd (decide ((0 : Int) ≤ x3)) (
  gd (decide (x3 < (((List.length x1) : Nat) : Int))) (
  bnd (impl_ValOk N (get x1 x3)) fun r5 =>
  br (!(r5).1) (
   some (false, ())) (
   G0 (x1, x2, (IntKind.i64.wrap (x3 + (1 : Int))), ()))))) (
  some (true, ()))

def impl_valsOk.B (N : Nat) (E0 : (List (ImplValue)) × Int × Int × Unit → Option (Bool × Unit)) (x0 : List (ImplValue)) : Option (Bool × Unit) :=
 E0 (x0, (((List.length x0) : Nat) : Int), (0 : Int), ())

def impl_valsOk.L0 (N : Nat) : Nat → (List (ImplValue)) × Int × Int × Unit → Option (Bool × Unit)
  | 0, _ => none
  | n + 1, x => impl_valsOk.B0 N (impl_valsOk.L0 N n) x

def impl_valsOk (N : Nat) (x0 : List (ImplValue)) : Option (Bool × Unit) := impl_valsOk.B N (impl_valsOk.L0 N N) x0

def impl_placeCmp.B0 (N : Nat) (G0 : (List (ImplSlot)) × (List (ImplSlot)) × Int × Int × Unit → Option (Int × Unit)) : (List (ImplSlot)) × (List (ImplSlot)) × Int × Int × Unit → Option (Int × Unit) :=
fun (x2, x3, x4, x5, ()) =>
 br (decide (x5 < x4)) (
  gd (decide ((0 : Int) ≤ x5)) (
  gd (decide (x5 < (((List.length x2) : Nat) : Int))) (
  gd (decide ((0 : Int) ≤ x5)) (
  gd (decide (x5 < (((List.length x3) : Nat) : Int))) (
  br (((ImplSlot.pos (get x2 x5)) == (ImplSlot.pos (get x3 x5))) && ((ImplSlot.sub (get x2 x5)) == (ImplSlot.sub (get x3 x5)))) (
   G0 (x2, x3, x4, (IntKind.i64.wrap (x5 + (1 : Int))), ())) (
   br (decide ((ImplSlot.pos (get x2 x5)) < (ImplSlot.pos (get x3 x5)))) (
   some ((-(1 : Int)), ())) (
   br ((ImplSlot.pos (get x2 x5)) == (ImplSlot.pos (get x3 x5))) (
   br (decide ((ImplSlot.sub (get x2 x5)) < (ImplSlot.sub (get x3 x5)))) (
    some ((-(1 : Int)), ())) (
    some ((1 : Int), ()))) (
   some ((1 : Int), ()))))))))) (
  br (decide ((((List.length x2) : Nat) : Int) < (((List.length x3) : Nat) : Int))) (
  some ((-(1 : Int)), ())) (
  br (decide ((((List.length x2) : Nat) : Int) > (((List.length x3) : Nat) : Int))) (
  some ((1 : Int), ())) (
  some ((0 : Int), ()))))

def impl_placeCmp.B (N : Nat) (E0 : (List (ImplSlot)) × (List (ImplSlot)) × Int × Int × Unit → Option (Int × Unit)) (x0 : List (ImplSlot)) (x1 : List (ImplSlot)) : Option (Int × Unit) :=
 E0 (x0, x1, (cond (decide ((((List.length x1) : Nat) : Int) < (((List.length x0) : Nat) : Int))) (((List.length x1) : Nat) : Int) (((List.length x0) : Nat) : Int)), (0 : Int), ())

def impl_placeCmp.L0 (N : Nat) : Nat → (List (ImplSlot)) × (List (ImplSlot)) × Int × Int × Unit → Option (Int × Unit)
  | 0, _ => none
  | n + 1, x => impl_placeCmp.B0 N (impl_placeCmp.L0 N n) x

def impl_placeCmp (N : Nat) (x0 : List (ImplSlot)) (x1 : List (ImplSlot)) : Option (Int × Unit) := impl_placeCmp.B N (impl_placeCmp.L0 N N) x0 x1

def impl_StoreOk.B0 (N : Nat) (G0 : (List (ImplCell)) × (List (ImplCell)) × Int × Int × Unit → Option (Bool × Unit)) : (List (ImplCell)) × (List (ImplCell)) × Int × Int × Unit → Option (Bool × Unit) :=
fun (x1, x2, x3, x4, ()) =>
 br (decide (x4 < x3)) (
  gd (decide ((0 : Int) ≤ x4)) (
  gd (decide (x4 < (((List.length x2) : Nat) : Int))) (
  bnd (impl_PlaceOk N (ImplCell.place (get x2 x4))) fun r6 =>
  br (!(r6).1) (
   some (false, ())) (
   br (decide ((((List.length (ImplCell.states (get x2 x4))) : Nat) : Int) > (3 : Int))) (
   some (false, ())) (
   bnd (impl_valsOk N (ImplCell.states (get x2 x4))) fun r7 =>
  br (!(r7).1) (
   some (false, ())) (
   br (decide (x4 > (0 : Int))) (
   gd (decide ((0 : Int) ≤ (IntKind.i64.wrap (x4 - (1 : Int))))) (
   gd (decide ((IntKind.i64.wrap (x4 - (1 : Int))) < (((List.length x1) : Nat) : Int))) (
   bnd (impl_placeCmp N (ImplCell.place (get x1 (IntKind.i64.wrap (x4 - (1 : Int))))) (ImplCell.place (get x2 x4))) fun r8 =>
   br (decide ((r8).1 ≥ (0 : Int))) (
    some (false, ())) (
    G0 (x1, x2, x3, (IntKind.i64.wrap (x4 + (1 : Int))), ()))))) (
   G0 (x1, x2, x3, (IntKind.i64.wrap (x4 + (1 : Int))), ())))))))) (
  some ((decide ((((List.length x1) : Nat) : Int) ≤ (200 : Int))), ()))

def impl_StoreOk.B (N : Nat) (E0 : (List (ImplCell)) × (List (ImplCell)) × Int × Int × Unit → Option (Bool × Unit)) (x0 : List (ImplCell)) : Option (Bool × Unit) :=
 E0 (x0, x0, (((List.length x0) : Nat) : Int), (0 : Int), ())

def impl_StoreOk.L0 (N : Nat) : Nat → (List (ImplCell)) × (List (ImplCell)) × Int × Int × Unit → Option (Bool × Unit)
  | 0, _ => none
  | n + 1, x => impl_StoreOk.B0 N (impl_StoreOk.L0 N n) x

def impl_StoreOk (N : Nat) (x0 : List (ImplCell)) : Option (Bool × Unit) := impl_StoreOk.B N (impl_StoreOk.L0 N N) x0

def impl_formFits.J27 (N : Nat) (G0 : (List (ImplStep)) × Int × Int × Int × Int × (List (ImplStep)) × Int × Int × Unit → Option (Bool × Unit)) : (List (ImplStep)) × Int × Int × Int × Int × Int × Bool × (List (ImplStep)) × Int × Int × Unit → Option (Bool × Unit) :=
fun (x14, x15, x16, x17, x18, x19, x20, x21, x22, x23, ()) =>
 br (!x20) (
  some (false, ())) (
  br (decide (x18 < x19)) (
  some (false, ())) (
  G0 (x14, x15, x16, x17, (IntKind.i64.wrap (x18 + (IntKind.i64.wrap ((1 : Int) - x19)))), x21, x22, (IntKind.i64.wrap (x23 + (1 : Int))), ())))

def impl_formFits.B0 (N : Nat) (G0 : (List (ImplStep)) × Int × Int × Int × Int × (List (ImplStep)) × Int × Int × Unit → Option (Bool × Unit)) : (List (ImplStep)) × Int × Int × Int × Int × (List (ImplStep)) × Int × Int × Unit → Option (Bool × Unit) :=
fun (x4, x5, x6, x7, x8, x9, x10, x11, ()) =>
 br (decide (x11 < x10)) (
  gd (decide ((0 : Int) ≤ x11)) (
  gd (decide (x11 < (((List.length x9) : Nat) : Int))) (
  br ((ImplStep.kind (get x9 x11)) != (0 : Int)) (
   br (!(((ImplStep.val_Kind (get x9 x11)) == (0 : Int)) && (((ImplStep.val_Num (get x9 x11)) == (0 : Int)) && ((ImplStep.val_Text (get x9 x11)) == ([] : List (UInt8)))))) (
    some (false, ())) (
    br ((ImplStep.kind (get x9 x11)) == (0 : Int)) (
    br ((ImplStep.a (get x9 x11)) == (0 : Int)) (
     bnd (impl_ValOk N (ImplValue.mk (ImplStep.val_Kind (get x9 x11)) (ImplStep.val_Num (get x9 x11)) (ImplStep.val_Text (get x9 x11)))) fun r13 =>
     impl_formFits.J27 N G0 (x4, x5, x6, x7, x8, (0 : Int), (r13).1, x9, x10, x11, ())) (
     impl_formFits.J27 N G0 (x4, x5, x6, x7, x8, (0 : Int), false, x9, x10, x11, ()))) (
    br ((ImplStep.kind (get x9 x11)) == (1 : Int)) (
    bnd (impl_within N (ImplStep.a (get x9 x11)) (0 : Int) (IntKind.i64.wrap (x5 - (1 : Int)))) fun r24 =>
    impl_formFits.J27 N G0 (x4, x5, x6, x7, x8, (0 : Int), (r24).1, x9, x10, x11, ())) (
    br ((ImplStep.kind (get x9 x11)) == (2 : Int)) (
    bnd (impl_within N (ImplStep.a (get x9 x11)) (0 : Int) (IntKind.i64.wrap (x6 - (1 : Int)))) fun r25 =>
    impl_formFits.J27 N G0 (x4, x5, x6, x7, x8, (0 : Int), (r25).1, x9, x10, x11, ())) (
    br ((ImplStep.kind (get x9 x11)) == (3 : Int)) (
    bnd (impl_within N (ImplStep.a (get x9 x11)) (0 : Int) (IntKind.i64.wrap (x7 - (1 : Int)))) fun r26 =>
    impl_formFits.J27 N G0 (x4, x5, x6, x7, x8, (0 : Int), (r26).1, x9, x10, x11, ())) (
    br ((ImplStep.kind (get x9 x11)) == (4 : Int)) (
    bnd (impl_within N (ImplStep.a (get x9 x11)) (0 : Int) (1 : Int)) fun r27 =>
    impl_formFits.J27 N G0 (x4, x5, x6, x7, x8, (0 : Int), (r27).1, x9, x10, x11, ())) (
    br ((ImplStep.kind (get x9 x11)) == (5 : Int)) (
    bnd (impl_within N (ImplStep.a (get x9 x11)) (0 : Int) (6 : Int)) fun r28 =>
    impl_formFits.J27 N G0 (x4, x5, x6, x7, x8, (2 : Int), (r28).1, x9, x10, x11, ())) (
    br ((ImplStep.kind (get x9 x11)) == (6 : Int)) (
    impl_formFits.J27 N G0 (x4, x5, x6, x7, x8, (3 : Int), ((ImplStep.a (get x9 x11)) == (0 : Int)), x9, x10, x11, ())) (
    impl_formFits.J27 N G0 (x4, x5, x6, x7, x8, (0 : Int), false, x9, x10, x11, ())))))))))) (
   br ((ImplStep.kind (get x9 x11)) == (0 : Int)) (
   br ((ImplStep.a (get x9 x11)) == (0 : Int)) (
    bnd (impl_ValOk N (ImplValue.mk (ImplStep.val_Kind (get x9 x11)) (ImplStep.val_Num (get x9 x11)) (ImplStep.val_Text (get x9 x11)))) fun r29 =>
    impl_formFits.J27 N G0 (x4, x5, x6, x7, x8, (0 : Int), (r29).1, x9, x10, x11, ())) (
    impl_formFits.J27 N G0 (x4, x5, x6, x7, x8, (0 : Int), false, x9, x10, x11, ()))) (
   br ((ImplStep.kind (get x9 x11)) == (1 : Int)) (
   bnd (impl_within N (ImplStep.a (get x9 x11)) (0 : Int) (IntKind.i64.wrap (x5 - (1 : Int)))) fun r30 =>
   impl_formFits.J27 N G0 (x4, x5, x6, x7, x8, (0 : Int), (r30).1, x9, x10, x11, ())) (
   br ((ImplStep.kind (get x9 x11)) == (2 : Int)) (
   bnd (impl_within N (ImplStep.a (get x9 x11)) (0 : Int) (IntKind.i64.wrap (x6 - (1 : Int)))) fun r31 =>
   impl_formFits.J27 N G0 (x4, x5, x6, x7, x8, (0 : Int), (r31).1, x9, x10, x11, ())) (
   br ((ImplStep.kind (get x9 x11)) == (3 : Int)) (
   bnd (impl_within N (ImplStep.a (get x9 x11)) (0 : Int) (IntKind.i64.wrap (x7 - (1 : Int)))) fun r32 =>
   impl_formFits.J27 N G0 (x4, x5, x6, x7, x8, (0 : Int), (r32).1, x9, x10, x11, ())) (
   br ((ImplStep.kind (get x9 x11)) == (4 : Int)) (
   bnd (impl_within N (ImplStep.a (get x9 x11)) (0 : Int) (1 : Int)) fun r33 =>
   impl_formFits.J27 N G0 (x4, x5, x6, x7, x8, (0 : Int), (r33).1, x9, x10, x11, ())) (
   br ((ImplStep.kind (get x9 x11)) == (5 : Int)) (
   bnd (impl_within N (ImplStep.a (get x9 x11)) (0 : Int) (6 : Int)) fun r34 =>
   impl_formFits.J27 N G0 (x4, x5, x6, x7, x8, (2 : Int), (r34).1, x9, x10, x11, ())) (
   br ((ImplStep.kind (get x9 x11)) == (6 : Int)) (
   impl_formFits.J27 N G0 (x4, x5, x6, x7, x8, (3 : Int), ((ImplStep.a (get x9 x11)) == (0 : Int)), x9, x10, x11, ())) (
   impl_formFits.J27 N G0 (x4, x5, x6, x7, x8, (0 : Int), false, x9, x10, x11, ())))))))))))) (
  br (x8 == (1 : Int)) (
  some ((decide ((((List.length x4) : Nat) : Int) ≤ (9 : Int))), ())) (
  some (false, ())))

def impl_formFits.B (N : Nat) (E0 : (List (ImplStep)) × Int × Int × Int × Int × (List (ImplStep)) × Int × Int × Unit → Option (Bool × Unit)) (x0 : List (ImplStep)) (x1 : Int) (x2 : Int) (x3 : Int) : Option (Bool × Unit) :=
 E0 (x0, x1, x2, x3, (0 : Int), x0, (((List.length x0) : Nat) : Int), (0 : Int), ())

def impl_formFits.L0 (N : Nat) : Nat → (List (ImplStep)) × Int × Int × Int × Int × (List (ImplStep)) × Int × Int × Unit → Option (Bool × Unit)
  | 0, _ => none
  | n + 1, x => impl_formFits.B0 N (impl_formFits.L0 N n) x

def impl_formFits (N : Nat) (x0 : List (ImplStep)) (x1 : Int) (x2 : Int) (x3 : Int) : Option (Bool × Unit) := impl_formFits.B N (impl_formFits.L0 N N) x0 x1 x2 x3

def impl_FormOk.B (N : Nat) (x0 : List (ImplStep)) (x1 : Int) (x2 : Int) (x3 : Int) : Option (Bool × Unit) :=
 bnd (impl_within N x1 (0 : Int) (3 : Int)) fun r4 =>
 br (r4).1 (
  bnd (impl_within N x2 (0 : Int) (3 : Int)) fun r5 =>
  br (r5).1 (
   bnd (impl_within N x3 (0 : Int) (4 : Int)) fun r6 =>
   br (r6).1 (
    bnd (impl_formFits N x0 x1 x2 x3) fun r7 =>
    some ((r7).1, ())) (
    some (false, ()))) (
   some (false, ()))) (
  some (false, ()))

def impl_FormOk (N : Nat) (x0 : List (ImplStep)) (x1 : Int) (x2 : Int) (x3 : Int) : Option (Bool × Unit) := impl_FormOk.B N x0 x1 x2 x3

def impl_UpdateOk.B (N : Nat) (x0 : ImplUpdate) : Option (Bool × Unit) :=
 bnd (impl_PlaceOk N (ImplUpdate.place x0)) fun r1 =>
 br (r1).1 (
  bnd (impl_within N (ImplUpdate.state x0) (0 : Int) (2 : Int)) fun r2 =>
  br (r2).1 (
   bnd (impl_within N (ImplUpdate.lane x0) (-(1 : Int)) (2 : Int)) fun r3 =>
   br (r3).1 (
    bnd (impl_FormOk N (ImplUpdate.form x0) (0 : Int) (3 : Int) (0 : Int)) fun r4 =>
    some ((r4).1, ())) (
    some (false, ()))) (
   some (false, ()))) (
  some (false, ()))

def impl_UpdateOk (N : Nat) (x0 : ImplUpdate) : Option (Bool × Unit) := impl_UpdateOk.B N x0

def impl_updatesOk.B0 (N : Nat) (G0 : (List (ImplUpdate)) × Int × Int × Unit → Option (Bool × Unit)) : (List (ImplUpdate)) × Int × Int × Unit → Option (Bool × Unit) :=
fun (x1, x2, x3, ()) =>
 br (decide (x3 < x2)) (
  gd (decide ((0 : Int) ≤ x3)) (
  gd (decide (x3 < (((List.length x1) : Nat) : Int))) (
  bnd (impl_UpdateOk N (get x1 x3)) fun r5 =>
  br (!(r5).1) (
   some (false, ())) (
   G0 (x1, x2, (IntKind.i64.wrap (x3 + (1 : Int))), ()))))) (
  some (true, ()))

def impl_updatesOk.B (N : Nat) (E0 : (List (ImplUpdate)) × Int × Int × Unit → Option (Bool × Unit)) (x0 : List (ImplUpdate)) : Option (Bool × Unit) :=
 E0 (x0, (((List.length x0) : Nat) : Int), (0 : Int), ())

def impl_updatesOk.L0 (N : Nat) : Nat → (List (ImplUpdate)) × Int × Int × Unit → Option (Bool × Unit)
  | 0, _ => none
  | n + 1, x => impl_updatesOk.B0 N (impl_updatesOk.L0 N n) x

def impl_updatesOk (N : Nat) (x0 : List (ImplUpdate)) : Option (Bool × Unit) := impl_updatesOk.B N (impl_updatesOk.L0 N N) x0

def impl_placeCopy.B (N : Nat) (x0 : List (ImplSlot)) : Option ((List (ImplSlot)) × Unit) :=
 gd (decide ((List.length x0) < 68719476736)) (
 some (x0, ()))

def impl_placeCopy (N : Nat) (x0 : List (ImplSlot)) : Option ((List (ImplSlot)) × Unit) := impl_placeCopy.B N x0

def impl_valsCopy.B (N : Nat) (x0 : List (ImplValue)) : Option ((List (ImplValue)) × Unit) :=
 gd (decide ((List.length x0) < 68719476736)) (
 some (x0, ()))

def impl_valsCopy (N : Nat) (x0 : List (ImplValue)) : Option ((List (ImplValue)) × Unit) := impl_valsCopy.B N x0

def impl_cellCopy.B (N : Nat) (x0 : ImplCell) : Option (ImplCell × Unit) :=
 bnd (impl_placeCopy N (ImplCell.place x0)) fun r1 =>
 bnd (impl_valsCopy N (ImplCell.states x0)) fun r2 =>
 some ((ImplCell.mk (r1).1 (r2).1), ())

def impl_cellCopy (N : Nat) (x0 : ImplCell) : Option (ImplCell × Unit) := impl_cellCopy.B N x0

def impl_storeCopy.B0 (N : Nat) (G0 : (List (ImplCell)) × (List (ImplCell)) × Int × Int × Unit → Option ((List (ImplCell)) × Unit)) : (List (ImplCell)) × (List (ImplCell)) × Int × Int × Unit → Option ((List (ImplCell)) × Unit) :=
fun (x1, x2, x3, x4, ()) =>
 br (decide (x4 < x3)) (
  gd (decide ((0 : Int) ≤ x4)) (
  gd (decide (x4 < (((List.length x2) : Nat) : Int))) (
  bnd (impl_cellCopy N (get x2 x4)) fun r6 =>
  gd (decide (((List.length x1) + (List.length ([(r6).1] : List (ImplCell)))) < 68719476736)) (
  G0 ((x1 ++ ([(r6).1] : List (ImplCell))), x2, x3, (IntKind.i64.wrap (x4 + (1 : Int))), ()))))) (
  some (x1, ()))

def impl_storeCopy.B (N : Nat) (E0 : (List (ImplCell)) × (List (ImplCell)) × Int × Int × Unit → Option ((List (ImplCell)) × Unit)) (x0 : List (ImplCell)) : Option ((List (ImplCell)) × Unit) :=
 E0 (([] : List (ImplCell)), x0, (((List.length x0) : Nat) : Int), (0 : Int), ())

def impl_storeCopy.L0 (N : Nat) : Nat → (List (ImplCell)) × (List (ImplCell)) × Int × Int × Unit → Option ((List (ImplCell)) × Unit)
  | 0, _ => none
  | n + 1, x => impl_storeCopy.B0 N (impl_storeCopy.L0 N n) x

def impl_storeCopy (N : Nat) (x0 : List (ImplCell)) : Option ((List (ImplCell)) × Unit) := impl_storeCopy.B N (impl_storeCopy.L0 N N) x0

def impl_storeFind.B0 (N : Nat) (G0 : (List (ImplSlot)) × (List (ImplCell)) × Int × Int × Unit → Option (Int × Unit)) : (List (ImplSlot)) × (List (ImplCell)) × Int × Int × Unit → Option (Int × Unit) :=
fun (x2, x3, x4, x5, ()) =>
 br (decide (x5 < x4)) (
  gd (decide ((0 : Int) ≤ x5)) (
  gd (decide (x5 < (((List.length x3) : Nat) : Int))) (
  bnd (impl_placeCmp N (ImplCell.place (get x3 x5)) x2) fun r7 =>
  br ((r7).1 == (0 : Int)) (
   some (x5, ())) (
   G0 (x2, x3, x4, (IntKind.i64.wrap (x5 + (1 : Int))), ()))))) (
  some ((-(1 : Int)), ()))

def impl_storeFind.B (N : Nat) (E0 : (List (ImplSlot)) × (List (ImplCell)) × Int × Int × Unit → Option (Int × Unit)) (x0 : List (ImplCell)) (x1 : List (ImplSlot)) : Option (Int × Unit) :=
 E0 (x1, x0, (((List.length x0) : Nat) : Int), (0 : Int), ())

def impl_storeFind.L0 (N : Nat) : Nat → (List (ImplSlot)) × (List (ImplCell)) × Int × Int × Unit → Option (Int × Unit)
  | 0, _ => none
  | n + 1, x => impl_storeFind.B0 N (impl_storeFind.L0 N n) x

def impl_storeFind (N : Nat) (x0 : List (ImplCell)) (x1 : List (ImplSlot)) : Option (Int × Unit) := impl_storeFind.B N (impl_storeFind.L0 N N) x0 x1

def impl_updateAt.B (N : Nat) (x0 : List (ImplCell)) (x1 : ImplUpdate) : Option (Int × Unit) :=
 bnd (impl_storeFind N x0 (ImplUpdate.place x1)) fun r2 =>
 br (decide ((r2).1 < (0 : Int))) (
  some ((-(1 : Int)), ())) (
  gd (decide ((0 : Int) ≤ (r2).1)) (
 gd (decide ((r2).1 < (((List.length x0) : Nat) : Int))) (
 br (decide ((ImplUpdate.state x1) ≥ (((List.length (ImplCell.states (get x0 (r2).1))) : Nat) : Int))) (
  some ((-(1 : Int)), ())) (
  gd (decide ((0 : Int) ≤ (r2).1)) (
 gd (decide ((r2).1 < (((List.length x0) : Nat) : Int))) (
 bnd (impl_formFits N (ImplUpdate.form x1) (0 : Int) (((List.length (ImplCell.states (get x0 (r2).1))) : Nat) : Int) (0 : Int)) fun r3 =>
 br (!(r3).1) (
  some ((-(1 : Int)), ())) (
  some ((r2).1, ()))))))))

def impl_updateAt (N : Nat) (x0 : List (ImplCell)) (x1 : ImplUpdate) : Option (Int × Unit) := impl_updateAt.B N x0 x1

def impl_number.B (N : Nat) (x0 : Int) : Option (ImplValue × Unit) :=
 some ((ImplValue.mk (1 : Int) x0 ([] : List (UInt8))), ())

def impl_number (N : Nat) (x0 : Int) : Option (ImplValue × Unit) := impl_number.B N x0

def impl_truth.B (N : Nat) (x0 : Bool) : Option (ImplValue × Unit) :=
 br x0 (
  bnd (impl_number N (1 : Int)) fun r1 =>
  some ((r1).1, ())) (
  bnd (impl_number N (0 : Int)) fun r2 =>
 some ((r2).1, ()))

def impl_truth (N : Nat) (x0 : Bool) : Option (ImplValue × Unit) := impl_truth.B N x0

def impl_ValShow.B (N : Nat) (x0 : ImplValue) : Option ((List UInt8) × Unit) :=
 bnd (impl_ValOk N x0) fun r1 =>
 br (!(r1).1) (
  some (([] : List (UInt8)), ())) (
  br ((ImplValue.kind x0) == (0 : Int)) (
  some (([] : List (UInt8)), ())) (
  br ((ImplValue.kind x0) == (1 : Int)) (
  bnd (LibItoa N (ImplValue.num x0)) fun r2 =>
  some ((r2).1, ())) (
  some ((ImplValue.text x0), ()))))

def impl_ValShow (N : Nat) (x0 : ImplValue) : Option ((List UInt8) × Unit) := impl_ValShow.B N x0

def impl_ValTrue.B (N : Nat) (x0 : ImplValue) : Option (Bool × Unit) :=
 bnd (impl_ValOk N x0) fun r1 =>
 br (r1).1 (
  br ((ImplValue.kind x0) == (1 : Int)) (
   br ((ImplValue.num x0) != (0 : Int)) (
    some (true, ())) (
    br ((ImplValue.kind x0) == (2 : Int)) (
    some ((!((ImplValue.text x0) == ([] : List (UInt8)))), ())) (
    some (false, ())))) (
   br ((ImplValue.kind x0) == (2 : Int)) (
   some ((!((ImplValue.text x0) == ([] : List (UInt8)))), ())) (
   some (false, ())))) (
  some (false, ()))

def impl_ValTrue (N : Nat) (x0 : ImplValue) : Option (Bool × Unit) := impl_ValTrue.B N x0

def impl_ValDo.J19 (N : Nat) : ImplValue × Int × Unit → Option (ImplValue × Unit) :=
fun (x5, x6, ()) =>
 bnd (impl_within N x6 (-(1000 : Int)) (1000 : Int)) fun r7 =>
 br (!(r7).1) (
  some ((ImplValue.mk (0 : Int) (0 : Int) ([] : List (UInt8))), ())) (
  bnd (impl_number N x6) fun r8 =>
 some ((r8).1, ()))

def impl_ValDo.B (N : Nat) (x0 : Int) (x1 : ImplValue) (x2 : ImplValue) : Option (ImplValue × Unit) :=
 bnd (impl_ValOk N x1) fun r3 =>
 br (!(r3).1) (
  some ((ImplValue.mk (0 : Int) (0 : Int) ([] : List (UInt8))), ())) (
  bnd (impl_ValOk N x2) fun r4 =>
 br (!(r4).1) (
  some ((ImplValue.mk (0 : Int) (0 : Int) ([] : List (UInt8))), ())) (
  br (x0 == (0 : Int)) (
  br (x0 == (0 : Int)) (
   br ((ImplValue.kind x1) != (1 : Int)) (
    some ((ImplValue.mk (0 : Int) (0 : Int) ([] : List (UInt8))), ())) (
    br ((ImplValue.kind x2) != (1 : Int)) (
    some ((ImplValue.mk (0 : Int) (0 : Int) ([] : List (UInt8))), ())) (
    br (x0 == (0 : Int)) (
    impl_ValDo.J19 N ((ImplValue.mk (0 : Int) (0 : Int) ([] : List (UInt8))), (IntKind.i64.wrap ((ImplValue.num x1) + (ImplValue.num x2))), ())) (
    br (x0 == (1 : Int)) (
    impl_ValDo.J19 N ((ImplValue.mk (0 : Int) (0 : Int) ([] : List (UInt8))), (IntKind.i64.wrap ((ImplValue.num x1) - (ImplValue.num x2))), ())) (
    br (x0 == (2 : Int)) (
    impl_ValDo.J19 N ((ImplValue.mk (0 : Int) (0 : Int) ([] : List (UInt8))), (IntKind.i64.wrap ((ImplValue.num x1) * (ImplValue.num x2))), ())) (
    bnd (impl_truth N (decide ((ImplValue.num x1) < (ImplValue.num x2)))) fun r9 =>
   some ((r9).1, ()))))))) (
   br (x0 == (4 : Int)) (
   bnd (impl_truth N (((ImplValue.kind x1) == (ImplValue.kind x2)) && (((ImplValue.num x1) == (ImplValue.num x2)) && ((ImplValue.text x1) == (ImplValue.text x2))))) fun r10 =>
   some ((r10).1, ())) (
   br (x0 == (5 : Int)) (
   bnd (impl_ValShow N x1) fun r11 =>
   bnd (impl_ValShow N x2) fun r12 =>
   gd (decide (((List.length (r11).1) + (List.length (r12).1)) < 68719476736)) (
   bnd (impl_ValOk N (ImplValue.mk (2 : Int) (0 : Int) ((r11).1 ++ (r12).1))) fun r13 =>
   br (!(r13).1) (
    some ((ImplValue.mk (0 : Int) (0 : Int) ([] : List (UInt8))), ())) (
    some ((ImplValue.mk (2 : Int) (0 : Int) ((r11).1 ++ (r12).1)), ())))) (
   br (x0 == (6 : Int)) (
   bnd (impl_ValTrue N x1) fun r14 =>
   br (r14).1 (
    some (x2, ())) (
    some (x1, ()))) (
   some ((ImplValue.mk (0 : Int) (0 : Int) ([] : List (UInt8))), ())))))) (
  br (x0 == (1 : Int)) (
  br (x0 == (1 : Int)) (
   br ((ImplValue.kind x1) != (1 : Int)) (
    some ((ImplValue.mk (0 : Int) (0 : Int) ([] : List (UInt8))), ())) (
    br ((ImplValue.kind x2) != (1 : Int)) (
    some ((ImplValue.mk (0 : Int) (0 : Int) ([] : List (UInt8))), ())) (
    br (x0 == (0 : Int)) (
    impl_ValDo.J19 N ((ImplValue.mk (0 : Int) (0 : Int) ([] : List (UInt8))), (IntKind.i64.wrap ((ImplValue.num x1) + (ImplValue.num x2))), ())) (
    br (x0 == (1 : Int)) (
    impl_ValDo.J19 N ((ImplValue.mk (0 : Int) (0 : Int) ([] : List (UInt8))), (IntKind.i64.wrap ((ImplValue.num x1) - (ImplValue.num x2))), ())) (
    br (x0 == (2 : Int)) (
    impl_ValDo.J19 N ((ImplValue.mk (0 : Int) (0 : Int) ([] : List (UInt8))), (IntKind.i64.wrap ((ImplValue.num x1) * (ImplValue.num x2))), ())) (
    bnd (impl_truth N (decide ((ImplValue.num x1) < (ImplValue.num x2)))) fun r15 =>
   some ((r15).1, ()))))))) (
   br (x0 == (4 : Int)) (
   bnd (impl_truth N (((ImplValue.kind x1) == (ImplValue.kind x2)) && (((ImplValue.num x1) == (ImplValue.num x2)) && ((ImplValue.text x1) == (ImplValue.text x2))))) fun r16 =>
   some ((r16).1, ())) (
   br (x0 == (5 : Int)) (
   bnd (impl_ValShow N x1) fun r17 =>
   bnd (impl_ValShow N x2) fun r18 =>
   gd (decide (((List.length (r17).1) + (List.length (r18).1)) < 68719476736)) (
   bnd (impl_ValOk N (ImplValue.mk (2 : Int) (0 : Int) ((r17).1 ++ (r18).1))) fun r19 =>
   br (!(r19).1) (
    some ((ImplValue.mk (0 : Int) (0 : Int) ([] : List (UInt8))), ())) (
    some ((ImplValue.mk (2 : Int) (0 : Int) ((r17).1 ++ (r18).1)), ())))) (
   br (x0 == (6 : Int)) (
   bnd (impl_ValTrue N x1) fun r20 =>
   br (r20).1 (
    some (x2, ())) (
    some (x1, ()))) (
   some ((ImplValue.mk (0 : Int) (0 : Int) ([] : List (UInt8))), ())))))) (
  br (x0 == (2 : Int)) (
  br (x0 == (2 : Int)) (
   br ((ImplValue.kind x1) != (1 : Int)) (
    some ((ImplValue.mk (0 : Int) (0 : Int) ([] : List (UInt8))), ())) (
    br ((ImplValue.kind x2) != (1 : Int)) (
    some ((ImplValue.mk (0 : Int) (0 : Int) ([] : List (UInt8))), ())) (
    br (x0 == (0 : Int)) (
    impl_ValDo.J19 N ((ImplValue.mk (0 : Int) (0 : Int) ([] : List (UInt8))), (IntKind.i64.wrap ((ImplValue.num x1) + (ImplValue.num x2))), ())) (
    br (x0 == (1 : Int)) (
    impl_ValDo.J19 N ((ImplValue.mk (0 : Int) (0 : Int) ([] : List (UInt8))), (IntKind.i64.wrap ((ImplValue.num x1) - (ImplValue.num x2))), ())) (
    br (x0 == (2 : Int)) (
    impl_ValDo.J19 N ((ImplValue.mk (0 : Int) (0 : Int) ([] : List (UInt8))), (IntKind.i64.wrap ((ImplValue.num x1) * (ImplValue.num x2))), ())) (
    bnd (impl_truth N (decide ((ImplValue.num x1) < (ImplValue.num x2)))) fun r21 =>
   some ((r21).1, ()))))))) (
   br (x0 == (4 : Int)) (
   bnd (impl_truth N (((ImplValue.kind x1) == (ImplValue.kind x2)) && (((ImplValue.num x1) == (ImplValue.num x2)) && ((ImplValue.text x1) == (ImplValue.text x2))))) fun r22 =>
   some ((r22).1, ())) (
   br (x0 == (5 : Int)) (
   bnd (impl_ValShow N x1) fun r23 =>
   bnd (impl_ValShow N x2) fun r24 =>
   gd (decide (((List.length (r23).1) + (List.length (r24).1)) < 68719476736)) (
   bnd (impl_ValOk N (ImplValue.mk (2 : Int) (0 : Int) ((r23).1 ++ (r24).1))) fun r25 =>
   br (!(r25).1) (
    some ((ImplValue.mk (0 : Int) (0 : Int) ([] : List (UInt8))), ())) (
    some ((ImplValue.mk (2 : Int) (0 : Int) ((r23).1 ++ (r24).1)), ())))) (
   br (x0 == (6 : Int)) (
   bnd (impl_ValTrue N x1) fun r26 =>
   br (r26).1 (
    some (x2, ())) (
    some (x1, ()))) (
   some ((ImplValue.mk (0 : Int) (0 : Int) ([] : List (UInt8))), ())))))) (
  br (x0 == (3 : Int)) (
  br ((ImplValue.kind x1) != (1 : Int)) (
   some ((ImplValue.mk (0 : Int) (0 : Int) ([] : List (UInt8))), ())) (
   br ((ImplValue.kind x2) != (1 : Int)) (
   some ((ImplValue.mk (0 : Int) (0 : Int) ([] : List (UInt8))), ())) (
   br (x0 == (0 : Int)) (
   impl_ValDo.J19 N ((ImplValue.mk (0 : Int) (0 : Int) ([] : List (UInt8))), (IntKind.i64.wrap ((ImplValue.num x1) + (ImplValue.num x2))), ())) (
   br (x0 == (1 : Int)) (
   impl_ValDo.J19 N ((ImplValue.mk (0 : Int) (0 : Int) ([] : List (UInt8))), (IntKind.i64.wrap ((ImplValue.num x1) - (ImplValue.num x2))), ())) (
   br (x0 == (2 : Int)) (
   impl_ValDo.J19 N ((ImplValue.mk (0 : Int) (0 : Int) ([] : List (UInt8))), (IntKind.i64.wrap ((ImplValue.num x1) * (ImplValue.num x2))), ())) (
   bnd (impl_truth N (decide ((ImplValue.num x1) < (ImplValue.num x2)))) fun r27 =>
  some ((r27).1, ()))))))) (
  br (x0 == (4 : Int)) (
  bnd (impl_truth N (((ImplValue.kind x1) == (ImplValue.kind x2)) && (((ImplValue.num x1) == (ImplValue.num x2)) && ((ImplValue.text x1) == (ImplValue.text x2))))) fun r28 =>
  some ((r28).1, ())) (
  br (x0 == (5 : Int)) (
  bnd (impl_ValShow N x1) fun r29 =>
  bnd (impl_ValShow N x2) fun r30 =>
  gd (decide (((List.length (r29).1) + (List.length (r30).1)) < 68719476736)) (
  bnd (impl_ValOk N (ImplValue.mk (2 : Int) (0 : Int) ((r29).1 ++ (r30).1))) fun r31 =>
  br (!(r31).1) (
   some ((ImplValue.mk (0 : Int) (0 : Int) ([] : List (UInt8))), ())) (
   some ((ImplValue.mk (2 : Int) (0 : Int) ((r29).1 ++ (r30).1)), ())))) (
  br (x0 == (6 : Int)) (
  bnd (impl_ValTrue N x1) fun r32 =>
  br (r32).1 (
   some (x2, ())) (
   some (x1, ()))) (
  some ((ImplValue.mk (0 : Int) (0 : Int) ([] : List (UInt8))), ()))))))))))

def impl_ValDo (N : Nat) (x0 : Int) (x1 : ImplValue) (x2 : ImplValue) : Option (ImplValue × Unit) := impl_ValDo.B N x0 x1 x2

def impl_formRun.J23 (N : Nat) (G0 : ImplEnv × ImplValue × (List (ImplValue)) × (List (ImplStep)) × Int × Int × Unit → Option (ImplValue × Unit)) : ImplEnv × ImplValue × (List (ImplValue)) × Int × ImplValue × (List (ImplStep)) × Int × Int × Unit → Option (ImplValue × Unit) :=
fun (x12, x13, x14, x15, x16, x17, x18, x19, ()) =>
 gd (decide ((0 : Int) ≤ (IntKind.i64.wrap (x15 - (3 : Int))))) (
 gd (decide ((IntKind.i64.wrap (x15 - (3 : Int))) ≤ (((List.length x14) : Nat) : Int))) (
 gd (decide (((List.length (sub x14 (0 : Int) (IntKind.i64.wrap (x15 - (3 : Int))))) + (List.length ([x16] : List (ImplValue)))) < 68719476736)) (
 G0 (x12, x13, ((sub x14 (0 : Int) (IntKind.i64.wrap (x15 - (3 : Int)))) ++ ([x16] : List (ImplValue))), x17, x18, (IntKind.i64.wrap (x19 + (1 : Int))), ()))))

def impl_formRun.B0 (N : Nat) (G0 : ImplEnv × ImplValue × (List (ImplValue)) × (List (ImplStep)) × Int × Int × Unit → Option (ImplValue × Unit)) : ImplEnv × ImplValue × (List (ImplValue)) × (List (ImplStep)) × Int × Int × Unit → Option (ImplValue × Unit) :=
fun (x2, x3, x4, x5, x6, x7, ()) =>
 br (decide (x7 < x6)) (
  gd (decide ((0 : Int) ≤ x7)) (
  gd (decide (x7 < (((List.length x5) : Nat) : Int))) (
  br ((ImplStep.kind (get x5 x7)) == (0 : Int)) (
   gd (decide (((List.length x4) + (List.length ([(ImplValue.mk (ImplStep.val_Kind (get x5 x7)) (ImplStep.val_Num (get x5 x7)) (ImplStep.val_Text (get x5 x7)))] : List (ImplValue)))) < 68719476736)) (
   G0 (x2, x3, (x4 ++ ([(ImplValue.mk (ImplStep.val_Kind (get x5 x7)) (ImplStep.val_Num (get x5 x7)) (ImplStep.val_Text (get x5 x7)))] : List (ImplValue))), x5, x6, (IntKind.i64.wrap (x7 + (1 : Int))), ()))) (
   br ((ImplStep.kind (get x5 x7)) == (1 : Int)) (
   gd (decide ((0 : Int) ≤ (ImplStep.a (get x5 x7)))) (
   gd (decide ((ImplStep.a (get x5 x7)) < (((List.length (ImplEnv.props x2)) : Nat) : Int))) (
   gd (decide (((List.length x4) + (List.length ([(get (ImplEnv.props x2) (ImplStep.a (get x5 x7)))] : List (ImplValue)))) < 68719476736)) (
   G0 (x2, x3, (x4 ++ ([(get (ImplEnv.props x2) (ImplStep.a (get x5 x7)))] : List (ImplValue))), x5, x6, (IntKind.i64.wrap (x7 + (1 : Int))), ()))))) (
   br ((ImplStep.kind (get x5 x7)) == (2 : Int)) (
   gd (decide ((0 : Int) ≤ (ImplStep.a (get x5 x7)))) (
   gd (decide ((ImplStep.a (get x5 x7)) < (((List.length (ImplEnv.states x2)) : Nat) : Int))) (
   gd (decide (((List.length x4) + (List.length ([(get (ImplEnv.states x2) (ImplStep.a (get x5 x7)))] : List (ImplValue)))) < 68719476736)) (
   G0 (x2, x3, (x4 ++ ([(get (ImplEnv.states x2) (ImplStep.a (get x5 x7)))] : List (ImplValue))), x5, x6, (IntKind.i64.wrap (x7 + (1 : Int))), ()))))) (
   br ((ImplStep.kind (get x5 x7)) == (3 : Int)) (
   gd (decide ((0 : Int) ≤ (IntKind.i64.wrap ((IntKind.i64.wrap ((((List.length (ImplEnv.turns x2)) : Nat) : Int) - (1 : Int))) - (ImplStep.a (get x5 x7)))))) (
   gd (decide ((IntKind.i64.wrap ((IntKind.i64.wrap ((((List.length (ImplEnv.turns x2)) : Nat) : Int) - (1 : Int))) - (ImplStep.a (get x5 x7)))) < (((List.length (ImplEnv.turns x2)) : Nat) : Int))) (
   bnd (impl_number N (get (ImplEnv.turns x2) (IntKind.i64.wrap ((IntKind.i64.wrap ((((List.length (ImplEnv.turns x2)) : Nat) : Int) - (1 : Int))) - (ImplStep.a (get x5 x7)))))) fun r9 =>
   gd (decide (((List.length x4) + (List.length ([(r9).1] : List (ImplValue)))) < 68719476736)) (
   G0 (x2, x3, (x4 ++ ([(r9).1] : List (ImplValue))), x5, x6, (IntKind.i64.wrap (x7 + (1 : Int))), ()))))) (
   br ((ImplStep.kind (get x5 x7)) == (4 : Int)) (
   gd (decide ((0 : Int) ≤ (ImplStep.a (get x5 x7)))) (
   gd (decide ((ImplStep.a (get x5 x7)) < (((List.length (ImplEnv.gifts x2)) : Nat) : Int))) (
   gd (decide (((List.length x4) + (List.length ([(get (ImplEnv.gifts x2) (ImplStep.a (get x5 x7)))] : List (ImplValue)))) < 68719476736)) (
   G0 (x2, x3, (x4 ++ ([(get (ImplEnv.gifts x2) (ImplStep.a (get x5 x7)))] : List (ImplValue))), x5, x6, (IntKind.i64.wrap (x7 + (1 : Int))), ()))))) (
   br ((ImplStep.kind (get x5 x7)) == (5 : Int)) (
   gd (decide ((0 : Int) ≤ (IntKind.i64.wrap ((((List.length x4) : Nat) : Int) - (2 : Int))))) (
   gd (decide ((IntKind.i64.wrap ((((List.length x4) : Nat) : Int) - (2 : Int))) ≤ (((List.length x4) : Nat) : Int))) (
   gd (decide ((0 : Int) ≤ (IntKind.i64.wrap ((((List.length x4) : Nat) : Int) - (2 : Int))))) (
   gd (decide ((IntKind.i64.wrap ((((List.length x4) : Nat) : Int) - (2 : Int))) < (((List.length x4) : Nat) : Int))) (
   gd (decide ((0 : Int) ≤ (IntKind.i64.wrap ((((List.length x4) : Nat) : Int) - (1 : Int))))) (
   gd (decide ((IntKind.i64.wrap ((((List.length x4) : Nat) : Int) - (1 : Int))) < (((List.length x4) : Nat) : Int))) (
   bnd (impl_ValDo N (ImplStep.a (get x5 x7)) (get x4 (IntKind.i64.wrap ((((List.length x4) : Nat) : Int) - (2 : Int)))) (get x4 (IntKind.i64.wrap ((((List.length x4) : Nat) : Int) - (1 : Int))))) fun r10 =>
   gd (decide (((List.length (sub x4 (0 : Int) (IntKind.i64.wrap ((((List.length x4) : Nat) : Int) - (2 : Int))))) + (List.length ([(r10).1] : List (ImplValue)))) < 68719476736)) (
   G0 (x2, x3, ((sub x4 (0 : Int) (IntKind.i64.wrap ((((List.length x4) : Nat) : Int) - (2 : Int)))) ++ ([(r10).1] : List (ImplValue))), x5, x6, (IntKind.i64.wrap (x7 + (1 : Int))), ()))))))))) (
   br ((ImplStep.kind (get x5 x7)) == (6 : Int)) (
   gd (decide ((0 : Int) ≤ (IntKind.i64.wrap ((((List.length x4) : Nat) : Int) - (1 : Int))))) (
   gd (decide ((IntKind.i64.wrap ((((List.length x4) : Nat) : Int) - (1 : Int))) < (((List.length x4) : Nat) : Int))) (
   gd (decide ((0 : Int) ≤ (IntKind.i64.wrap ((((List.length x4) : Nat) : Int) - (3 : Int))))) (
   gd (decide ((IntKind.i64.wrap ((((List.length x4) : Nat) : Int) - (3 : Int))) < (((List.length x4) : Nat) : Int))) (
   bnd (impl_ValTrue N (get x4 (IntKind.i64.wrap ((((List.length x4) : Nat) : Int) - (3 : Int))))) fun r11 =>
   br (r11).1 (
    gd (decide ((0 : Int) ≤ (IntKind.i64.wrap ((((List.length x4) : Nat) : Int) - (2 : Int))))) (
    gd (decide ((IntKind.i64.wrap ((((List.length x4) : Nat) : Int) - (2 : Int))) < (((List.length x4) : Nat) : Int))) (
    impl_formRun.J23 N G0 (x2, x3, x4, (((List.length x4) : Nat) : Int), (get x4 (IntKind.i64.wrap ((((List.length x4) : Nat) : Int) - (2 : Int)))), x5, x6, x7, ())))) (
    impl_formRun.J23 N G0 (x2, x3, x4, (((List.length x4) : Nat) : Int), (get x4 (IntKind.i64.wrap ((((List.length x4) : Nat) : Int) - (1 : Int)))), x5, x6, x7, ()))))))) (
   G0 (x2, x3, x4, x5, x6, (IntKind.i64.wrap (x7 + (1 : Int))), ()))))))))))) (
  gd (decide ((0 : Int) < (((List.length x4) : Nat) : Int))) (
 some ((get x4 (0 : Int)), ())))

def impl_formRun.B (N : Nat) (E0 : ImplEnv × ImplValue × (List (ImplValue)) × (List (ImplStep)) × Int × Int × Unit → Option (ImplValue × Unit)) (x0 : List (ImplStep)) (x1 : ImplEnv) : Option (ImplValue × Unit) :=
 E0 (x1, (ImplValue.mk (0 : Int) (0 : Int) ([] : List (UInt8))), ([] : List (ImplValue)), x0, (((List.length x0) : Nat) : Int), (0 : Int), ())

def impl_formRun.L0 (N : Nat) : Nat → ImplEnv × ImplValue × (List (ImplValue)) × (List (ImplStep)) × Int × Int × Unit → Option (ImplValue × Unit)
  | 0, _ => none
  | n + 1, x => impl_formRun.B0 N (impl_formRun.L0 N n) x

def impl_formRun (N : Nat) (x0 : List (ImplStep)) (x1 : ImplEnv) : Option (ImplValue × Unit) := impl_formRun.B N (impl_formRun.L0 N N) x0 x1

def impl_storeDo.B (N : Nat) (x0 : List (ImplCell)) (x1 : ImplUpdate) : Option ((List (ImplCell)) × Unit) :=
 bnd (impl_storeCopy N x0) fun r2 =>
 bnd (impl_updateAt N (r2).1 x1) fun r3 =>
 br (decide ((r3).1 ≥ (0 : Int))) (
  gd (decide ((0 : Int) ≤ (r3).1)) (
  gd (decide ((r3).1 < (((List.length (r2).1) : Nat) : Int))) (
  bnd (impl_formRun N (ImplUpdate.form x1) (ImplEnv.mk ([] : List (ImplValue)) (ImplCell.states (get (r2).1 (r3).1)) ([] : List (Int)) (List.replicate (Int.toNat (2 : Int)) (ImplValue.mk (0 : Int) (0 : Int) ([] : List (UInt8)))))) fun r4 =>
  gd (decide ((0 : Int) ≤ (r3).1)) (
  gd (decide ((r3).1 < (((List.length (r2).1) : Nat) : Int))) (
  gd (decide ((0 : Int) ≤ (ImplUpdate.state x1))) (
  gd (decide ((ImplUpdate.state x1) < (((List.length (ImplCell.states (get (r2).1 (r3).1))) : Nat) : Int))) (
  some ((List.set (r2).1 (Int.toNat (r3).1) (ImplCell.mk (ImplCell.place (get (r2).1 (r3).1)) (List.set (ImplCell.states (get (r2).1 (r3).1)) (Int.toNat (ImplUpdate.state x1)) (r4).1))), ())))))))) (
  some ((r2).1, ()))

def impl_storeDo (N : Nat) (x0 : List (ImplCell)) (x1 : ImplUpdate) : Option ((List (ImplCell)) × Unit) := impl_storeDo.B N x0 x1

def laws_szSlotS.B (N : Nat) (x0 : List (ImplSlot)) (x1 : Int) : Option (Int × Unit) :=
 br (decide ((IntKind.i64.wrap (x1 - (((List.length x0) : Nat) : Int))) < (0 : Int))) (
  some ((-(1 : Int)), ())) (
  some ((IntKind.i64.wrap (x1 - (((List.length x0) : Nat) : Int))), ()))

def laws_szSlotS (N : Nat) (x0 : List (ImplSlot)) (x1 : Int) : Option (Int × Unit) := laws_szSlotS.B N x0 x1

def laws_szValue.B (N : Nat) (x0 : ImplValue) (x1 : Int) : Option (Int × Unit) :=
 br (decide ((IntKind.i64.wrap (x1 - (((List.length (ImplValue.text x0)) : Nat) : Int))) < (0 : Int))) (
  some ((-(1 : Int)), ())) (
  some ((IntKind.i64.wrap (x1 - (((List.length (ImplValue.text x0)) : Nat) : Int))), ()))

def laws_szValue (N : Nat) (x0 : ImplValue) (x1 : Int) : Option (Int × Unit) := laws_szValue.B N x0 x1

def laws_szValueS.B0 (N : Nat) (G0 : (List (ImplValue)) × Int × Int × Unit → Option (Int × Unit)) : (List (ImplValue)) × Int × Int × Unit → Option (Int × Unit) :=
fun (x2, x3, x4, ()) =>
 br (decide (x4 < (((List.length x2) : Nat) : Int))) (
  gd (decide ((0 : Int) ≤ x4)) (
  gd (decide (x4 < (((List.length x2) : Nat) : Int))) (
  bnd (laws_szValue N (get x2 x4) x3) fun r6 =>
  br (decide ((r6).1 < (0 : Int))) (
   some ((-(1 : Int)), ())) (
   G0 (x2, (r6).1, (IntKind.i64.wrap (x4 + (1 : Int))), ()))))) (
  some (x3, ()))

def laws_szValueS.B (N : Nat) (E0 : (List (ImplValue)) × Int × Int × Unit → Option (Int × Unit)) (x0 : List (ImplValue)) (x1 : Int) : Option (Int × Unit) :=
 br (decide ((IntKind.i64.wrap (x1 - (((List.length x0) : Nat) : Int))) < (0 : Int))) (
  some ((-(1 : Int)), ())) (
  E0 (x0, (IntKind.i64.wrap (x1 - (((List.length x0) : Nat) : Int))), (0 : Int), ()))

def laws_szValueS.L0 (N : Nat) : Nat → (List (ImplValue)) × Int × Int × Unit → Option (Int × Unit)
  | 0, _ => none
  | n + 1, x => laws_szValueS.B0 N (laws_szValueS.L0 N n) x

def laws_szValueS (N : Nat) (x0 : List (ImplValue)) (x1 : Int) : Option (Int × Unit) := laws_szValueS.B N (laws_szValueS.L0 N N) x0 x1

def laws_szCell.B (N : Nat) (x0 : LawsCell) (x1 : Int) : Option (Int × Unit) :=
 bnd (laws_szSlotS N (LawsCell.place x0) x1) fun r2 =>
 br (decide ((r2).1 < (0 : Int))) (
  some ((-(1 : Int)), ())) (
  bnd (laws_szValueS N (LawsCell.states x0) (r2).1) fun r3 =>
 br (decide ((r3).1 < (0 : Int))) (
  some ((-(1 : Int)), ())) (
  some ((r3).1, ())))

def laws_szCell (N : Nat) (x0 : LawsCell) (x1 : Int) : Option (Int × Unit) := laws_szCell.B N x0 x1

def laws_szCellS.B0 (N : Nat) (G0 : (List (LawsCell)) × Int × Int × Unit → Option (Int × Unit)) : (List (LawsCell)) × Int × Int × Unit → Option (Int × Unit) :=
fun (x2, x3, x4, ()) =>
 br (decide (x4 < (((List.length x2) : Nat) : Int))) (
  gd (decide ((0 : Int) ≤ x4)) (
  gd (decide (x4 < (((List.length x2) : Nat) : Int))) (
  bnd (laws_szCell N (get x2 x4) x3) fun r6 =>
  br (decide ((r6).1 < (0 : Int))) (
   some ((-(1 : Int)), ())) (
   G0 (x2, (r6).1, (IntKind.i64.wrap (x4 + (1 : Int))), ()))))) (
  some (x3, ()))

def laws_szCellS.B (N : Nat) (E0 : (List (LawsCell)) × Int × Int × Unit → Option (Int × Unit)) (x0 : List (LawsCell)) (x1 : Int) : Option (Int × Unit) :=
 br (decide ((IntKind.i64.wrap (x1 - (((List.length x0) : Nat) : Int))) < (0 : Int))) (
  some ((-(1 : Int)), ())) (
  E0 (x0, (IntKind.i64.wrap (x1 - (((List.length x0) : Nat) : Int))), (0 : Int), ()))

def laws_szCellS.L0 (N : Nat) : Nat → (List (LawsCell)) × Int × Int × Unit → Option (Int × Unit)
  | 0, _ => none
  | n + 1, x => laws_szCellS.B0 N (laws_szCellS.L0 N n) x

def laws_szCellS (N : Nat) (x0 : List (LawsCell)) (x1 : Int) : Option (Int × Unit) := laws_szCellS.B N (laws_szCellS.L0 N N) x0 x1

def laws_szStep.B (N : Nat) (x0 : LawsStep) (x1 : Int) : Option (Int × Unit) :=
 bnd (laws_szValue N (ImplValue.mk (LawsStep.val_Kind x0) (LawsStep.val_Num x0) (LawsStep.val_Text x0)) x1) fun r2 =>
 br (decide ((r2).1 < (0 : Int))) (
  some ((-(1 : Int)), ())) (
  some ((r2).1, ()))

def laws_szStep (N : Nat) (x0 : LawsStep) (x1 : Int) : Option (Int × Unit) := laws_szStep.B N x0 x1

def laws_szStepS.B0 (N : Nat) (G0 : (List (LawsStep)) × Int × Int × Unit → Option (Int × Unit)) : (List (LawsStep)) × Int × Int × Unit → Option (Int × Unit) :=
fun (x2, x3, x4, ()) =>
 br (decide (x4 < (((List.length x2) : Nat) : Int))) (
  gd (decide ((0 : Int) ≤ x4)) (
  gd (decide (x4 < (((List.length x2) : Nat) : Int))) (
  bnd (laws_szStep N (get x2 x4) x3) fun r6 =>
  br (decide ((r6).1 < (0 : Int))) (
   some ((-(1 : Int)), ())) (
   G0 (x2, (r6).1, (IntKind.i64.wrap (x4 + (1 : Int))), ()))))) (
  some (x3, ()))

def laws_szStepS.B (N : Nat) (E0 : (List (LawsStep)) × Int × Int × Unit → Option (Int × Unit)) (x0 : List (LawsStep)) (x1 : Int) : Option (Int × Unit) :=
 br (decide ((IntKind.i64.wrap (x1 - (((List.length x0) : Nat) : Int))) < (0 : Int))) (
  some ((-(1 : Int)), ())) (
  E0 (x0, (IntKind.i64.wrap (x1 - (((List.length x0) : Nat) : Int))), (0 : Int), ()))

def laws_szStepS.L0 (N : Nat) : Nat → (List (LawsStep)) × Int × Int × Unit → Option (Int × Unit)
  | 0, _ => none
  | n + 1, x => laws_szStepS.B0 N (laws_szStepS.L0 N n) x

def laws_szStepS (N : Nat) (x0 : List (LawsStep)) (x1 : Int) : Option (Int × Unit) := laws_szStepS.B N (laws_szStepS.L0 N N) x0 x1

def laws_szUpdate.B (N : Nat) (x0 : LawsUpdate) (x1 : Int) : Option (Int × Unit) :=
 bnd (laws_szSlotS N (LawsUpdate.place x0) x1) fun r2 =>
 br (decide ((r2).1 < (0 : Int))) (
  some ((-(1 : Int)), ())) (
  bnd (laws_szStepS N (LawsUpdate.form x0) (r2).1) fun r3 =>
 br (decide ((r3).1 < (0 : Int))) (
  some ((-(1 : Int)), ())) (
  some ((r3).1, ())))

def laws_szUpdate (N : Nat) (x0 : LawsUpdate) (x1 : Int) : Option (Int × Unit) := laws_szUpdate.B N x0 x1

def laws_szUpdateS.B0 (N : Nat) (G0 : (List (LawsUpdate)) × Int × Int × Unit → Option (Int × Unit)) : (List (LawsUpdate)) × Int × Int × Unit → Option (Int × Unit) :=
fun (x2, x3, x4, ()) =>
 br (decide (x4 < (((List.length x2) : Nat) : Int))) (
  gd (decide ((0 : Int) ≤ x4)) (
  gd (decide (x4 < (((List.length x2) : Nat) : Int))) (
  bnd (laws_szUpdate N (get x2 x4) x3) fun r6 =>
  br (decide ((r6).1 < (0 : Int))) (
   some ((-(1 : Int)), ())) (
   G0 (x2, (r6).1, (IntKind.i64.wrap (x4 + (1 : Int))), ()))))) (
  some (x3, ()))

def laws_szUpdateS.B (N : Nat) (E0 : (List (LawsUpdate)) × Int × Int × Unit → Option (Int × Unit)) (x0 : List (LawsUpdate)) (x1 : Int) : Option (Int × Unit) :=
 br (decide ((IntKind.i64.wrap (x1 - (((List.length x0) : Nat) : Int))) < (0 : Int))) (
  some ((-(1 : Int)), ())) (
  E0 (x0, (IntKind.i64.wrap (x1 - (((List.length x0) : Nat) : Int))), (0 : Int), ()))

def laws_szUpdateS.L0 (N : Nat) : Nat → (List (LawsUpdate)) × Int × Int × Unit → Option (Int × Unit)
  | 0, _ => none
  | n + 1, x => laws_szUpdateS.B0 N (laws_szUpdateS.L0 N n) x

def laws_szUpdateS (N : Nat) (x0 : List (LawsUpdate)) (x1 : Int) : Option (Int × Unit) := laws_szUpdateS.B N (laws_szUpdateS.L0 N N) x0 x1

def laws_toSlot.B (N : Nat) (x0 : ImplSlot) : Option (ImplSlot × Unit) :=
 some (x0, ())

def laws_toSlot (N : Nat) (x0 : ImplSlot) : Option (ImplSlot × Unit) := laws_toSlot.B N x0

def laws_toSlotS.B0 (N : Nat) (G0 : (List (ImplSlot)) × (List (ImplSlot)) × Int × Unit → Option ((List (ImplSlot)) × Unit)) : (List (ImplSlot)) × (List (ImplSlot)) × Int × Unit → Option ((List (ImplSlot)) × Unit) :=
fun (x1, x2, x3, ()) =>
 br (decide (x3 < (((List.length x1) : Nat) : Int))) (
  gd (decide ((0 : Int) ≤ x3)) (
  gd (decide (x3 < (((List.length x1) : Nat) : Int))) (
  bnd (laws_toSlot N (get x1 x3)) fun r5 =>
  gd (decide ((0 : Int) ≤ x3)) (
  gd (decide (x3 < (((List.length x2) : Nat) : Int))) (
  G0 (x1, (List.set x2 (Int.toNat x3) (r5).1), (IntKind.i64.wrap (x3 + (1 : Int))), ())))))) (
  some (x2, ()))

def laws_toSlotS.B (N : Nat) (E0 : (List (ImplSlot)) × (List (ImplSlot)) × Int × Unit → Option ((List (ImplSlot)) × Unit)) (x0 : List (ImplSlot)) : Option ((List (ImplSlot)) × Unit) :=
 gd (decide ((((List.length x0) : Nat) : Int) = (((List.length x0) : Nat) : Int))) (
 gd (decide ((0 : Int) ≤ (((List.length x0) : Nat) : Int))) (
 gd (decide ((((List.length x0) : Nat) : Int) < ((68719476736 : Nat) : Int))) (
 E0 (x0, (List.replicate (Int.toNat (((List.length x0) : Nat) : Int)) (ImplSlot.mk (0 : Int) (0 : Int))), (0 : Int), ()))))

def laws_toSlotS.L0 (N : Nat) : Nat → (List (ImplSlot)) × (List (ImplSlot)) × Int × Unit → Option ((List (ImplSlot)) × Unit)
  | 0, _ => none
  | n + 1, x => laws_toSlotS.B0 N (laws_toSlotS.L0 N n) x

def laws_toSlotS (N : Nat) (x0 : List (ImplSlot)) : Option ((List (ImplSlot)) × Unit) := laws_toSlotS.B N (laws_toSlotS.L0 N N) x0

def laws_toValue.B (N : Nat) (x0 : ImplValue) : Option (ImplValue × Unit) :=
 some (x0, ())

def laws_toValue (N : Nat) (x0 : ImplValue) : Option (ImplValue × Unit) := laws_toValue.B N x0

def laws_toValueS.B0 (N : Nat) (G0 : (List (ImplValue)) × (List (ImplValue)) × Int × Unit → Option ((List (ImplValue)) × Unit)) : (List (ImplValue)) × (List (ImplValue)) × Int × Unit → Option ((List (ImplValue)) × Unit) :=
fun (x1, x2, x3, ()) =>
 br (decide (x3 < (((List.length x1) : Nat) : Int))) (
  gd (decide ((0 : Int) ≤ x3)) (
  gd (decide (x3 < (((List.length x1) : Nat) : Int))) (
  bnd (laws_toValue N (get x1 x3)) fun r5 =>
  gd (decide ((0 : Int) ≤ x3)) (
  gd (decide (x3 < (((List.length x2) : Nat) : Int))) (
  G0 (x1, (List.set x2 (Int.toNat x3) (r5).1), (IntKind.i64.wrap (x3 + (1 : Int))), ())))))) (
  some (x2, ()))

def laws_toValueS.B (N : Nat) (E0 : (List (ImplValue)) × (List (ImplValue)) × Int × Unit → Option ((List (ImplValue)) × Unit)) (x0 : List (ImplValue)) : Option ((List (ImplValue)) × Unit) :=
 gd (decide ((((List.length x0) : Nat) : Int) = (((List.length x0) : Nat) : Int))) (
 gd (decide ((0 : Int) ≤ (((List.length x0) : Nat) : Int))) (
 gd (decide ((((List.length x0) : Nat) : Int) < ((68719476736 : Nat) : Int))) (
 E0 (x0, (List.replicate (Int.toNat (((List.length x0) : Nat) : Int)) (ImplValue.mk (0 : Int) (0 : Int) ([] : List (UInt8)))), (0 : Int), ()))))

def laws_toValueS.L0 (N : Nat) : Nat → (List (ImplValue)) × (List (ImplValue)) × Int × Unit → Option ((List (ImplValue)) × Unit)
  | 0, _ => none
  | n + 1, x => laws_toValueS.B0 N (laws_toValueS.L0 N n) x

def laws_toValueS (N : Nat) (x0 : List (ImplValue)) : Option ((List (ImplValue)) × Unit) := laws_toValueS.B N (laws_toValueS.L0 N N) x0

def laws_toCell.B (N : Nat) (x0 : LawsCell) : Option (ImplCell × Unit) :=
 bnd (laws_toSlotS N (LawsCell.place x0)) fun r1 =>
 bnd (laws_toValueS N (LawsCell.states x0)) fun r2 =>
 some ((ImplCell.mk (r1).1 (r2).1), ())

def laws_toCell (N : Nat) (x0 : LawsCell) : Option (ImplCell × Unit) := laws_toCell.B N x0

def laws_toCellS.B0 (N : Nat) (G0 : (List (LawsCell)) × (List (ImplCell)) × Int × Unit → Option ((List (ImplCell)) × Unit)) : (List (LawsCell)) × (List (ImplCell)) × Int × Unit → Option ((List (ImplCell)) × Unit) :=
fun (x1, x2, x3, ()) =>
 br (decide (x3 < (((List.length x1) : Nat) : Int))) (
  gd (decide ((0 : Int) ≤ x3)) (
  gd (decide (x3 < (((List.length x1) : Nat) : Int))) (
  bnd (laws_toCell N (get x1 x3)) fun r5 =>
  gd (decide ((0 : Int) ≤ x3)) (
  gd (decide (x3 < (((List.length x2) : Nat) : Int))) (
  G0 (x1, (List.set x2 (Int.toNat x3) (r5).1), (IntKind.i64.wrap (x3 + (1 : Int))), ())))))) (
  some (x2, ()))

def laws_toCellS.B (N : Nat) (E0 : (List (LawsCell)) × (List (ImplCell)) × Int × Unit → Option ((List (ImplCell)) × Unit)) (x0 : List (LawsCell)) : Option ((List (ImplCell)) × Unit) :=
 gd (decide ((((List.length x0) : Nat) : Int) = (((List.length x0) : Nat) : Int))) (
 gd (decide ((0 : Int) ≤ (((List.length x0) : Nat) : Int))) (
 gd (decide ((((List.length x0) : Nat) : Int) < ((68719476736 : Nat) : Int))) (
 E0 (x0, (List.replicate (Int.toNat (((List.length x0) : Nat) : Int)) (ImplCell.mk ([] : List (ImplSlot)) ([] : List (ImplValue)))), (0 : Int), ()))))

def laws_toCellS.L0 (N : Nat) : Nat → (List (LawsCell)) × (List (ImplCell)) × Int × Unit → Option ((List (ImplCell)) × Unit)
  | 0, _ => none
  | n + 1, x => laws_toCellS.B0 N (laws_toCellS.L0 N n) x

def laws_toCellS (N : Nat) (x0 : List (LawsCell)) : Option ((List (ImplCell)) × Unit) := laws_toCellS.B N (laws_toCellS.L0 N N) x0

def laws_toStep.B (N : Nat) (x0 : LawsStep) : Option (ImplStep × Unit) :=
 bnd (laws_toValue N (ImplValue.mk (LawsStep.val_Kind x0) (LawsStep.val_Num x0) (LawsStep.val_Text x0))) fun r1 =>
 some ((ImplStep.mk (LawsStep.kind x0) (LawsStep.a x0) (ImplValue.kind (r1).1) (ImplValue.num (r1).1) (ImplValue.text (r1).1)), ())

def laws_toStep (N : Nat) (x0 : LawsStep) : Option (ImplStep × Unit) := laws_toStep.B N x0

def laws_toStepS.B0 (N : Nat) (G0 : (List (LawsStep)) × (List (ImplStep)) × Int × Unit → Option ((List (ImplStep)) × Unit)) : (List (LawsStep)) × (List (ImplStep)) × Int × Unit → Option ((List (ImplStep)) × Unit) :=
fun (x1, x2, x3, ()) =>
 br (decide (x3 < (((List.length x1) : Nat) : Int))) (
  gd (decide ((0 : Int) ≤ x3)) (
  gd (decide (x3 < (((List.length x1) : Nat) : Int))) (
  bnd (laws_toStep N (get x1 x3)) fun r5 =>
  gd (decide ((0 : Int) ≤ x3)) (
  gd (decide (x3 < (((List.length x2) : Nat) : Int))) (
  G0 (x1, (List.set x2 (Int.toNat x3) (r5).1), (IntKind.i64.wrap (x3 + (1 : Int))), ())))))) (
  some (x2, ()))

def laws_toStepS.B (N : Nat) (E0 : (List (LawsStep)) × (List (ImplStep)) × Int × Unit → Option ((List (ImplStep)) × Unit)) (x0 : List (LawsStep)) : Option ((List (ImplStep)) × Unit) :=
 gd (decide ((((List.length x0) : Nat) : Int) = (((List.length x0) : Nat) : Int))) (
 gd (decide ((0 : Int) ≤ (((List.length x0) : Nat) : Int))) (
 gd (decide ((((List.length x0) : Nat) : Int) < ((68719476736 : Nat) : Int))) (
 E0 (x0, (List.replicate (Int.toNat (((List.length x0) : Nat) : Int)) (ImplStep.mk (0 : Int) (0 : Int) (0 : Int) (0 : Int) ([] : List (UInt8)))), (0 : Int), ()))))

def laws_toStepS.L0 (N : Nat) : Nat → (List (LawsStep)) × (List (ImplStep)) × Int × Unit → Option ((List (ImplStep)) × Unit)
  | 0, _ => none
  | n + 1, x => laws_toStepS.B0 N (laws_toStepS.L0 N n) x

def laws_toStepS (N : Nat) (x0 : List (LawsStep)) : Option ((List (ImplStep)) × Unit) := laws_toStepS.B N (laws_toStepS.L0 N N) x0

def laws_toUpdate.B (N : Nat) (x0 : LawsUpdate) : Option (ImplUpdate × Unit) :=
 bnd (laws_toSlotS N (LawsUpdate.place x0)) fun r1 =>
 bnd (laws_toStepS N (LawsUpdate.form x0)) fun r2 =>
 some ((ImplUpdate.mk (r1).1 (LawsUpdate.state x0) (r2).1 (LawsUpdate.lane x0)), ())

def laws_toUpdate (N : Nat) (x0 : LawsUpdate) : Option (ImplUpdate × Unit) := laws_toUpdate.B N x0

def laws_toUpdateS.B0 (N : Nat) (G0 : (List (LawsUpdate)) × (List (ImplUpdate)) × Int × Unit → Option ((List (ImplUpdate)) × Unit)) : (List (LawsUpdate)) × (List (ImplUpdate)) × Int × Unit → Option ((List (ImplUpdate)) × Unit) :=
fun (x1, x2, x3, ()) =>
 br (decide (x3 < (((List.length x1) : Nat) : Int))) (
  gd (decide ((0 : Int) ≤ x3)) (
  gd (decide (x3 < (((List.length x1) : Nat) : Int))) (
  bnd (laws_toUpdate N (get x1 x3)) fun r5 =>
  gd (decide ((0 : Int) ≤ x3)) (
  gd (decide (x3 < (((List.length x2) : Nat) : Int))) (
  G0 (x1, (List.set x2 (Int.toNat x3) (r5).1), (IntKind.i64.wrap (x3 + (1 : Int))), ())))))) (
  some (x2, ()))

def laws_toUpdateS.B (N : Nat) (E0 : (List (LawsUpdate)) × (List (ImplUpdate)) × Int × Unit → Option ((List (ImplUpdate)) × Unit)) (x0 : List (LawsUpdate)) : Option ((List (ImplUpdate)) × Unit) :=
 gd (decide ((((List.length x0) : Nat) : Int) = (((List.length x0) : Nat) : Int))) (
 gd (decide ((0 : Int) ≤ (((List.length x0) : Nat) : Int))) (
 gd (decide ((((List.length x0) : Nat) : Int) < ((68719476736 : Nat) : Int))) (
 E0 (x0, (List.replicate (Int.toNat (((List.length x0) : Nat) : Int)) (ImplUpdate.mk ([] : List (ImplSlot)) (0 : Int) ([] : List (ImplStep)) (0 : Int))), (0 : Int), ()))))

def laws_toUpdateS.L0 (N : Nat) : Nat → (List (LawsUpdate)) × (List (ImplUpdate)) × Int × Unit → Option ((List (ImplUpdate)) × Unit)
  | 0, _ => none
  | n + 1, x => laws_toUpdateS.B0 N (laws_toUpdateS.L0 N n) x

def laws_toUpdateS (N : Nat) (x0 : List (LawsUpdate)) : Option ((List (ImplUpdate)) × Unit) := laws_toUpdateS.B N (laws_toUpdateS.L0 N N) x0

def laws_eqSlot.B (N : Nat) (x0 : ImplSlot) (x1 : ImplSlot) : Option (Bool × Unit) :=
 br ((ImplSlot.pos x0) != (ImplSlot.pos x1)) (
  some (false, ())) (
  br ((ImplSlot.sub x0) != (ImplSlot.sub x1)) (
  some (false, ())) (
  some (true, ())))

def laws_eqSlot (N : Nat) (x0 : ImplSlot) (x1 : ImplSlot) : Option (Bool × Unit) := laws_eqSlot.B N x0 x1

def laws_eqSlotS.B0 (N : Nat) (G0 : (List (ImplSlot)) × (List (ImplSlot)) × Int × Unit → Option (Bool × Unit)) : (List (ImplSlot)) × (List (ImplSlot)) × Int × Unit → Option (Bool × Unit) :=
fun (x2, x3, x4, ()) =>
 br (decide (x4 < (((List.length x2) : Nat) : Int))) (
  gd (decide ((0 : Int) ≤ x4)) (
  gd (decide (x4 < (((List.length x2) : Nat) : Int))) (
  gd (decide ((0 : Int) ≤ x4)) (
  gd (decide (x4 < (((List.length x3) : Nat) : Int))) (
  bnd (laws_eqSlot N (get x2 x4) (get x3 x4)) fun r6 =>
  br (!(r6).1) (
   some (false, ())) (
   G0 (x2, x3, (IntKind.i64.wrap (x4 + (1 : Int))), ()))))))) (
  some (true, ()))

def laws_eqSlotS.B (N : Nat) (E0 : (List (ImplSlot)) × (List (ImplSlot)) × Int × Unit → Option (Bool × Unit)) (x0 : List (ImplSlot)) (x1 : List (ImplSlot)) : Option (Bool × Unit) :=
 br ((((List.length x0) : Nat) : Int) != (((List.length x1) : Nat) : Int)) (
  some (false, ())) (
  E0 (x0, x1, (0 : Int), ()))

def laws_eqSlotS.L0 (N : Nat) : Nat → (List (ImplSlot)) × (List (ImplSlot)) × Int × Unit → Option (Bool × Unit)
  | 0, _ => none
  | n + 1, x => laws_eqSlotS.B0 N (laws_eqSlotS.L0 N n) x

def laws_eqSlotS (N : Nat) (x0 : List (ImplSlot)) (x1 : List (ImplSlot)) : Option (Bool × Unit) := laws_eqSlotS.B N (laws_eqSlotS.L0 N N) x0 x1

def laws_eqValue.B (N : Nat) (x0 : ImplValue) (x1 : ImplValue) : Option (Bool × Unit) :=
 br ((ImplValue.kind x0) != (ImplValue.kind x1)) (
  some (false, ())) (
  br ((ImplValue.num x0) != (ImplValue.num x1)) (
  some (false, ())) (
  br (!((ImplValue.text x0) == (ImplValue.text x1))) (
  some (false, ())) (
  some (true, ()))))

def laws_eqValue (N : Nat) (x0 : ImplValue) (x1 : ImplValue) : Option (Bool × Unit) := laws_eqValue.B N x0 x1

def laws_eqValueS.B0 (N : Nat) (G0 : (List (ImplValue)) × (List (ImplValue)) × Int × Unit → Option (Bool × Unit)) : (List (ImplValue)) × (List (ImplValue)) × Int × Unit → Option (Bool × Unit) :=
fun (x2, x3, x4, ()) =>
 br (decide (x4 < (((List.length x2) : Nat) : Int))) (
  gd (decide ((0 : Int) ≤ x4)) (
  gd (decide (x4 < (((List.length x2) : Nat) : Int))) (
  gd (decide ((0 : Int) ≤ x4)) (
  gd (decide (x4 < (((List.length x3) : Nat) : Int))) (
  bnd (laws_eqValue N (get x2 x4) (get x3 x4)) fun r6 =>
  br (!(r6).1) (
   some (false, ())) (
   G0 (x2, x3, (IntKind.i64.wrap (x4 + (1 : Int))), ()))))))) (
  some (true, ()))

def laws_eqValueS.B (N : Nat) (E0 : (List (ImplValue)) × (List (ImplValue)) × Int × Unit → Option (Bool × Unit)) (x0 : List (ImplValue)) (x1 : List (ImplValue)) : Option (Bool × Unit) :=
 br ((((List.length x0) : Nat) : Int) != (((List.length x1) : Nat) : Int)) (
  some (false, ())) (
  E0 (x0, x1, (0 : Int), ()))

def laws_eqValueS.L0 (N : Nat) : Nat → (List (ImplValue)) × (List (ImplValue)) × Int × Unit → Option (Bool × Unit)
  | 0, _ => none
  | n + 1, x => laws_eqValueS.B0 N (laws_eqValueS.L0 N n) x

def laws_eqValueS (N : Nat) (x0 : List (ImplValue)) (x1 : List (ImplValue)) : Option (Bool × Unit) := laws_eqValueS.B N (laws_eqValueS.L0 N N) x0 x1

def laws_eqCell.B (N : Nat) (x0 : ImplCell) (x1 : ImplCell) : Option (Bool × Unit) :=
 bnd (laws_eqSlotS N (ImplCell.place x0) (ImplCell.place x1)) fun r2 =>
 br (!(r2).1) (
  some (false, ())) (
  bnd (laws_eqValueS N (ImplCell.states x0) (ImplCell.states x1)) fun r3 =>
 br (!(r3).1) (
  some (false, ())) (
  some (true, ())))

def laws_eqCell (N : Nat) (x0 : ImplCell) (x1 : ImplCell) : Option (Bool × Unit) := laws_eqCell.B N x0 x1

def laws_eqCellS.B0 (N : Nat) (G0 : (List (ImplCell)) × (List (ImplCell)) × Int × Unit → Option (Bool × Unit)) : (List (ImplCell)) × (List (ImplCell)) × Int × Unit → Option (Bool × Unit) :=
fun (x2, x3, x4, ()) =>
 br (decide (x4 < (((List.length x2) : Nat) : Int))) (
  gd (decide ((0 : Int) ≤ x4)) (
  gd (decide (x4 < (((List.length x2) : Nat) : Int))) (
  gd (decide ((0 : Int) ≤ x4)) (
  gd (decide (x4 < (((List.length x3) : Nat) : Int))) (
  bnd (laws_eqCell N (get x2 x4) (get x3 x4)) fun r6 =>
  br (!(r6).1) (
   some (false, ())) (
   G0 (x2, x3, (IntKind.i64.wrap (x4 + (1 : Int))), ()))))))) (
  some (true, ()))

def laws_eqCellS.B (N : Nat) (E0 : (List (ImplCell)) × (List (ImplCell)) × Int × Unit → Option (Bool × Unit)) (x0 : List (ImplCell)) (x1 : List (ImplCell)) : Option (Bool × Unit) :=
 br ((((List.length x0) : Nat) : Int) != (((List.length x1) : Nat) : Int)) (
  some (false, ())) (
  E0 (x0, x1, (0 : Int), ()))

def laws_eqCellS.L0 (N : Nat) : Nat → (List (ImplCell)) × (List (ImplCell)) × Int × Unit → Option (Bool × Unit)
  | 0, _ => none
  | n + 1, x => laws_eqCellS.B0 N (laws_eqCellS.L0 N n) x

def laws_eqCellS (N : Nat) (x0 : List (ImplCell)) (x1 : List (ImplCell)) : Option (Bool × Unit) := laws_eqCellS.B N (laws_eqCellS.L0 N N) x0 x1

def laws_eqStep.B (N : Nat) (x0 : ImplStep) (x1 : ImplStep) : Option (Bool × Unit) :=
 br ((ImplStep.kind x0) != (ImplStep.kind x1)) (
  some (false, ())) (
  br ((ImplStep.a x0) != (ImplStep.a x1)) (
  some (false, ())) (
  bnd (laws_eqValue N (ImplValue.mk (ImplStep.val_Kind x0) (ImplStep.val_Num x0) (ImplStep.val_Text x0)) (ImplValue.mk (ImplStep.val_Kind x1) (ImplStep.val_Num x1) (ImplStep.val_Text x1))) fun r2 =>
 br (!(r2).1) (
  some (false, ())) (
  some (true, ()))))

def laws_eqStep (N : Nat) (x0 : ImplStep) (x1 : ImplStep) : Option (Bool × Unit) := laws_eqStep.B N x0 x1

def laws_eqStepS.B0 (N : Nat) (G0 : (List (ImplStep)) × (List (ImplStep)) × Int × Unit → Option (Bool × Unit)) : (List (ImplStep)) × (List (ImplStep)) × Int × Unit → Option (Bool × Unit) :=
fun (x2, x3, x4, ()) =>
 br (decide (x4 < (((List.length x2) : Nat) : Int))) (
  gd (decide ((0 : Int) ≤ x4)) (
  gd (decide (x4 < (((List.length x2) : Nat) : Int))) (
  gd (decide ((0 : Int) ≤ x4)) (
  gd (decide (x4 < (((List.length x3) : Nat) : Int))) (
  bnd (laws_eqStep N (get x2 x4) (get x3 x4)) fun r6 =>
  br (!(r6).1) (
   some (false, ())) (
   G0 (x2, x3, (IntKind.i64.wrap (x4 + (1 : Int))), ()))))))) (
  some (true, ()))

def laws_eqStepS.B (N : Nat) (E0 : (List (ImplStep)) × (List (ImplStep)) × Int × Unit → Option (Bool × Unit)) (x0 : List (ImplStep)) (x1 : List (ImplStep)) : Option (Bool × Unit) :=
 br ((((List.length x0) : Nat) : Int) != (((List.length x1) : Nat) : Int)) (
  some (false, ())) (
  E0 (x0, x1, (0 : Int), ()))

def laws_eqStepS.L0 (N : Nat) : Nat → (List (ImplStep)) × (List (ImplStep)) × Int × Unit → Option (Bool × Unit)
  | 0, _ => none
  | n + 1, x => laws_eqStepS.B0 N (laws_eqStepS.L0 N n) x

def laws_eqStepS (N : Nat) (x0 : List (ImplStep)) (x1 : List (ImplStep)) : Option (Bool × Unit) := laws_eqStepS.B N (laws_eqStepS.L0 N N) x0 x1

def laws_eqUpdate.B (N : Nat) (x0 : ImplUpdate) (x1 : ImplUpdate) : Option (Bool × Unit) :=
 bnd (laws_eqSlotS N (ImplUpdate.place x0) (ImplUpdate.place x1)) fun r2 =>
 br (!(r2).1) (
  some (false, ())) (
  br ((ImplUpdate.state x0) != (ImplUpdate.state x1)) (
  some (false, ())) (
  bnd (laws_eqStepS N (ImplUpdate.form x0) (ImplUpdate.form x1)) fun r3 =>
 br (!(r3).1) (
  some (false, ())) (
  br ((ImplUpdate.lane x0) != (ImplUpdate.lane x1)) (
  some (false, ())) (
  some (true, ())))))

def laws_eqUpdate (N : Nat) (x0 : ImplUpdate) (x1 : ImplUpdate) : Option (Bool × Unit) := laws_eqUpdate.B N x0 x1

def laws_eqUpdateS.B0 (N : Nat) (G0 : (List (ImplUpdate)) × (List (ImplUpdate)) × Int × Unit → Option (Bool × Unit)) : (List (ImplUpdate)) × (List (ImplUpdate)) × Int × Unit → Option (Bool × Unit) :=
fun (x2, x3, x4, ()) =>
 br (decide (x4 < (((List.length x2) : Nat) : Int))) (
  gd (decide ((0 : Int) ≤ x4)) (
  gd (decide (x4 < (((List.length x2) : Nat) : Int))) (
  gd (decide ((0 : Int) ≤ x4)) (
  gd (decide (x4 < (((List.length x3) : Nat) : Int))) (
  bnd (laws_eqUpdate N (get x2 x4) (get x3 x4)) fun r6 =>
  br (!(r6).1) (
   some (false, ())) (
   G0 (x2, x3, (IntKind.i64.wrap (x4 + (1 : Int))), ()))))))) (
  some (true, ()))

def laws_eqUpdateS.B (N : Nat) (E0 : (List (ImplUpdate)) × (List (ImplUpdate)) × Int × Unit → Option (Bool × Unit)) (x0 : List (ImplUpdate)) (x1 : List (ImplUpdate)) : Option (Bool × Unit) :=
 br ((((List.length x0) : Nat) : Int) != (((List.length x1) : Nat) : Int)) (
  some (false, ())) (
  E0 (x0, x1, (0 : Int), ()))

def laws_eqUpdateS.L0 (N : Nat) : Nat → (List (ImplUpdate)) × (List (ImplUpdate)) × Int × Unit → Option (Bool × Unit)
  | 0, _ => none
  | n + 1, x => laws_eqUpdateS.B0 N (laws_eqUpdateS.L0 N n) x

def laws_eqUpdateS (N : Nat) (x0 : List (ImplUpdate)) (x1 : List (ImplUpdate)) : Option (Bool × Unit) := laws_eqUpdateS.B N (laws_eqUpdateS.L0 N N) x0 x1

def laws_markSlotS.B0 (N : Nat) (G0 : (List (ImplSlot)) × Int × Int × Unit → Option ((List (ImplSlot)) × Int × Unit)) : (List (ImplSlot)) × Int × Int × Unit → Option ((List (ImplSlot)) × Int × Unit) :=
fun (x2, x3, x4, ()) =>
 br (decide (x4 < (((List.length x2) : Nat) : Int))) (
  gd (decide ((0 : Int) ≤ x4)) (
  gd (decide (x4 < (((List.length x2) : Nat) : Int))) (
  gd (decide ((0 : Int) ≤ x4)) (
  gd (decide (x4 < (((List.length (List.set x2 (Int.toNat x4) (ImplSlot.mk x3 (ImplSlot.sub (get x2 x4))))) : Nat) : Int))) (
  G0 ((List.set (List.set x2 (Int.toNat x4) (ImplSlot.mk x3 (ImplSlot.sub (get x2 x4)))) (Int.toNat x4) (ImplSlot.mk (ImplSlot.pos (get (List.set x2 (Int.toNat x4) (ImplSlot.mk x3 (ImplSlot.sub (get x2 x4)))) x4)) (IntKind.i64.wrap (x3 + (1 : Int))))), (IntKind.i64.wrap ((IntKind.i64.wrap (x3 + (1 : Int))) + (1 : Int))), (IntKind.i64.wrap (x4 + (1 : Int))), ())))))) (
  some (x2, x3, ()))

def laws_markSlotS.B (N : Nat) (E0 : (List (ImplSlot)) × Int × Int × Unit → Option ((List (ImplSlot)) × Int × Unit)) (x0 : List (ImplSlot)) (x1 : Int) : Option ((List (ImplSlot)) × Int × Unit) :=
 E0 (x0, x1, (0 : Int), ())

def laws_markSlotS.L0 (N : Nat) : Nat → (List (ImplSlot)) × Int × Int × Unit → Option ((List (ImplSlot)) × Int × Unit)
  | 0, _ => none
  | n + 1, x => laws_markSlotS.B0 N (laws_markSlotS.L0 N n) x

def laws_markSlotS (N : Nat) (x0 : List (ImplSlot)) (x1 : Int) : Option ((List (ImplSlot)) × Int × Unit) := laws_markSlotS.B N (laws_markSlotS.L0 N N) x0 x1

def laws_markText.B0 (N : Nat) (G0 : Int × (List UInt8) × Unit → Option ((List UInt8) × Unit)) : Int × (List UInt8) × Unit → Option ((List UInt8) × Unit) :=
fun (x1, x2, ()) =>
 br (decide (x1 > (0 : Int))) (
  gd (decide (((List.length (bytesOf ([(IntKind.u8.wrap (IntKind.i64.wrap ((48 : Int) + (Int.tmod x1 (10 : Int)))))] : List (Int)))) + (List.length x2)) < 68719476736)) (
  G0 ((IntKind.i64.wrap (Int.tdiv x1 (10 : Int))), ((bytesOf ([(IntKind.u8.wrap (IntKind.i64.wrap ((48 : Int) + (Int.tmod x1 (10 : Int)))))] : List (Int))) ++ x2), ()))) (
  gd (decide (((List.length ([109] : List (UInt8))) + (List.length x2)) < 68719476736)) (
 some ((([109] : List (UInt8)) ++ x2), ())))

def laws_markText.B (N : Nat) (E0 : Int × (List UInt8) × Unit → Option ((List UInt8) × Unit)) (x0 : Int) : Option ((List UInt8) × Unit) :=
 br (decide (x0 ≤ (0 : Int))) (
  some (([109, 48] : List (UInt8)), ())) (
  E0 (x0, ([] : List (UInt8)), ()))

def laws_markText.L0 (N : Nat) : Nat → Int × (List UInt8) × Unit → Option ((List UInt8) × Unit)
  | 0, _ => none
  | n + 1, x => laws_markText.B0 N (laws_markText.L0 N n) x

def laws_markText (N : Nat) (x0 : Int) : Option ((List UInt8) × Unit) := laws_markText.B N (laws_markText.L0 N N) x0

def laws_markValueS.B0 (N : Nat) (G0 : (List (ImplValue)) × Int × Int × Unit → Option ((List (ImplValue)) × Int × Unit)) : (List (ImplValue)) × Int × Int × Unit → Option ((List (ImplValue)) × Int × Unit) :=
fun (x2, x3, x4, ()) =>
 br (decide (x4 < (((List.length x2) : Nat) : Int))) (
  gd (decide ((0 : Int) ≤ x4)) (
  gd (decide (x4 < (((List.length x2) : Nat) : Int))) (
  gd (decide ((0 : Int) ≤ x4)) (
  gd (decide (x4 < (((List.length (List.set x2 (Int.toNat x4) (ImplValue.mk x3 (ImplValue.num (get x2 x4)) (ImplValue.text (get x2 x4))))) : Nat) : Int))) (
  bnd (laws_markText N (IntKind.i64.wrap ((IntKind.i64.wrap (x3 + (1 : Int))) + (1 : Int)))) fun r6 =>
  gd (decide ((0 : Int) ≤ x4)) (
  gd (decide (x4 < (((List.length (List.set (List.set x2 (Int.toNat x4) (ImplValue.mk x3 (ImplValue.num (get x2 x4)) (ImplValue.text (get x2 x4)))) (Int.toNat x4) (ImplValue.mk (ImplValue.kind (get (List.set x2 (Int.toNat x4) (ImplValue.mk x3 (ImplValue.num (get x2 x4)) (ImplValue.text (get x2 x4)))) x4)) (IntKind.i64.wrap (x3 + (1 : Int))) (ImplValue.text (get (List.set x2 (Int.toNat x4) (ImplValue.mk x3 (ImplValue.num (get x2 x4)) (ImplValue.text (get x2 x4)))) x4))))) : Nat) : Int))) (
  G0 ((List.set (List.set (List.set x2 (Int.toNat x4) (ImplValue.mk x3 (ImplValue.num (get x2 x4)) (ImplValue.text (get x2 x4)))) (Int.toNat x4) (ImplValue.mk (ImplValue.kind (get (List.set x2 (Int.toNat x4) (ImplValue.mk x3 (ImplValue.num (get x2 x4)) (ImplValue.text (get x2 x4)))) x4)) (IntKind.i64.wrap (x3 + (1 : Int))) (ImplValue.text (get (List.set x2 (Int.toNat x4) (ImplValue.mk x3 (ImplValue.num (get x2 x4)) (ImplValue.text (get x2 x4)))) x4)))) (Int.toNat x4) (ImplValue.mk (ImplValue.kind (get (List.set (List.set x2 (Int.toNat x4) (ImplValue.mk x3 (ImplValue.num (get x2 x4)) (ImplValue.text (get x2 x4)))) (Int.toNat x4) (ImplValue.mk (ImplValue.kind (get (List.set x2 (Int.toNat x4) (ImplValue.mk x3 (ImplValue.num (get x2 x4)) (ImplValue.text (get x2 x4)))) x4)) (IntKind.i64.wrap (x3 + (1 : Int))) (ImplValue.text (get (List.set x2 (Int.toNat x4) (ImplValue.mk x3 (ImplValue.num (get x2 x4)) (ImplValue.text (get x2 x4)))) x4)))) x4)) (ImplValue.num (get (List.set (List.set x2 (Int.toNat x4) (ImplValue.mk x3 (ImplValue.num (get x2 x4)) (ImplValue.text (get x2 x4)))) (Int.toNat x4) (ImplValue.mk (ImplValue.kind (get (List.set x2 (Int.toNat x4) (ImplValue.mk x3 (ImplValue.num (get x2 x4)) (ImplValue.text (get x2 x4)))) x4)) (IntKind.i64.wrap (x3 + (1 : Int))) (ImplValue.text (get (List.set x2 (Int.toNat x4) (ImplValue.mk x3 (ImplValue.num (get x2 x4)) (ImplValue.text (get x2 x4)))) x4)))) x4)) (r6).1)), (IntKind.i64.wrap ((IntKind.i64.wrap ((IntKind.i64.wrap (x3 + (1 : Int))) + (1 : Int))) + (1 : Int))), (IntKind.i64.wrap (x4 + (1 : Int))), ())))))))) (
  some (x2, x3, ()))

def laws_markValueS.B (N : Nat) (E0 : (List (ImplValue)) × Int × Int × Unit → Option ((List (ImplValue)) × Int × Unit)) (x0 : List (ImplValue)) (x1 : Int) : Option ((List (ImplValue)) × Int × Unit) :=
 E0 (x0, x1, (0 : Int), ())

def laws_markValueS.L0 (N : Nat) : Nat → (List (ImplValue)) × Int × Int × Unit → Option ((List (ImplValue)) × Int × Unit)
  | 0, _ => none
  | n + 1, x => laws_markValueS.B0 N (laws_markValueS.L0 N n) x

def laws_markValueS (N : Nat) (x0 : List (ImplValue)) (x1 : Int) : Option ((List (ImplValue)) × Int × Unit) := laws_markValueS.B N (laws_markValueS.L0 N N) x0 x1

def laws_markCellS.B0 (N : Nat) (G0 : (List (ImplCell)) × Int × Int × Unit → Option ((List (ImplCell)) × Int × Unit)) : (List (ImplCell)) × Int × Int × Unit → Option ((List (ImplCell)) × Int × Unit) :=
fun (x2, x3, x4, ()) =>
 br (decide (x4 < (((List.length x2) : Nat) : Int))) (
  gd (decide ((0 : Int) ≤ x4)) (
  gd (decide (x4 < (((List.length x2) : Nat) : Int))) (
  bnd (laws_markSlotS N (ImplCell.place (get x2 x4)) x3) fun r6 =>
  gd (decide ((0 : Int) ≤ x4)) (
  gd (decide (x4 < (((List.length (List.set x2 (Int.toNat x4) (ImplCell.mk (r6).1 (ImplCell.states (get x2 x4))))) : Nat) : Int))) (
  bnd (laws_markValueS N (ImplCell.states (get (List.set x2 (Int.toNat x4) (ImplCell.mk (r6).1 (ImplCell.states (get x2 x4)))) x4)) ((r6).2).1) fun r7 =>
  G0 ((List.set (List.set x2 (Int.toNat x4) (ImplCell.mk (r6).1 (ImplCell.states (get x2 x4)))) (Int.toNat x4) (ImplCell.mk (ImplCell.place (get (List.set x2 (Int.toNat x4) (ImplCell.mk (r6).1 (ImplCell.states (get x2 x4)))) x4)) (r7).1)), ((r7).2).1, (IntKind.i64.wrap (x4 + (1 : Int))), ())))))) (
  some (x2, x3, ()))

def laws_markCellS.B (N : Nat) (E0 : (List (ImplCell)) × Int × Int × Unit → Option ((List (ImplCell)) × Int × Unit)) (x0 : List (ImplCell)) (x1 : Int) : Option ((List (ImplCell)) × Int × Unit) :=
 E0 (x0, x1, (0 : Int), ())

def laws_markCellS.L0 (N : Nat) : Nat → (List (ImplCell)) × Int × Int × Unit → Option ((List (ImplCell)) × Int × Unit)
  | 0, _ => none
  | n + 1, x => laws_markCellS.B0 N (laws_markCellS.L0 N n) x

def laws_markCellS (N : Nat) (x0 : List (ImplCell)) (x1 : Int) : Option ((List (ImplCell)) × Int × Unit) := laws_markCellS.B N (laws_markCellS.L0 N N) x0 x1

end
end Go.Ev
