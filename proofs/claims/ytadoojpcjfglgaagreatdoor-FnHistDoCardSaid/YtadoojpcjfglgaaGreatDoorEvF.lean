/- The functions that the law reaches, written as plain functions; nothing is claimed here. -/
import Derived.Test.YtadoojpcjfglgaaGreatDoorEvE
set_option linter.all false
set_option linter.unusedVariables false
set_option linter.unusedSimpArgs false
/- F -/
set_option maxRecDepth 10000
namespace Go.Ev
noncomputable section
def spec_newSource.B (N : Nat) (x0 : List (Int)) : Option (SpecSource × Unit) :=
 some ((SpecSource.mk x0 (0 : Int) (4000 : Int)), ())

def spec_newSource (N : Nat) (x0 : List (Int)) : Option (SpecSource × Unit) := spec_newSource.B N x0

def spec_source_pick.B (N : Nat) (x0 : SpecSource) (x1 : Int) : Option (SpecSource × Int × Unit) :=
 br (decide (x1 ≤ (1 : Int))) (
  some (x0, (0 : Int), ())) (
  br (decide ((SpecSource.left x0) ≤ (0 : Int))) (
  some (x0, (0 : Int), ())) (
  br ((((List.length (SpecSource.code x0)) : Nat) : Int) == (0 : Int)) (
  some (x0, (0 : Int), ())) (
  gd (!(decide ((((List.length (SpecSource.code x0)) : Nat) : Int) = (0 : Int)))) (
 gd (decide ((0 : Int) ≤ (Int.tmod (SpecSource.at_ x0) (((List.length (SpecSource.code x0)) : Nat) : Int)))) (
 gd (decide ((Int.tmod (SpecSource.at_ x0) (((List.length (SpecSource.code x0)) : Nat) : Int)) < (((List.length (SpecSource.code x0)) : Nat) : Int))) (
 gd (!(decide ((((List.length (SpecSource.code x0)) : Nat) : Int) = (0 : Int)))) (
 br (decide (x1 > (256 : Int))) (
  gd (!(decide ((((List.length (SpecSource.code x0)) : Nat) : Int) = (0 : Int)))) (
  gd (decide ((0 : Int) ≤ (Int.tmod (IntKind.i64.wrap ((SpecSource.at_ x0) + (1 : Int))) (((List.length (SpecSource.code x0)) : Nat) : Int)))) (
  gd (decide ((Int.tmod (IntKind.i64.wrap ((SpecSource.at_ x0) + (1 : Int))) (((List.length (SpecSource.code x0)) : Nat) : Int)) < (((List.length (SpecSource.code x0)) : Nat) : Int))) (
  gd (!(decide (x1 = (0 : Int)))) (
  some ((SpecSource.mk (SpecSource.code x0) (IntKind.i64.wrap ((IntKind.i64.wrap ((SpecSource.at_ x0) + (1 : Int))) + (1 : Int))) (IntKind.i64.wrap ((SpecSource.left x0) - (1 : Int)))), (Int.tmod (IntKind.i64.wrap ((IntKind.i64.wrap ((IntKind.i64.wrap ((IntKind.i64.wrap (get (SpecSource.code x0) (Int.tmod (SpecSource.at_ x0) (((List.length (SpecSource.code x0)) : Nat) : Int)))) + (IntKind.i64.wrap ((IntKind.i64.wrap (Int.tdiv (SpecSource.at_ x0) (((List.length (SpecSource.code x0)) : Nat) : Int))) * (31 : Int))))) * (256 : Int))) + (IntKind.i64.wrap (get (SpecSource.code x0) (Int.tmod (IntKind.i64.wrap ((SpecSource.at_ x0) + (1 : Int))) (((List.length (SpecSource.code x0)) : Nat) : Int)))))) x1), ())))))) (
  gd (!(decide (x1 = (0 : Int)))) (
 some ((SpecSource.mk (SpecSource.code x0) (IntKind.i64.wrap ((SpecSource.at_ x0) + (1 : Int))) (IntKind.i64.wrap ((SpecSource.left x0) - (1 : Int)))), (Int.tmod (IntKind.i64.wrap ((IntKind.i64.wrap (get (SpecSource.code x0) (Int.tmod (SpecSource.at_ x0) (((List.length (SpecSource.code x0)) : Nat) : Int)))) + (IntKind.i64.wrap ((IntKind.i64.wrap (Int.tdiv (SpecSource.at_ x0) (((List.length (SpecSource.code x0)) : Nat) : Int))) * (31 : Int))))) x1), ()))))))))))

def spec_source_pick (N : Nat) (x0 : SpecSource) (x1 : Int) : Option (SpecSource × Int × Unit) := spec_source_pick.B N x0 x1

def spec_source_one.B (N : Nat) (x0 : SpecSource) (x1 : List (Int)) : Option (SpecSource × Int × Unit) :=
 bnd (spec_source_pick N x0 (((List.length x1) : Nat) : Int)) fun r2 =>
 gd (decide ((0 : Int) ≤ ((r2).2).1)) (
 gd (decide (((r2).2).1 < (((List.length x1) : Nat) : Int))) (
 some ((r2).1, (get x1 ((r2).2).1), ())))

def spec_source_one (N : Nat) (x0 : SpecSource) (x1 : List (Int)) : Option (SpecSource × Int × Unit) := spec_source_one.B N x0 x1

def spec_source_rarely.B (N : Nat) (x0 : SpecSource) : Option (SpecSource × Bool × Unit) :=
 bnd (spec_source_pick N x0 (40 : Int)) fun r1 =>
 some ((r1).1, (((r1).2).1 == (1 : Int)), ())

def spec_source_rarely (N : Nat) (x0 : SpecSource) : Option (SpecSource × Bool × Unit) := spec_source_rarely.B N x0

def spec_source_slots.B0 (N : Nat) (G0 : SpecSource × (List (ImplSlot)) × Int × Unit → Option (SpecSource × (List (ImplSlot)) × Unit)) : SpecSource × (List (ImplSlot)) × Int × Unit → Option (SpecSource × (List (ImplSlot)) × Unit) :=
fun (x3, x4, x5, ()) =>
 br (decide (x5 > (0 : Int))) (
  bnd (spec_source_one N x3 ([(0 : Int), (0 : Int), (1 : Int), (2 : Int), (3 : Int)] : List (Int))) fun r7 =>
  bnd (spec_source_one N (r7).1 ([(0 : Int), (0 : Int), (1 : Int), (3 : Int), (4 : Int), (9 : Int), (103 : Int)] : List (Int))) fun r8 =>
  gd (decide (((List.length x4) + (List.length ([(ImplSlot.mk ((r7).2).1 ((r8).2).1)] : List (ImplSlot)))) < 68719476736)) (
  G0 ((r8).1, (x4 ++ ([(ImplSlot.mk ((r7).2).1 ((r8).2).1)] : List (ImplSlot))), (IntKind.i64.wrap (x5 - (1 : Int))), ()))) (
  bnd (spec_source_rarely N x3) fun r9 =>
 br ((r9).2).1 (
  bnd (spec_source_one N (r9).1 ([(-(1 : Int)), (4 : Int)] : List (Int))) fun r10 =>
  gd (decide (((List.length x4) + (List.length ([(ImplSlot.mk ((r10).2).1 (0 : Int))] : List (ImplSlot)))) < 68719476736)) (
  some ((r10).1, (x4 ++ ([(ImplSlot.mk ((r10).2).1 (0 : Int))] : List (ImplSlot))), ()))) (
  some ((r9).1, x4, ())))

def spec_source_slots.B (N : Nat) (E0 : SpecSource × (List (ImplSlot)) × Int × Unit → Option (SpecSource × (List (ImplSlot)) × Unit)) (x0 : SpecSource) : Option (SpecSource × (List (ImplSlot)) × Unit) :=
 bnd (spec_source_pick N x0 (22 : Int)) fun r1 =>
 bnd (spec_source_one N (r1).1 ([(0 : Int), (1 : Int), (2 : Int), (3 : Int), ((r1).2).1] : List (Int))) fun r2 =>
 E0 ((r2).1, ([] : List (ImplSlot)), ((r2).2).1, ())

def spec_source_slots.L0 (N : Nat) : Nat → SpecSource × (List (ImplSlot)) × Int × Unit → Option (SpecSource × (List (ImplSlot)) × Unit)
  | 0, _ => none
  | n + 1, x => spec_source_slots.B0 N (spec_source_slots.L0 N n) x

def spec_source_slots (N : Nat) (x0 : SpecSource) : Option (SpecSource × (List (ImplSlot)) × Unit) := spec_source_slots.B N (spec_source_slots.L0 N N) x0

def spec_source_text.B0 (N : Nat) (G0 : SpecSource × (List UInt8) × Int × Unit → Option (SpecSource × (List UInt8) × Unit)) : SpecSource × (List UInt8) × Int × Unit → Option (SpecSource × (List UInt8) × Unit) :=
fun (x2, x3, x4, ()) =>
 br (decide (x4 > (0 : Int))) (
  bnd (spec_source_pick N x2 (6 : Int)) fun r6 =>
  gd (decide ((0 : Int) ≤ ((r6).2).1)) (
  gd (decide (((r6).2).1 < (((List.length ([([97] : List (UInt8)), ([98] : List (UInt8)), ([122, 57] : List (UInt8)), ([32] : List (UInt8)), ([48] : List (UInt8)), ([108, 111, 110, 103] : List (UInt8))] : List (List (UInt8)))) : Nat) : Int))) (
  gd (decide (((List.length x3) + (List.length (get ([([97] : List (UInt8)), ([98] : List (UInt8)), ([122, 57] : List (UInt8)), ([32] : List (UInt8)), ([48] : List (UInt8)), ([108, 111, 110, 103] : List (UInt8))] : List (List (UInt8))) ((r6).2).1))) < 68719476736)) (
  G0 ((r6).1, (x3 ++ (get ([([97] : List (UInt8)), ([98] : List (UInt8)), ([122, 57] : List (UInt8)), ([32] : List (UInt8)), ([48] : List (UInt8)), ([108, 111, 110, 103] : List (UInt8))] : List (List (UInt8))) ((r6).2).1)), (IntKind.i64.wrap (x4 - (1 : Int))), ()))))) (
  bnd (spec_source_rarely N x2) fun r7 =>
 br ((r7).2).1 (
  gd (decide (((List.length x3) + (List.length ([81] : List (UInt8)))) < 68719476736)) (
  some ((r7).1, (x3 ++ ([81] : List (UInt8))), ()))) (
  some ((r7).1, x3, ())))

def spec_source_text.B (N : Nat) (E0 : SpecSource × (List UInt8) × Int × Unit → Option (SpecSource × (List UInt8) × Unit)) (x0 : SpecSource) : Option (SpecSource × (List UInt8) × Unit) :=
 bnd (spec_source_pick N x0 (4 : Int)) fun r1 =>
 E0 ((r1).1, ([] : List (UInt8)), ((r1).2).1, ())

def spec_source_text.L0 (N : Nat) : Nat → SpecSource × (List UInt8) × Int × Unit → Option (SpecSource × (List UInt8) × Unit)
  | 0, _ => none
  | n + 1, x => spec_source_text.B0 N (spec_source_text.L0 N n) x

def spec_source_text (N : Nat) (x0 : SpecSource) : Option (SpecSource × (List UInt8) × Unit) := spec_source_text.B N (spec_source_text.L0 N N) x0

def spec_source_value.B (N : Nat) (x0 : SpecSource) : Option (SpecSource × ImplValue × Unit) :=
 bnd (spec_source_pick N x0 (6 : Int)) fun r1 =>
 br (((r1).2).1 == (0 : Int)) (
  some ((r1).1, (ImplValue.mk (0 : Int) (0 : Int) ([] : List (UInt8))), ())) (
  br (((r1).2).1 == (1 : Int)) (
  bnd (spec_source_text N (r1).1) fun r2 =>
  some ((r2).1, (ImplValue.mk (2 : Int) (0 : Int) ((r2).2).1), ())) (
  br (((r1).2).1 == (2 : Int)) (
  bnd (spec_source_one N (r1).1 ([(0 : Int), (1 : Int), (-(1 : Int)), (1000 : Int), (-(1000 : Int)), (500 : Int), (1001 : Int)] : List (Int))) fun r3 =>
  some ((r3).1, (ImplValue.mk (1 : Int) ((r3).2).1 ([] : List (UInt8))), ())) (
  bnd (spec_source_pick N (r1).1 (6 : Int)) fun r4 =>
 some ((r4).1, (ImplValue.mk (1 : Int) (IntKind.i64.wrap (((r4).2).1 - (1 : Int))) ([] : List (UInt8))), ()))))

def spec_source_value (N : Nat) (x0 : SpecSource) : Option (SpecSource × ImplValue × Unit) := spec_source_value.B N x0

def spec_inRange.B (N : Nat) (x0 : Int) (x1 : Int) (x2 : Int) : Option (Bool × Unit) :=
 br (decide (x0 ≥ x1)) (
  some ((decide (x0 ≤ x2)), ())) (
  some (false, ()))

def spec_inRange (N : Nat) (x0 : Int) (x1 : Int) (x2 : Int) : Option (Bool × Unit) := spec_inRange.B N x0 x1 x2

def spec_plainByte.B (N : Nat) (x0 : Int) : Option (Bool × Unit) :=
 br (decide (x0 ≥ (97 : Int))) (
  br (decide (x0 ≤ (122 : Int))) (
   some (true, ())) (
   br (decide (x0 ≥ (48 : Int))) (
   br (decide (x0 ≤ (57 : Int))) (
    some (true, ())) (
    some ((x0 == (32 : Int)), ()))) (
   some ((x0 == (32 : Int)), ())))) (
  br (decide (x0 ≥ (48 : Int))) (
  br (decide (x0 ≤ (57 : Int))) (
   some (true, ())) (
   some ((x0 == (32 : Int)), ()))) (
  some ((x0 == (32 : Int)), ())))

def spec_plainByte (N : Nat) (x0 : Int) : Option (Bool × Unit) := spec_plainByte.B N x0

def spec_validWord.B0 (N : Nat) (G0 : (List UInt8) × Int × Unit → Option (Bool × Unit)) : (List UInt8) × Int × Unit → Option (Bool × Unit) :=
fun (x1, x2, ()) =>
 br (decide (x2 < (((List.length x1) : Nat) : Int))) (
  gd (decide ((0 : Int) ≤ x2)) (
  gd (decide (x2 < (((List.length x1) : Nat) : Int))) (
  bnd (spec_plainByte N (((UInt8.toNat (List.getD x1 (Int.toNat x2) 0)) : Nat) : Int)) fun r4 =>
  br (!(r4).1) (
   some (false, ())) (
   G0 (x1, (IntKind.i64.wrap (x2 + (1 : Int))), ()))))) (
  some (true, ()))

def spec_validWord.B (N : Nat) (E0 : (List UInt8) × Int × Unit → Option (Bool × Unit)) (x0 : List UInt8) : Option (Bool × Unit) :=
 br (decide ((((List.length x0) : Nat) : Int) > (12 : Int))) (
  some (false, ())) (
  E0 (x0, (0 : Int), ()))

def spec_validWord.L0 (N : Nat) : Nat → (List UInt8) × Int × Unit → Option (Bool × Unit)
  | 0, _ => none
  | n + 1, x => spec_validWord.B0 N (spec_validWord.L0 N n) x

def spec_validWord (N : Nat) (x0 : List UInt8) : Option (Bool × Unit) := spec_validWord.B N (spec_validWord.L0 N N) x0

def spec_validValue.B (N : Nat) (x0 : ImplValue) : Option (Bool × Unit) :=
 br ((ImplValue.kind x0) == (0 : Int)) (
  br ((ImplValue.num x0) == (0 : Int)) (
   some (((ImplValue.text x0) == ([] : List (UInt8))), ())) (
   some (false, ()))) (
  br ((ImplValue.kind x0) == (1 : Int)) (
  bnd (spec_inRange N (ImplValue.num x0) (-(1000 : Int)) (1000 : Int)) fun r1 =>
  br (r1).1 (
   some (((ImplValue.text x0) == ([] : List (UInt8))), ())) (
   some (false, ()))) (
  br ((ImplValue.kind x0) == (2 : Int)) (
  br ((ImplValue.num x0) == (0 : Int)) (
   bnd (spec_validWord N (ImplValue.text x0)) fun r2 =>
   some ((r2).1, ())) (
   some (false, ()))) (
  some (false, ()))))

def spec_validValue (N : Nat) (x0 : ImplValue) : Option (Bool × Unit) := spec_validValue.B N x0

def spec_source_good.B (N : Nat) (x0 : SpecSource) : Option (SpecSource × ImplValue × Unit) :=
 bnd (spec_source_value N x0) fun r1 =>
 bnd (spec_validValue N ((r1).2).1) fun r2 =>
 br (!(r2).1) (
  some ((r1).1, (ImplValue.mk (1 : Int) (2 : Int) ([] : List (UInt8))), ())) (
  some ((r1).1, ((r1).2).1, ()))

def spec_source_good (N : Nat) (x0 : SpecSource) : Option (SpecSource × ImplValue × Unit) := spec_source_good.B N x0

def spec_source_goods.B0 (N : Nat) (G0 : SpecSource × Int × (List (ImplValue)) × Unit → Option (SpecSource × (List (ImplValue)) × Unit)) : SpecSource × Int × (List (ImplValue)) × Unit → Option (SpecSource × (List (ImplValue)) × Unit) :=
fun (x2, x3, x4, ()) =>
 br (decide (x3 > (0 : Int))) (
  bnd (spec_source_good N x2) fun r6 =>
  gd (decide (((List.length x4) + (List.length ([((r6).2).1] : List (ImplValue)))) < 68719476736)) (
  G0 ((r6).1, (IntKind.i64.wrap (x3 - (1 : Int))), (x4 ++ ([((r6).2).1] : List (ImplValue))), ()))) (
  some (x2, x4, ()))

def spec_source_goods.B (N : Nat) (E0 : SpecSource × Int × (List (ImplValue)) × Unit → Option (SpecSource × (List (ImplValue)) × Unit)) (x0 : SpecSource) (x1 : Int) : Option (SpecSource × (List (ImplValue)) × Unit) :=
 E0 (x0, x1, ([] : List (ImplValue)), ())

def spec_source_goods.L0 (N : Nat) : Nat → SpecSource × Int × (List (ImplValue)) × Unit → Option (SpecSource × (List (ImplValue)) × Unit)
  | 0, _ => none
  | n + 1, x => spec_source_goods.B0 N (spec_source_goods.L0 N n) x

def spec_source_goods (N : Nat) (x0 : SpecSource) (x1 : Int) : Option (SpecSource × (List (ImplValue)) × Unit) := spec_source_goods.B N (spec_source_goods.L0 N N) x0 x1

def spec_validSlot.B (N : Nat) (x0 : ImplSlot) : Option (Bool × Unit) :=
 bnd (spec_inRange N (ImplSlot.pos x0) (0 : Int) (3 : Int)) fun r1 =>
 br (r1).1 (
  bnd (spec_inRange N (ImplSlot.sub x0) (0 : Int) (103 : Int)) fun r2 =>
  some ((r2).1, ())) (
  some (false, ()))

def spec_validSlot (N : Nat) (x0 : ImplSlot) : Option (Bool × Unit) := spec_validSlot.B N x0

def spec_validPlace.B0 (N : Nat) (G0 : (List (ImplSlot)) × Int × Unit → Option (Bool × Unit)) : (List (ImplSlot)) × Int × Unit → Option (Bool × Unit) :=
fun (x1, x2, ()) =>
 br (decide (x2 < (((List.length x1) : Nat) : Int))) (
  gd (decide ((0 : Int) ≤ x2)) (
  gd (decide (x2 < (((List.length x1) : Nat) : Int))) (
  bnd (spec_validSlot N (get x1 x2)) fun r4 =>
  br (!(r4).1) (
   some (false, ())) (
   G0 (x1, (IntKind.i64.wrap (x2 + (1 : Int))), ()))))) (
  some (true, ()))

def spec_validPlace.B (N : Nat) (E0 : (List (ImplSlot)) × Int × Unit → Option (Bool × Unit)) (x0 : List (ImplSlot)) : Option (Bool × Unit) :=
 br (decide ((((List.length x0) : Nat) : Int) > (20 : Int))) (
  some (false, ())) (
  E0 (x0, (0 : Int), ()))

def spec_validPlace.L0 (N : Nat) : Nat → (List (ImplSlot)) × Int × Unit → Option (Bool × Unit)
  | 0, _ => none
  | n + 1, x => spec_validPlace.B0 N (spec_validPlace.L0 N n) x

def spec_validPlace (N : Nat) (x0 : List (ImplSlot)) : Option (Bool × Unit) := spec_validPlace.B N (spec_validPlace.L0 N N) x0

def spec_comparePlaces.B0 (N : Nat) (G0 : (List (ImplSlot)) × (List (ImplSlot)) × Int × Unit → Option (Int × Unit)) : (List (ImplSlot)) × (List (ImplSlot)) × Int × Unit → Option (Int × Unit) :=
fun (x2, x3, x4, ()) =>
 br (decide (x4 < (((List.length x2) : Nat) : Int))) (
  br (decide (x4 < (((List.length x3) : Nat) : Int))) (
   gd (decide ((0 : Int) ≤ x4)) (
   gd (decide (x4 < (((List.length x2) : Nat) : Int))) (
   gd (decide ((0 : Int) ≤ x4)) (
   gd (decide (x4 < (((List.length x3) : Nat) : Int))) (
   br (decide ((ImplSlot.pos (get x2 x4)) < (ImplSlot.pos (get x3 x4)))) (
    br (decide ((ImplSlot.pos (get x2 x4)) < (ImplSlot.pos (get x3 x4)))) (
     some ((-(1 : Int)), ())) (
     gd (decide ((0 : Int) ≤ x4)) (
    gd (decide (x4 < (((List.length x2) : Nat) : Int))) (
    gd (decide ((0 : Int) ≤ x4)) (
    gd (decide (x4 < (((List.length x3) : Nat) : Int))) (
    br (!(((ImplSlot.pos (get x2 x4)) == (ImplSlot.pos (get x3 x4))) && ((ImplSlot.sub (get x2 x4)) == (ImplSlot.sub (get x3 x4))))) (
     some ((1 : Int), ())) (
     G0 (x2, x3, (IntKind.i64.wrap (x4 + (1 : Int))), ())))))))) (
    gd (decide ((0 : Int) ≤ x4)) (
   gd (decide (x4 < (((List.length x2) : Nat) : Int))) (
   gd (decide ((0 : Int) ≤ x4)) (
   gd (decide (x4 < (((List.length x3) : Nat) : Int))) (
   br ((ImplSlot.pos (get x2 x4)) == (ImplSlot.pos (get x3 x4))) (
    gd (decide ((0 : Int) ≤ x4)) (
    gd (decide (x4 < (((List.length x2) : Nat) : Int))) (
    gd (decide ((0 : Int) ≤ x4)) (
    gd (decide (x4 < (((List.length x3) : Nat) : Int))) (
    br (decide ((ImplSlot.sub (get x2 x4)) < (ImplSlot.sub (get x3 x4)))) (
     some ((-(1 : Int)), ())) (
     gd (decide ((0 : Int) ≤ x4)) (
    gd (decide (x4 < (((List.length x2) : Nat) : Int))) (
    gd (decide ((0 : Int) ≤ x4)) (
    gd (decide (x4 < (((List.length x3) : Nat) : Int))) (
    br (!(((ImplSlot.pos (get x2 x4)) == (ImplSlot.pos (get x3 x4))) && ((ImplSlot.sub (get x2 x4)) == (ImplSlot.sub (get x3 x4))))) (
     some ((1 : Int), ())) (
     G0 (x2, x3, (IntKind.i64.wrap (x4 + (1 : Int))), ())))))))))))) (
    gd (decide ((0 : Int) ≤ x4)) (
   gd (decide (x4 < (((List.length x2) : Nat) : Int))) (
   gd (decide ((0 : Int) ≤ x4)) (
   gd (decide (x4 < (((List.length x3) : Nat) : Int))) (
   br (!(((ImplSlot.pos (get x2 x4)) == (ImplSlot.pos (get x3 x4))) && ((ImplSlot.sub (get x2 x4)) == (ImplSlot.sub (get x3 x4))))) (
    some ((1 : Int), ())) (
    G0 (x2, x3, (IntKind.i64.wrap (x4 + (1 : Int))), ()))))))))))))))))) (
   br (decide ((((List.length x2) : Nat) : Int) < (((List.length x3) : Nat) : Int))) (
   some ((-(1 : Int)), ())) (
   br (decide ((((List.length x2) : Nat) : Int) > (((List.length x3) : Nat) : Int))) (
   some ((1 : Int), ())) (
   some ((0 : Int), ()))))) (
  br (decide ((((List.length x2) : Nat) : Int) < (((List.length x3) : Nat) : Int))) (
  some ((-(1 : Int)), ())) (
  br (decide ((((List.length x2) : Nat) : Int) > (((List.length x3) : Nat) : Int))) (
  some ((1 : Int), ())) (
  some ((0 : Int), ()))))

def spec_comparePlaces.B (N : Nat) (E0 : (List (ImplSlot)) × (List (ImplSlot)) × Int × Unit → Option (Int × Unit)) (x0 : List (ImplSlot)) (x1 : List (ImplSlot)) : Option (Int × Unit) :=
 E0 (x0, x1, (0 : Int), ())

def spec_comparePlaces.L0 (N : Nat) : Nat → (List (ImplSlot)) × (List (ImplSlot)) × Int × Unit → Option (Int × Unit)
  | 0, _ => none
  | n + 1, x => spec_comparePlaces.B0 N (spec_comparePlaces.L0 N n) x

def spec_comparePlaces (N : Nat) (x0 : List (ImplSlot)) (x1 : List (ImplSlot)) : Option (Int × Unit) := spec_comparePlaces.B N (spec_comparePlaces.L0 N N) x0 x1

def spec_cellAt.B0 (N : Nat) (G0 : (List (ImplCell)) × (List (ImplSlot)) × Int × Unit → Option (Int × Bool × Unit)) : (List (ImplCell)) × (List (ImplSlot)) × Int × Unit → Option (Int × Bool × Unit) :=
fun (x2, x3, x4, ()) =>
 br (decide (x4 < (((List.length x2) : Nat) : Int))) (
  gd (decide ((0 : Int) ≤ x4)) (
  gd (decide (x4 < (((List.length x2) : Nat) : Int))) (
  bnd (spec_comparePlaces N (ImplCell.place (get x2 x4)) x3) fun r6 =>
  br (decide ((r6).1 < (0 : Int))) (
   G0 (x2, x3, (IntKind.i64.wrap (x4 + (1 : Int))), ())) (
   br (decide (x4 < (((List.length x2) : Nat) : Int))) (
   gd (decide ((0 : Int) ≤ x4)) (
   gd (decide (x4 < (((List.length x2) : Nat) : Int))) (
   bnd (spec_comparePlaces N (ImplCell.place (get x2 x4)) x3) fun r7 =>
   some (x4, ((r7).1 == (0 : Int)), ())))) (
   some (x4, false, ())))))) (
  br (decide (x4 < (((List.length x2) : Nat) : Int))) (
  gd (decide ((0 : Int) ≤ x4)) (
  gd (decide (x4 < (((List.length x2) : Nat) : Int))) (
  bnd (spec_comparePlaces N (ImplCell.place (get x2 x4)) x3) fun r8 =>
  some (x4, ((r8).1 == (0 : Int)), ())))) (
  some (x4, false, ())))

def spec_cellAt.B (N : Nat) (E0 : (List (ImplCell)) × (List (ImplSlot)) × Int × Unit → Option (Int × Bool × Unit)) (x0 : List (ImplCell)) (x1 : List (ImplSlot)) : Option (Int × Bool × Unit) :=
 E0 (x0, x1, (0 : Int), ())

def spec_cellAt.L0 (N : Nat) : Nat → (List (ImplCell)) × (List (ImplSlot)) × Int × Unit → Option (Int × Bool × Unit)
  | 0, _ => none
  | n + 1, x => spec_cellAt.B0 N (spec_cellAt.L0 N n) x

def spec_cellAt (N : Nat) (x0 : List (ImplCell)) (x1 : List (ImplSlot)) : Option (Int × Bool × Unit) := spec_cellAt.B N (spec_cellAt.L0 N N) x0 x1

def spec_copyCell.B (N : Nat) (x0 : ImplCell) : Option (ImplCell × Unit) :=
 gd (decide (((List.length ([] : List (ImplSlot))) + (List.length (ImplCell.place x0))) < 68719476736)) (
 gd (decide (((List.length ([] : List (ImplValue))) + (List.length (ImplCell.states x0))) < 68719476736)) (
 some ((ImplCell.mk (([] : List (ImplSlot)) ++ (ImplCell.place x0)) (([] : List (ImplValue)) ++ (ImplCell.states x0))), ())))

def spec_copyCell (N : Nat) (x0 : ImplCell) : Option (ImplCell × Unit) := spec_copyCell.B N x0

def spec_copyStore.B0 (N : Nat) (G0 : (List (ImplCell)) × (List (ImplCell)) × Int × Unit → Option ((List (ImplCell)) × Unit)) : (List (ImplCell)) × (List (ImplCell)) × Int × Unit → Option ((List (ImplCell)) × Unit) :=
fun (x1, x2, x3, ()) =>
 br (decide (x3 < (((List.length x1) : Nat) : Int))) (
  gd (decide ((0 : Int) ≤ x3)) (
  gd (decide (x3 < (((List.length x1) : Nat) : Int))) (
  bnd (spec_copyCell N (get x1 x3)) fun r5 =>
  gd (decide (((List.length x2) + (List.length ([(r5).1] : List (ImplCell)))) < 68719476736)) (
  G0 (x1, (x2 ++ ([(r5).1] : List (ImplCell))), (IntKind.i64.wrap (x3 + (1 : Int))), ()))))) (
  some (x2, ()))

def spec_copyStore.B (N : Nat) (E0 : (List (ImplCell)) × (List (ImplCell)) × Int × Unit → Option ((List (ImplCell)) × Unit)) (x0 : List (ImplCell)) : Option ((List (ImplCell)) × Unit) :=
 E0 (x0, ([] : List (ImplCell)), (0 : Int), ())

def spec_copyStore.L0 (N : Nat) : Nat → (List (ImplCell)) × (List (ImplCell)) × Int × Unit → Option ((List (ImplCell)) × Unit)
  | 0, _ => none
  | n + 1, x => spec_copyStore.B0 N (spec_copyStore.L0 N n) x

def spec_copyStore (N : Nat) (x0 : List (ImplCell)) : Option ((List (ImplCell)) × Unit) := spec_copyStore.B N (spec_copyStore.L0 N N) x0

def spec_put.J6 (N : Nat) : (List (ImplCell)) × Int × (List (ImplCell)) × Unit → Option ((List (ImplCell)) × Unit) :=
fun (x5, x6, x7, ()) =>
 gd (decide ((0 : Int) ≤ x6)) (
 gd (decide (x6 ≤ (((List.length x5) : Nat) : Int))) (
 gd (decide ((((List.length x5) : Nat) : Int) ≤ (((List.length x5) : Nat) : Int))) (
 bnd (spec_copyStore N (sub x5 x6 (((List.length x5) : Nat) : Int))) fun r8 =>
 gd (decide (((List.length x7) + (List.length (r8).1)) < 68719476736)) (
 some ((x7 ++ (r8).1), ())))))

def spec_put.B (N : Nat) (x0 : List (ImplCell)) (x1 : ImplCell) : Option ((List (ImplCell)) × Unit) :=
 bnd (spec_cellAt N x0 (ImplCell.place x1)) fun r2 =>
 gd (decide ((0 : Int) ≤ (r2).1)) (
 gd (decide ((r2).1 ≤ (((List.length x0) : Nat) : Int))) (
 bnd (spec_copyStore N (sub x0 (0 : Int) (r2).1)) fun r3 =>
 bnd (spec_copyCell N x1) fun r4 =>
 gd (decide (((List.length (r3).1) + (List.length ([(r4).1] : List (ImplCell)))) < 68719476736)) (
 br ((r2).2).1 (
  spec_put.J6 N (x0, (IntKind.i64.wrap ((r2).1 + (1 : Int))), ((r3).1 ++ ([(r4).1] : List (ImplCell))), ())) (
  spec_put.J6 N (x0, (r2).1, ((r3).1 ++ ([(r4).1] : List (ImplCell))), ())))))

def spec_put (N : Nat) (x0 : List (ImplCell)) (x1 : ImplCell) : Option ((List (ImplCell)) × Unit) := spec_put.B N x0 x1

def spec_source_cells.B0 (N : Nat) (G0 : SpecSource × (List (ImplCell)) × Int × Unit → Option (SpecSource × (List (ImplCell)) × Unit)) : SpecSource × (List (ImplCell)) × Int × Unit → Option (SpecSource × (List (ImplCell)) × Unit) :=
fun (x2, x3, x4, ()) =>
 br (decide (x4 > (0 : Int))) (
  bnd (spec_source_slots N x2) fun r6 =>
  bnd (spec_source_pick N (r6).1 (4 : Int)) fun r7 =>
  bnd (spec_source_goods N (r7).1 ((r7).2).1) fun r8 =>
  bnd (spec_validPlace N ((r6).2).1) fun r9 =>
  br (r9).1 (
   bnd (spec_put N x3 (ImplCell.mk ((r6).2).1 ((r8).2).1)) fun r10 =>
   G0 ((r8).1, (r10).1, (IntKind.i64.wrap (x4 - (1 : Int))), ())) (
   G0 ((r8).1, x3, (IntKind.i64.wrap (x4 - (1 : Int))), ()))) (
  some (x2, x3, ()))

def spec_source_cells.B (N : Nat) (E0 : SpecSource × (List (ImplCell)) × Int × Unit → Option (SpecSource × (List (ImplCell)) × Unit)) (x0 : SpecSource) : Option (SpecSource × (List (ImplCell)) × Unit) :=
 bnd (spec_source_pick N x0 (5 : Int)) fun r1 =>
 E0 ((r1).1, ([] : List (ImplCell)), ((r1).2).1, ())

def spec_source_cells.L0 (N : Nat) : Nat → SpecSource × (List (ImplCell)) × Int × Unit → Option (SpecSource × (List (ImplCell)) × Unit)
  | 0, _ => none
  | n + 1, x => spec_source_cells.B0 N (spec_source_cells.L0 N n) x

def spec_source_cells (N : Nat) (x0 : SpecSource) : Option (SpecSource × (List (ImplCell)) × Unit) := spec_source_cells.B N (spec_source_cells.L0 N N) x0

def spec_source_leaf.B (N : Nat) (x0 : SpecSource) (x1 : Int) (x2 : Int) (x3 : Int) : Option (SpecSource × ImplStep × Unit) :=
 bnd (spec_source_pick N x0 (7 : Int)) fun r4 =>
 br (((r4).2).1 == (0 : Int)) (
  br (((r4).2).1 == (0 : Int)) (
   br (decide (x2 > (0 : Int))) (
    bnd (spec_source_pick N (r4).1 x2) fun r5 =>
    some ((r5).1, (ImplStep.mk (2 : Int) ((r5).2).1 (0 : Int) (0 : Int) ([] : List (UInt8))), ())) (
    bnd (spec_source_good N (r4).1) fun r6 =>
   some ((r6).1, (ImplStep.mk (0 : Int) (0 : Int) (ImplValue.kind ((r6).2).1) (ImplValue.num ((r6).2).1) (ImplValue.text ((r6).2).1)), ()))) (
   br (((r4).2).1 == (2 : Int)) (
   br (decide (x1 > (0 : Int))) (
    bnd (spec_source_pick N (r4).1 x1) fun r7 =>
    some ((r7).1, (ImplStep.mk (1 : Int) ((r7).2).1 (0 : Int) (0 : Int) ([] : List (UInt8))), ())) (
    bnd (spec_source_good N (r4).1) fun r8 =>
   some ((r8).1, (ImplStep.mk (0 : Int) (0 : Int) (ImplValue.kind ((r8).2).1) (ImplValue.num ((r8).2).1) (ImplValue.text ((r8).2).1)), ()))) (
   br (((r4).2).1 == (3 : Int)) (
   br (decide (x3 > (0 : Int))) (
    bnd (spec_source_pick N (r4).1 x3) fun r9 =>
    some ((r9).1, (ImplStep.mk (3 : Int) ((r9).2).1 (0 : Int) (0 : Int) ([] : List (UInt8))), ())) (
    bnd (spec_source_good N (r4).1) fun r10 =>
   some ((r10).1, (ImplStep.mk (0 : Int) (0 : Int) (ImplValue.kind ((r10).2).1) (ImplValue.num ((r10).2).1) (ImplValue.text ((r10).2).1)), ()))) (
   br (((r4).2).1 == (4 : Int)) (
   bnd (spec_source_pick N (r4).1 (2 : Int)) fun r11 =>
   some ((r11).1, (ImplStep.mk (4 : Int) ((r11).2).1 (0 : Int) (0 : Int) ([] : List (UInt8))), ())) (
   bnd (spec_source_good N (r4).1) fun r12 =>
  some ((r12).1, (ImplStep.mk (0 : Int) (0 : Int) (ImplValue.kind ((r12).2).1) (ImplValue.num ((r12).2).1) (ImplValue.text ((r12).2).1)), ())))))) (
  br (((r4).2).1 == (1 : Int)) (
  br (decide (x2 > (0 : Int))) (
   bnd (spec_source_pick N (r4).1 x2) fun r13 =>
   some ((r13).1, (ImplStep.mk (2 : Int) ((r13).2).1 (0 : Int) (0 : Int) ([] : List (UInt8))), ())) (
   bnd (spec_source_good N (r4).1) fun r14 =>
  some ((r14).1, (ImplStep.mk (0 : Int) (0 : Int) (ImplValue.kind ((r14).2).1) (ImplValue.num ((r14).2).1) (ImplValue.text ((r14).2).1)), ()))) (
  br (((r4).2).1 == (2 : Int)) (
  br (decide (x1 > (0 : Int))) (
   bnd (spec_source_pick N (r4).1 x1) fun r15 =>
   some ((r15).1, (ImplStep.mk (1 : Int) ((r15).2).1 (0 : Int) (0 : Int) ([] : List (UInt8))), ())) (
   bnd (spec_source_good N (r4).1) fun r16 =>
  some ((r16).1, (ImplStep.mk (0 : Int) (0 : Int) (ImplValue.kind ((r16).2).1) (ImplValue.num ((r16).2).1) (ImplValue.text ((r16).2).1)), ()))) (
  br (((r4).2).1 == (3 : Int)) (
  br (decide (x3 > (0 : Int))) (
   bnd (spec_source_pick N (r4).1 x3) fun r17 =>
   some ((r17).1, (ImplStep.mk (3 : Int) ((r17).2).1 (0 : Int) (0 : Int) ([] : List (UInt8))), ())) (
   bnd (spec_source_good N (r4).1) fun r18 =>
  some ((r18).1, (ImplStep.mk (0 : Int) (0 : Int) (ImplValue.kind ((r18).2).1) (ImplValue.num ((r18).2).1) (ImplValue.text ((r18).2).1)), ()))) (
  br (((r4).2).1 == (4 : Int)) (
  bnd (spec_source_pick N (r4).1 (2 : Int)) fun r19 =>
  some ((r19).1, (ImplStep.mk (4 : Int) ((r19).2).1 (0 : Int) (0 : Int) ([] : List (UInt8))), ())) (
  bnd (spec_source_good N (r4).1) fun r20 =>
 some ((r20).1, (ImplStep.mk (0 : Int) (0 : Int) (ImplValue.kind ((r20).2).1) (ImplValue.num ((r20).2).1) (ImplValue.text ((r20).2).1)), ()))))))

def spec_source_leaf (N : Nat) (x0 : SpecSource) (x1 : Int) (x2 : Int) (x3 : Int) : Option (SpecSource × ImplStep × Unit) := spec_source_leaf.B N x0 x1 x2 x3

def spec_source_form.B (N : Nat) (R_spec_source_form : SpecSource → Int → Int → Int → Int → Option (SpecSource × (List (ImplStep)) × Unit)) (x0 : SpecSource) (x1 : Int) (x2 : Int) (x3 : Int) (x4 : Int) : Option (SpecSource × (List (ImplStep)) × Unit) :=
 br (decide (x4 < (3 : Int))) (
  bnd (spec_source_leaf N x0 x1 x2 x3) fun r5 =>
  some ((r5).1, ([((r5).2).1] : List (ImplStep)), ())) (
  bnd (spec_source_pick N x0 (2 : Int)) fun r6 =>
 br (((r6).2).1 == (0 : Int)) (
  bnd (spec_source_leaf N (r6).1 x1 x2 x3) fun r7 =>
  some ((r7).1, ([((r7).2).1] : List (ImplStep)), ())) (
  br (decide (x4 > (3 : Int))) (
  bnd (spec_source_pick N (r6).1 (4 : Int)) fun r8 =>
  br (((r8).2).1 == (0 : Int)) (
   bnd (R_spec_source_form (r8).1 x1 x2 x3 (1 : Int)) fun r9 =>
   bnd (R_spec_source_form (r9).1 x1 x2 x3 (1 : Int)) fun r10 =>
   bnd (R_spec_source_form (r10).1 x1 x2 x3 (IntKind.i64.wrap (x4 - (3 : Int)))) fun r11 =>
   gd (decide (((List.length ((r9).2).1) + (List.length ((r10).2).1)) < 68719476736)) (
   gd (decide (((List.length (((r9).2).1 ++ ((r10).2).1)) + (List.length ((r11).2).1)) < 68719476736)) (
   gd (decide (((List.length ((((r9).2).1 ++ ((r10).2).1) ++ ((r11).2).1)) + (List.length ([(ImplStep.mk (6 : Int) (0 : Int) (0 : Int) (0 : Int) ([] : List (UInt8)))] : List (ImplStep)))) < 68719476736)) (
   some ((r11).1, (((((r9).2).1 ++ ((r10).2).1) ++ ((r11).2).1) ++ ([(ImplStep.mk (6 : Int) (0 : Int) (0 : Int) (0 : Int) ([] : List (UInt8)))] : List (ImplStep))), ()))))) (
   bnd (R_spec_source_form (r8).1 x1 x2 x3 (1 : Int)) fun r12 =>
  bnd (R_spec_source_form (r12).1 x1 x2 x3 (IntKind.i64.wrap (x4 - (2 : Int)))) fun r13 =>
  gd (decide (((List.length ((r12).2).1) + (List.length ((r13).2).1)) < 68719476736)) (
  bnd (spec_source_pick N (r13).1 (7 : Int)) fun r14 =>
  gd (decide (((List.length (((r12).2).1 ++ ((r13).2).1)) + (List.length ([(ImplStep.mk (5 : Int) ((r14).2).1 (0 : Int) (0 : Int) ([] : List (UInt8)))] : List (ImplStep)))) < 68719476736)) (
  some ((r14).1, ((((r12).2).1 ++ ((r13).2).1) ++ ([(ImplStep.mk (5 : Int) ((r14).2).1 (0 : Int) (0 : Int) ([] : List (UInt8)))] : List (ImplStep))), ()))))) (
  bnd (R_spec_source_form (r6).1 x1 x2 x3 (1 : Int)) fun r15 =>
 bnd (R_spec_source_form (r15).1 x1 x2 x3 (IntKind.i64.wrap (x4 - (2 : Int)))) fun r16 =>
 gd (decide (((List.length ((r15).2).1) + (List.length ((r16).2).1)) < 68719476736)) (
 bnd (spec_source_pick N (r16).1 (7 : Int)) fun r17 =>
 gd (decide (((List.length (((r15).2).1 ++ ((r16).2).1)) + (List.length ([(ImplStep.mk (5 : Int) ((r17).2).1 (0 : Int) (0 : Int) ([] : List (UInt8)))] : List (ImplStep)))) < 68719476736)) (
 some ((r17).1, ((((r15).2).1 ++ ((r16).2).1) ++ ([(ImplStep.mk (5 : Int) ((r17).2).1 (0 : Int) (0 : Int) ([] : List (UInt8)))] : List (ImplStep))), ()))))))

def spec_source_form.R (N : Nat) : Nat → SpecSource → Int → Int → Int → Int → Option (SpecSource × (List (ImplStep)) × Unit)
  | 0, _, _, _, _, _ => none
  | d + 1, x0, x1, x2, x3, x4 => spec_source_form.B N (spec_source_form.R N d) x0 x1 x2 x3 x4

def spec_source_form (N : Nat) (x0 : SpecSource) (x1 : Int) (x2 : Int) (x3 : Int) (x4 : Int) : Option (SpecSource × (List (ImplStep)) × Unit) := spec_source_form.R N N x0 x1 x2 x3 x4

def spec_source_update.J8 (N : Nat) : SpecSource × ImplUpdate × ImplUpdate × Int × Unit → Option (SpecSource × ImplUpdate × Unit) :=
fun (x6, x7, x8, x9, ()) =>
 bnd (spec_source_pick N x6 x9) fun r10 =>
 bnd (spec_source_form N (r10).1 (0 : Int) x9 (0 : Int) (5 : Int)) fun r11 =>
 bnd (spec_source_rarely N (r11).1) fun r12 =>
 br ((r12).2).1 (
  bnd (spec_source_one N (r12).1 ([(-(2 : Int)), (-(1 : Int)), (3 : Int)] : List (Int))) fun r13 =>
  some ((r13).1, (ImplUpdate.mk (ImplUpdate.place x8) ((r10).2).1 ((r11).2).1 ((r13).2).1), ())) (
  some ((r12).1, (ImplUpdate.mk (ImplUpdate.place x8) ((r10).2).1 ((r11).2).1 (ImplUpdate.lane x8)), ()))

def spec_source_update.B (N : Nat) (x0 : SpecSource) (x1 : List (ImplCell)) : Option (SpecSource × ImplUpdate × Unit) :=
 bnd (spec_source_pick N x0 (3 : Int)) fun r2 =>
 bnd (spec_source_pick N (r2).1 (3 : Int)) fun r3 =>
 br (decide ((((List.length x1) : Nat) : Int) > (0 : Int))) (
  bnd (spec_source_pick N (r3).1 (8 : Int)) fun r4 =>
  br (decide (((r4).2).1 > (0 : Int))) (
   bnd (spec_source_pick N (r4).1 (((List.length x1) : Nat) : Int)) fun r5 =>
   gd (decide ((0 : Int) ≤ ((r5).2).1)) (
   gd (decide (((r5).2).1 < (((List.length x1) : Nat) : Int))) (
   gd (decide (((List.length ([] : List (ImplSlot))) + (List.length (ImplCell.place (get x1 ((r5).2).1)))) < 68719476736)) (
   spec_source_update.J8 N ((r5).1, (ImplUpdate.mk ([] : List (ImplSlot)) (0 : Int) ([] : List (ImplStep)) (0 : Int)), (ImplUpdate.mk (([] : List (ImplSlot)) ++ (ImplCell.place (get x1 ((r5).2).1))) (0 : Int) ([] : List (ImplStep)) ((r2).2).1), (cond (decide ((((List.length (ImplCell.states (get x1 ((r5).2).1))) : Nat) : Int) > (1 : Int))) (((List.length (ImplCell.states (get x1 ((r5).2).1))) : Nat) : Int) (1 : Int)), ()))))) (
   bnd (spec_source_slots N (r4).1) fun r14 =>
  spec_source_update.J8 N ((r14).1, (ImplUpdate.mk ([] : List (ImplSlot)) (0 : Int) ([] : List (ImplStep)) (0 : Int)), (ImplUpdate.mk ((r14).2).1 (0 : Int) ([] : List (ImplStep)) ((r2).2).1), (IntKind.i64.wrap ((1 : Int) + ((r3).2).1)), ()))) (
  bnd (spec_source_slots N (r3).1) fun r15 =>
 spec_source_update.J8 N ((r15).1, (ImplUpdate.mk ([] : List (ImplSlot)) (0 : Int) ([] : List (ImplStep)) (0 : Int)), (ImplUpdate.mk ((r15).2).1 (0 : Int) ([] : List (ImplStep)) ((r2).2).1), (IntKind.i64.wrap ((1 : Int) + ((r3).2).1)), ()))

def spec_source_update (N : Nat) (x0 : SpecSource) (x1 : List (ImplCell)) : Option (SpecSource × ImplUpdate × Unit) := spec_source_update.B N x0 x1

def spec_source_updates.B0 (N : Nat) (G0 : SpecSource × (List (ImplCell)) × (List (ImplUpdate)) × Int × Unit → Option (SpecSource × (List (ImplUpdate)) × Unit)) : SpecSource × (List (ImplCell)) × (List (ImplUpdate)) × Int × Unit → Option (SpecSource × (List (ImplUpdate)) × Unit) :=
fun (x3, x4, x5, x6, ()) =>
 br (decide (x6 > (0 : Int))) (
  bnd (spec_source_update N x3 x4) fun r8 =>
  gd (decide (((List.length x5) + (List.length ([((r8).2).1] : List (ImplUpdate)))) < 68719476736)) (
  G0 ((r8).1, x4, (x5 ++ ([((r8).2).1] : List (ImplUpdate))), (IntKind.i64.wrap (x6 - (1 : Int))), ()))) (
  some (x3, x5, ()))

def spec_source_updates.B (N : Nat) (E0 : SpecSource × (List (ImplCell)) × (List (ImplUpdate)) × Int × Unit → Option (SpecSource × (List (ImplUpdate)) × Unit)) (x0 : SpecSource) (x1 : List (ImplCell)) : Option (SpecSource × (List (ImplUpdate)) × Unit) :=
 bnd (spec_source_pick N x0 (8 : Int)) fun r2 =>
 E0 ((r2).1, x1, ([] : List (ImplUpdate)), ((r2).2).1, ())

def spec_source_updates.L0 (N : Nat) : Nat → SpecSource × (List (ImplCell)) × (List (ImplUpdate)) × Int × Unit → Option (SpecSource × (List (ImplUpdate)) × Unit)
  | 0, _ => none
  | n + 1, x => spec_source_updates.B0 N (spec_source_updates.L0 N n) x

def spec_source_updates (N : Nat) (x0 : SpecSource) (x1 : List (ImplCell)) : Option (SpecSource × (List (ImplUpdate)) × Unit) := spec_source_updates.B N (spec_source_updates.L0 N N) x0 x1

def spec_validValues.B0 (N : Nat) (G0 : (List (ImplValue)) × Int × Unit → Option (Bool × Unit)) : (List (ImplValue)) × Int × Unit → Option (Bool × Unit) :=
fun (x1, x2, ()) =>
 br (decide (x2 < (((List.length x1) : Nat) : Int))) (
  gd (decide ((0 : Int) ≤ x2)) (
  gd (decide (x2 < (((List.length x1) : Nat) : Int))) (
  bnd (spec_validValue N (get x1 x2)) fun r4 =>
  br (!(r4).1) (
   some (false, ())) (
   G0 (x1, (IntKind.i64.wrap (x2 + (1 : Int))), ()))))) (
  some (true, ()))

def spec_validValues.B (N : Nat) (E0 : (List (ImplValue)) × Int × Unit → Option (Bool × Unit)) (x0 : List (ImplValue)) : Option (Bool × Unit) :=
 E0 (x0, (0 : Int), ())

def spec_validValues.L0 (N : Nat) : Nat → (List (ImplValue)) × Int × Unit → Option (Bool × Unit)
  | 0, _ => none
  | n + 1, x => spec_validValues.B0 N (spec_validValues.L0 N n) x

def spec_validValues (N : Nat) (x0 : List (ImplValue)) : Option (Bool × Unit) := spec_validValues.B N (spec_validValues.L0 N N) x0

def spec_validStore.B0 (N : Nat) (G0 : (List (ImplCell)) × Int × Unit → Option (Bool × Unit)) : (List (ImplCell)) × Int × Unit → Option (Bool × Unit) :=
fun (x1, x2, ()) =>
 br (decide (x2 < (((List.length x1) : Nat) : Int))) (
  gd (decide ((0 : Int) ≤ x2)) (
  gd (decide (x2 < (((List.length x1) : Nat) : Int))) (
  bnd (spec_validPlace N (ImplCell.place (get x1 x2))) fun r4 =>
  br (!(r4).1) (
   some (false, ())) (
   gd (decide ((0 : Int) ≤ x2)) (
  gd (decide (x2 < (((List.length x1) : Nat) : Int))) (
  br (decide ((((List.length (ImplCell.states (get x1 x2))) : Nat) : Int) > (3 : Int))) (
   some (false, ())) (
   gd (decide ((0 : Int) ≤ x2)) (
  gd (decide (x2 < (((List.length x1) : Nat) : Int))) (
  bnd (spec_validValues N (ImplCell.states (get x1 x2))) fun r5 =>
  br (!(r5).1) (
   some (false, ())) (
   br (decide (x2 > (0 : Int))) (
   gd (decide ((0 : Int) ≤ (IntKind.i64.wrap (x2 - (1 : Int))))) (
   gd (decide ((IntKind.i64.wrap (x2 - (1 : Int))) < (((List.length x1) : Nat) : Int))) (
   gd (decide ((0 : Int) ≤ x2)) (
   gd (decide (x2 < (((List.length x1) : Nat) : Int))) (
   bnd (spec_comparePlaces N (ImplCell.place (get x1 (IntKind.i64.wrap (x2 - (1 : Int))))) (ImplCell.place (get x1 x2))) fun r6 =>
   br (decide ((r6).1 ≥ (0 : Int))) (
    some (false, ())) (
    G0 (x1, (IntKind.i64.wrap (x2 + (1 : Int))), ()))))))) (
   G0 (x1, (IntKind.i64.wrap (x2 + (1 : Int))), ())))))))))))) (
  some (true, ()))

def spec_validStore.B (N : Nat) (E0 : (List (ImplCell)) × Int × Unit → Option (Bool × Unit)) (x0 : List (ImplCell)) : Option (Bool × Unit) :=
 br (decide ((((List.length x0) : Nat) : Int) > (200 : Int))) (
  some (false, ())) (
  E0 (x0, (0 : Int), ()))

def spec_validStore.L0 (N : Nat) : Nat → (List (ImplCell)) × Int × Unit → Option (Bool × Unit)
  | 0, _ => none
  | n + 1, x => spec_validStore.B0 N (spec_validStore.L0 N n) x

def spec_validStore (N : Nat) (x0 : List (ImplCell)) : Option (Bool × Unit) := spec_validStore.B N (spec_validStore.L0 N N) x0

def spec_validStep.B (N : Nat) (x0 : ImplStep) (x1 : Int) (x2 : Int) (x3 : Int) : Option (Bool × Unit) :=
 br ((ImplStep.kind x0) == (0 : Int)) (
  br ((ImplStep.a x0) == (0 : Int)) (
   bnd (spec_validValue N (ImplValue.mk (ImplStep.val_Kind x0) (ImplStep.val_Num x0) (ImplStep.val_Text x0))) fun r4 =>
   some ((r4).1, ())) (
   some (false, ()))) (
  br ((ImplStep.kind x0) == (1 : Int)) (
  bnd (spec_inRange N (ImplStep.a x0) (0 : Int) (IntKind.i64.wrap (x1 - (1 : Int)))) fun r5 =>
  br (r5).1 (
   some ((((ImplStep.val_Kind x0) == (0 : Int)) && (((ImplStep.val_Num x0) == (0 : Int)) && ((ImplStep.val_Text x0) == ([] : List (UInt8))))), ())) (
   some (false, ()))) (
  br ((ImplStep.kind x0) == (2 : Int)) (
  bnd (spec_inRange N (ImplStep.a x0) (0 : Int) (IntKind.i64.wrap (x2 - (1 : Int)))) fun r6 =>
  br (r6).1 (
   some ((((ImplStep.val_Kind x0) == (0 : Int)) && (((ImplStep.val_Num x0) == (0 : Int)) && ((ImplStep.val_Text x0) == ([] : List (UInt8))))), ())) (
   some (false, ()))) (
  br ((ImplStep.kind x0) == (3 : Int)) (
  bnd (spec_inRange N (ImplStep.a x0) (0 : Int) (IntKind.i64.wrap (x3 - (1 : Int)))) fun r7 =>
  br (r7).1 (
   some ((((ImplStep.val_Kind x0) == (0 : Int)) && (((ImplStep.val_Num x0) == (0 : Int)) && ((ImplStep.val_Text x0) == ([] : List (UInt8))))), ())) (
   some (false, ()))) (
  br ((ImplStep.kind x0) == (4 : Int)) (
  bnd (spec_inRange N (ImplStep.a x0) (0 : Int) (1 : Int)) fun r8 =>
  br (r8).1 (
   some ((((ImplStep.val_Kind x0) == (0 : Int)) && (((ImplStep.val_Num x0) == (0 : Int)) && ((ImplStep.val_Text x0) == ([] : List (UInt8))))), ())) (
   some (false, ()))) (
  br ((ImplStep.kind x0) == (5 : Int)) (
  bnd (spec_inRange N (ImplStep.a x0) (0 : Int) (6 : Int)) fun r9 =>
  br (r9).1 (
   some ((((ImplStep.val_Kind x0) == (0 : Int)) && (((ImplStep.val_Num x0) == (0 : Int)) && ((ImplStep.val_Text x0) == ([] : List (UInt8))))), ())) (
   some (false, ()))) (
  br ((ImplStep.kind x0) == (6 : Int)) (
  br ((ImplStep.a x0) == (0 : Int)) (
   some ((((ImplStep.val_Kind x0) == (0 : Int)) && (((ImplStep.val_Num x0) == (0 : Int)) && ((ImplStep.val_Text x0) == ([] : List (UInt8))))), ())) (
   some (false, ()))) (
  some (false, ()))))))))

def spec_validStep (N : Nat) (x0 : ImplStep) (x1 : Int) (x2 : Int) (x3 : Int) : Option (Bool × Unit) := spec_validStep.B N x0 x1 x2 x3

def spec_takes.B (N : Nat) (x0 : ImplStep) : Option (Int × Unit) :=
 br ((ImplStep.kind x0) == (5 : Int)) (
  some ((2 : Int), ())) (
  br ((ImplStep.kind x0) == (6 : Int)) (
  some ((3 : Int), ())) (
  some ((0 : Int), ())))

def spec_takes (N : Nat) (x0 : ImplStep) : Option (Int × Unit) := spec_takes.B N x0

def spec_validForm.B0 (N : Nat) (G0 : (List (ImplStep)) × Int × Int × Int × Int × Int × Unit → Option (Bool × Unit)) : (List (ImplStep)) × Int × Int × Int × Int × Int × Unit → Option (Bool × Unit) :=
fun (x4, x5, x6, x7, x8, x9, ()) =>
 br (decide (x9 < (((List.length x4) : Nat) : Int))) (
  gd (decide ((0 : Int) ≤ x9)) (
  gd (decide (x9 < (((List.length x4) : Nat) : Int))) (
  bnd (spec_validStep N (get x4 x9) x5 x6 x7) fun r11 =>
  br (!(r11).1) (
   some (false, ())) (
   gd (decide ((0 : Int) ≤ x9)) (
  gd (decide (x9 < (((List.length x4) : Nat) : Int))) (
  bnd (spec_takes N (get x4 x9)) fun r12 =>
  br (decide (x8 < (r12).1)) (
   some (false, ())) (
   gd (decide ((0 : Int) ≤ x9)) (
  gd (decide (x9 < (((List.length x4) : Nat) : Int))) (
  bnd (spec_takes N (get x4 x9)) fun r13 =>
  G0 (x4, x5, x6, x7, (IntKind.i64.wrap ((IntKind.i64.wrap (x8 - (r13).1)) + (1 : Int))), (IntKind.i64.wrap (x9 + (1 : Int))), ())))))))))) (
  some ((x8 == (1 : Int)), ()))

def spec_validForm.B (N : Nat) (E0 : (List (ImplStep)) × Int × Int × Int × Int × Int × Unit → Option (Bool × Unit)) (x0 : List (ImplStep)) (x1 : Int) (x2 : Int) (x3 : Int) : Option (Bool × Unit) :=
 br (decide ((((List.length x0) : Nat) : Int) > (9 : Int))) (
  some (false, ())) (
  E0 (x0, x1, x2, x3, (0 : Int), (0 : Int), ()))

def spec_validForm.L0 (N : Nat) : Nat → (List (ImplStep)) × Int × Int × Int × Int × Int × Unit → Option (Bool × Unit)
  | 0, _ => none
  | n + 1, x => spec_validForm.B0 N (spec_validForm.L0 N n) x

def spec_validForm (N : Nat) (x0 : List (ImplStep)) (x1 : Int) (x2 : Int) (x3 : Int) : Option (Bool × Unit) := spec_validForm.B N (spec_validForm.L0 N N) x0 x1 x2 x3

def spec_validUpdate.B (N : Nat) (x0 : ImplUpdate) : Option (Bool × Unit) :=
 bnd (spec_validPlace N (ImplUpdate.place x0)) fun r1 =>
 br (r1).1 (
  bnd (spec_inRange N (ImplUpdate.state x0) (0 : Int) (2 : Int)) fun r2 =>
  br (r2).1 (
   bnd (spec_inRange N (ImplUpdate.lane x0) (-(1 : Int)) (2 : Int)) fun r3 =>
   br (r3).1 (
    bnd (spec_validForm N (ImplUpdate.form x0) (0 : Int) (3 : Int) (0 : Int)) fun r4 =>
    some ((r4).1, ())) (
    some (false, ()))) (
   some (false, ()))) (
  some (false, ()))

def spec_validUpdate (N : Nat) (x0 : ImplUpdate) : Option (Bool × Unit) := spec_validUpdate.B N x0

def spec_validUpdates.B0 (N : Nat) (G0 : (List (ImplUpdate)) × Int × Unit → Option (Bool × Unit)) : (List (ImplUpdate)) × Int × Unit → Option (Bool × Unit) :=
fun (x1, x2, ()) =>
 br (decide (x2 < (((List.length x1) : Nat) : Int))) (
  gd (decide ((0 : Int) ≤ x2)) (
  gd (decide (x2 < (((List.length x1) : Nat) : Int))) (
  bnd (spec_validUpdate N (get x1 x2)) fun r4 =>
  br (!(r4).1) (
   some (false, ())) (
   G0 (x1, (IntKind.i64.wrap (x2 + (1 : Int))), ()))))) (
  some (true, ()))

def spec_validUpdates.B (N : Nat) (E0 : (List (ImplUpdate)) × Int × Unit → Option (Bool × Unit)) (x0 : List (ImplUpdate)) : Option (Bool × Unit) :=
 br (decide ((((List.length x0) : Nat) : Int) > (40 : Int))) (
  some (false, ())) (
  E0 (x0, (0 : Int), ()))

def spec_validUpdates.L0 (N : Nat) : Nat → (List (ImplUpdate)) × Int × Unit → Option (Bool × Unit)
  | 0, _ => none
  | n + 1, x => spec_validUpdates.B0 N (spec_validUpdates.L0 N n) x

def spec_validUpdates (N : Nat) (x0 : List (ImplUpdate)) : Option (Bool × Unit) := spec_validUpdates.B N (spec_validUpdates.L0 N N) x0

def spec_applies.B (N : Nat) (x0 : List (ImplValue)) (x1 : ImplUpdate) : Option (Bool × Unit) :=
 br (decide ((ImplUpdate.state x1) < (((List.length x0) : Nat) : Int))) (
  bnd (spec_validForm N (ImplUpdate.form x1) (0 : Int) (((List.length x0) : Nat) : Int) (0 : Int)) fun r2 =>
  some ((r2).1, ())) (
  some (false, ()))

def spec_applies (N : Nat) (x0 : List (ImplValue)) (x1 : ImplUpdate) : Option (Bool × Unit) := spec_applies.B N x0 x1

def spec_number.B (N : Nat) (x0 : Int) : Option (ImplValue × Unit) :=
 bnd (spec_inRange N x0 (-(1000 : Int)) (1000 : Int)) fun r1 =>
 br (!(r1).1) (
  some ((ImplValue.mk (0 : Int) (0 : Int) ([] : List (UInt8))), ())) (
  some ((ImplValue.mk (1 : Int) x0 ([] : List (UInt8))), ()))

def spec_number (N : Nat) (x0 : Int) : Option (ImplValue × Unit) := spec_number.B N x0

def spec_boolean.B (N : Nat) (x0 : Bool) : Option (ImplValue × Unit) :=
 br x0 (
  bnd (spec_number N (1 : Int)) fun r1 =>
  some ((r1).1, ())) (
  bnd (spec_number N (0 : Int)) fun r2 =>
 some ((r2).1, ()))

def spec_boolean (N : Nat) (x0 : Bool) : Option (ImplValue × Unit) := spec_boolean.B N x0

def spec_truth.B (N : Nat) (x0 : ImplValue) : Option (Bool × Unit) :=
 br ((ImplValue.num x0) != (0 : Int)) (
  some (true, ())) (
  some ((!((ImplValue.text x0) == ([] : List (UInt8)))), ()))

def spec_truth (N : Nat) (x0 : ImplValue) : Option (Bool × Unit) := spec_truth.B N x0

def spec_decimal.B (N : Nat) (R_spec_decimal : Int → Option ((List UInt8) × Unit)) (x0 : Int) : Option ((List UInt8) × Unit) :=
 br (decide (x0 < (0 : Int))) (
  bnd (R_spec_decimal (IntKind.i64.wrap ((0 : Int) - x0))) fun r1 =>
  gd (decide (((List.length ([45] : List (UInt8))) + (List.length (r1).1)) < 68719476736)) (
  some ((([45] : List (UInt8)) ++ (r1).1), ()))) (
  br (decide (x0 < (10 : Int))) (
  gd (decide ((0 : Int) ≤ x0)) (
  gd (decide (x0 ≤ (IntKind.i64.wrap (x0 + (1 : Int))))) (
  gd (decide ((IntKind.i64.wrap (x0 + (1 : Int))) ≤ (((List.length ([48, 49, 50, 51, 52, 53, 54, 55, 56, 57] : List (UInt8))) : Nat) : Int))) (
  some ((sub ([48, 49, 50, 51, 52, 53, 54, 55, 56, 57] : List (UInt8)) x0 (IntKind.i64.wrap (x0 + (1 : Int)))), ()))))) (
  bnd (R_spec_decimal (IntKind.i64.wrap (Int.tdiv x0 (10 : Int)))) fun r2 =>
 bnd (R_spec_decimal (Int.tmod x0 (10 : Int))) fun r3 =>
 gd (decide (((List.length (r2).1) + (List.length (r3).1)) < 68719476736)) (
 some (((r2).1 ++ (r3).1), ()))))

def spec_decimal.R (N : Nat) : Nat → Int → Option ((List UInt8) × Unit)
  | 0, _ => none
  | d + 1, x0 => spec_decimal.B N (spec_decimal.R N d) x0

def spec_decimal (N : Nat) (x0 : Int) : Option ((List UInt8) × Unit) := spec_decimal.R N N x0

def spec_show.B (N : Nat) (x0 : ImplValue) : Option ((List UInt8) × Unit) :=
 br ((ImplValue.kind x0) == (1 : Int)) (
  bnd (spec_decimal N (ImplValue.num x0)) fun r1 =>
  some ((r1).1, ())) (
  br ((ImplValue.kind x0) == (2 : Int)) (
  some ((ImplValue.text x0), ())) (
  some (([] : List (UInt8)), ())))

def spec_show (N : Nat) (x0 : ImplValue) : Option ((List UInt8) × Unit) := spec_show.B N x0

def spec_do.B (N : Nat) (x0 : Int) (x1 : ImplValue) (x2 : ImplValue) : Option (ImplValue × Unit) :=
 br ((ImplValue.kind x1) == (1 : Int)) (
  br (x0 == (4 : Int)) (
   bnd (spec_boolean N (((ImplValue.kind x1) == (ImplValue.kind x2)) && (((ImplValue.num x1) == (ImplValue.num x2)) && ((ImplValue.text x1) == (ImplValue.text x2))))) fun r3 =>
   some ((r3).1, ())) (
   br (x0 == (6 : Int)) (
   bnd (spec_truth N x1) fun r4 =>
   br (r4).1 (
    some (x2, ())) (
    some (x1, ()))) (
   br (x0 == (5 : Int)) (
   bnd (spec_show N x1) fun r5 =>
   bnd (spec_show N x2) fun r6 =>
   gd (decide (((List.length (r5).1) + (List.length (r6).1)) < 68719476736)) (
   bnd (spec_validWord N ((r5).1 ++ (r6).1)) fun r7 =>
   br (!(r7).1) (
    some ((ImplValue.mk (0 : Int) (0 : Int) ([] : List (UInt8))), ())) (
    some ((ImplValue.mk (2 : Int) (0 : Int) ((r5).1 ++ (r6).1)), ())))) (
   br (!((ImplValue.kind x2) == (1 : Int))) (
   some ((ImplValue.mk (0 : Int) (0 : Int) ([] : List (UInt8))), ())) (
   br (x0 == (0 : Int)) (
   bnd (spec_number N (IntKind.i64.wrap ((ImplValue.num x1) + (ImplValue.num x2)))) fun r8 =>
   some ((r8).1, ())) (
   br (x0 == (1 : Int)) (
   bnd (spec_number N (IntKind.i64.wrap ((ImplValue.num x1) - (ImplValue.num x2)))) fun r9 =>
   some ((r9).1, ())) (
   br (x0 == (2 : Int)) (
   bnd (spec_number N (IntKind.i64.wrap ((ImplValue.num x1) * (ImplValue.num x2)))) fun r10 =>
   some ((r10).1, ())) (
   bnd (spec_boolean N (decide ((ImplValue.num x1) < (ImplValue.num x2)))) fun r11 =>
  some ((r11).1, ()))))))))) (
  br (x0 == (4 : Int)) (
  bnd (spec_boolean N (((ImplValue.kind x1) == (ImplValue.kind x2)) && (((ImplValue.num x1) == (ImplValue.num x2)) && ((ImplValue.text x1) == (ImplValue.text x2))))) fun r12 =>
  some ((r12).1, ())) (
  br (x0 == (6 : Int)) (
  bnd (spec_truth N x1) fun r13 =>
  br (r13).1 (
   some (x2, ())) (
   some (x1, ()))) (
  br (x0 == (5 : Int)) (
  bnd (spec_show N x1) fun r14 =>
  bnd (spec_show N x2) fun r15 =>
  gd (decide (((List.length (r14).1) + (List.length (r15).1)) < 68719476736)) (
  bnd (spec_validWord N ((r14).1 ++ (r15).1)) fun r16 =>
  br (!(r16).1) (
   some ((ImplValue.mk (0 : Int) (0 : Int) ([] : List (UInt8))), ())) (
   some ((ImplValue.mk (2 : Int) (0 : Int) ((r14).1 ++ (r15).1)), ())))) (
  some ((ImplValue.mk (0 : Int) (0 : Int) ([] : List (UInt8))), ())))))

def spec_do (N : Nat) (x0 : Int) (x1 : ImplValue) (x2 : ImplValue) : Option (ImplValue × Unit) := spec_do.B N x0 x1 x2

def spec_told.B (N : Nat) (x0 : ImplStep) (x1 : ImplEnv) : Option (ImplValue × Unit) :=
 br ((ImplStep.kind x0) == (1 : Int)) (
  gd (decide ((0 : Int) ≤ (ImplStep.a x0))) (
  gd (decide ((ImplStep.a x0) < (((List.length (ImplEnv.props x1)) : Nat) : Int))) (
  some ((get (ImplEnv.props x1) (ImplStep.a x0)), ())))) (
  br ((ImplStep.kind x0) == (2 : Int)) (
  gd (decide ((0 : Int) ≤ (ImplStep.a x0))) (
  gd (decide ((ImplStep.a x0) < (((List.length (ImplEnv.states x1)) : Nat) : Int))) (
  some ((get (ImplEnv.states x1) (ImplStep.a x0)), ())))) (
  br ((ImplStep.kind x0) == (3 : Int)) (
  gd (decide ((0 : Int) ≤ (IntKind.i64.wrap ((IntKind.i64.wrap ((((List.length (ImplEnv.turns x1)) : Nat) : Int) - (1 : Int))) - (ImplStep.a x0))))) (
  gd (decide ((IntKind.i64.wrap ((IntKind.i64.wrap ((((List.length (ImplEnv.turns x1)) : Nat) : Int) - (1 : Int))) - (ImplStep.a x0))) < (((List.length (ImplEnv.turns x1)) : Nat) : Int))) (
  bnd (spec_number N (get (ImplEnv.turns x1) (IntKind.i64.wrap ((IntKind.i64.wrap ((((List.length (ImplEnv.turns x1)) : Nat) : Int) - (1 : Int))) - (ImplStep.a x0))))) fun r2 =>
  some ((r2).1, ())))) (
  br ((ImplStep.kind x0) == (4 : Int)) (
  gd (decide ((0 : Int) ≤ (ImplStep.a x0))) (
  gd (decide ((ImplStep.a x0) < (((List.length (ImplEnv.gifts x1)) : Nat) : Int))) (
  some ((get (ImplEnv.gifts x1) (ImplStep.a x0)), ())))) (
  some ((ImplValue.mk (ImplStep.val_Kind x0) (ImplStep.val_Num x0) (ImplStep.val_Text x0)), ())))))

def spec_told (N : Nat) (x0 : ImplStep) (x1 : ImplEnv) : Option (ImplValue × Unit) := spec_told.B N x0 x1

def spec_eval.J15 (N : Nat) (G0 : (List (ImplStep)) × ImplEnv × ImplValue × (List (ImplValue)) × Int × Unit → Option (ImplValue × Unit)) : (List (ImplStep)) × ImplEnv × ImplValue × (List (ImplValue)) × Int × Int × ImplValue × Unit → Option (ImplValue × Unit) :=
fun (x10, x11, x12, x13, x14, x15, x16, ()) =>
 gd (decide ((0 : Int) ≤ x15)) (
 gd (decide (x15 ≤ (((List.length x13) : Nat) : Int))) (
 gd (decide (((List.length (sub x13 (0 : Int) x15)) + (List.length ([x16] : List (ImplValue)))) < 68719476736)) (
 G0 (x10, x11, x12, ((sub x13 (0 : Int) x15) ++ ([x16] : List (ImplValue))), (IntKind.i64.wrap (x14 + (1 : Int))), ()))))

def spec_eval.B0 (N : Nat) (G0 : (List (ImplStep)) × ImplEnv × ImplValue × (List (ImplValue)) × Int × Unit → Option (ImplValue × Unit)) : (List (ImplStep)) × ImplEnv × ImplValue × (List (ImplValue)) × Int × Unit → Option (ImplValue × Unit) :=
fun (x2, x3, x4, x5, x6, ()) =>
 br (decide (x6 < (((List.length x2) : Nat) : Int))) (
  gd (decide ((0 : Int) ≤ x6)) (
  gd (decide (x6 < (((List.length x2) : Nat) : Int))) (
  bnd (spec_takes N (get x2 x6)) fun r8 =>
  gd (decide ((0 : Int) ≤ x6)) (
  gd (decide (x6 < (((List.length x2) : Nat) : Int))) (
  br ((ImplStep.kind (get x2 x6)) == (5 : Int)) (
   gd (decide ((0 : Int) ≤ x6)) (
   gd (decide (x6 < (((List.length x2) : Nat) : Int))) (
   gd (decide ((0 : Int) ≤ (IntKind.i64.wrap ((((List.length x5) : Nat) : Int) - (r8).1)))) (
   gd (decide ((IntKind.i64.wrap ((((List.length x5) : Nat) : Int) - (r8).1)) < (((List.length x5) : Nat) : Int))) (
   gd (decide ((0 : Int) ≤ (IntKind.i64.wrap ((IntKind.i64.wrap ((((List.length x5) : Nat) : Int) - (r8).1)) + (1 : Int))))) (
   gd (decide ((IntKind.i64.wrap ((IntKind.i64.wrap ((((List.length x5) : Nat) : Int) - (r8).1)) + (1 : Int))) < (((List.length x5) : Nat) : Int))) (
   bnd (spec_do N (ImplStep.a (get x2 x6)) (get x5 (IntKind.i64.wrap ((((List.length x5) : Nat) : Int) - (r8).1))) (get x5 (IntKind.i64.wrap ((IntKind.i64.wrap ((((List.length x5) : Nat) : Int) - (r8).1)) + (1 : Int))))) fun r9 =>
   spec_eval.J15 N G0 (x2, x3, x4, x5, x6, (IntKind.i64.wrap ((((List.length x5) : Nat) : Int) - (r8).1)), (r9).1, ())))))))) (
   br ((ImplStep.kind (get x2 x6)) == (6 : Int)) (
   gd (decide ((0 : Int) ≤ (IntKind.i64.wrap ((IntKind.i64.wrap ((((List.length x5) : Nat) : Int) - (r8).1)) + (2 : Int))))) (
   gd (decide ((IntKind.i64.wrap ((IntKind.i64.wrap ((((List.length x5) : Nat) : Int) - (r8).1)) + (2 : Int))) < (((List.length x5) : Nat) : Int))) (
   gd (decide ((0 : Int) ≤ (IntKind.i64.wrap ((((List.length x5) : Nat) : Int) - (r8).1)))) (
   gd (decide ((IntKind.i64.wrap ((((List.length x5) : Nat) : Int) - (r8).1)) < (((List.length x5) : Nat) : Int))) (
   bnd (spec_truth N (get x5 (IntKind.i64.wrap ((((List.length x5) : Nat) : Int) - (r8).1)))) fun r17 =>
   br (r17).1 (
    gd (decide ((0 : Int) ≤ (IntKind.i64.wrap ((IntKind.i64.wrap ((((List.length x5) : Nat) : Int) - (r8).1)) + (1 : Int))))) (
    gd (decide ((IntKind.i64.wrap ((IntKind.i64.wrap ((((List.length x5) : Nat) : Int) - (r8).1)) + (1 : Int))) < (((List.length x5) : Nat) : Int))) (
    spec_eval.J15 N G0 (x2, x3, x4, x5, x6, (IntKind.i64.wrap ((((List.length x5) : Nat) : Int) - (r8).1)), (get x5 (IntKind.i64.wrap ((IntKind.i64.wrap ((((List.length x5) : Nat) : Int) - (r8).1)) + (1 : Int)))), ())))) (
    spec_eval.J15 N G0 (x2, x3, x4, x5, x6, (IntKind.i64.wrap ((((List.length x5) : Nat) : Int) - (r8).1)), (get x5 (IntKind.i64.wrap ((IntKind.i64.wrap ((((List.length x5) : Nat) : Int) - (r8).1)) + (2 : Int)))), ()))))))) (
   gd (decide ((0 : Int) ≤ x6)) (
  gd (decide (x6 < (((List.length x2) : Nat) : Int))) (
  bnd (spec_told N (get x2 x6) x3) fun r18 =>
  spec_eval.J15 N G0 (x2, x3, x4, x5, x6, (IntKind.i64.wrap ((((List.length x5) : Nat) : Int) - (r8).1)), (r18).1, ())))))))))) (
  gd (decide ((0 : Int) < (((List.length x5) : Nat) : Int))) (
 some ((get x5 (0 : Int)), ())))

def spec_eval.B (N : Nat) (E0 : (List (ImplStep)) × ImplEnv × ImplValue × (List (ImplValue)) × Int × Unit → Option (ImplValue × Unit)) (x0 : List (ImplStep)) (x1 : ImplEnv) : Option (ImplValue × Unit) :=
 E0 (x0, x1, (ImplValue.mk (0 : Int) (0 : Int) ([] : List (UInt8))), ([] : List (ImplValue)), (0 : Int), ())

def spec_eval.L0 (N : Nat) : Nat → (List (ImplStep)) × ImplEnv × ImplValue × (List (ImplValue)) × Int × Unit → Option (ImplValue × Unit)
  | 0, _ => none
  | n + 1, x => spec_eval.B0 N (spec_eval.L0 N n) x

def spec_eval (N : Nat) (x0 : List (ImplStep)) (x1 : ImplEnv) : Option (ImplValue × Unit) := spec_eval.B N (spec_eval.L0 N N) x0 x1

def spec_updated.B (N : Nat) (x0 : List (ImplValue)) (x1 : ImplUpdate) : Option ((List (ImplValue)) × Unit) :=
 gd (decide (((List.length ([] : List (ImplValue))) + (List.length x0)) < 68719476736)) (
 bnd (spec_applies N x0 x1) fun r2 =>
 br (r2).1 (
  bnd (spec_eval N (ImplUpdate.form x1) (ImplEnv.mk ([] : List (ImplValue)) x0 ([] : List (Int)) (List.replicate (Int.toNat (2 : Int)) (ImplValue.mk (0 : Int) (0 : Int) ([] : List (UInt8)))))) fun r3 =>
  gd (decide ((0 : Int) ≤ (ImplUpdate.state x1))) (
  gd (decide ((ImplUpdate.state x1) < (((List.length (([] : List (ImplValue)) ++ x0)) : Nat) : Int))) (
  some ((List.set (([] : List (ImplValue)) ++ x0) (Int.toNat (ImplUpdate.state x1)) (r3).1), ())))) (
  some ((([] : List (ImplValue)) ++ x0), ())))

def spec_updated (N : Nat) (x0 : List (ImplValue)) (x1 : ImplUpdate) : Option ((List (ImplValue)) × Unit) := spec_updated.B N x0 x1

def spec_storeUpdated.B (N : Nat) (x0 : List (ImplCell)) (x1 : ImplUpdate) : Option ((List (ImplCell)) × Unit) :=
 bnd (spec_copyStore N x0) fun r2 =>
 bnd (spec_cellAt N (r2).1 (ImplUpdate.place x1)) fun r3 =>
 br ((r3).2).1 (
  gd (decide ((0 : Int) ≤ (r3).1)) (
  gd (decide ((r3).1 < (((List.length (r2).1) : Nat) : Int))) (
  bnd (spec_updated N (ImplCell.states (get (r2).1 (r3).1)) x1) fun r4 =>
  gd (decide ((0 : Int) ≤ (r3).1)) (
  gd (decide ((r3).1 < (((List.length (r2).1) : Nat) : Int))) (
  some ((List.set (r2).1 (Int.toNat (r3).1) (ImplCell.mk (ImplCell.place (get (r2).1 (r3).1)) (r4).1)), ())))))) (
  some ((r2).1, ()))

def spec_storeUpdated (N : Nat) (x0 : List (ImplCell)) (x1 : ImplUpdate) : Option ((List (ImplCell)) × Unit) := spec_storeUpdated.B N x0 x1

def impl_within.B (N : Nat) (x0 : Int) (x1 : Int) (x2 : Int) : Option (Bool × Unit) :=
 br (decide (x0 ≥ x1)) (
  some ((decide (x0 ≤ x2)), ())) (
  some (false, ()))

def impl_within (N : Nat) (x0 : Int) (x1 : Int) (x2 : Int) : Option (Bool × Unit) := impl_within.B N x0 x1 x2

def impl_PlaceOk.B0 (N : Nat) (G0 : (List (ImplSlot)) × (List (ImplSlot)) × Int × Int × Unit → Option (Bool × Unit)) : (List (ImplSlot)) × (List (ImplSlot)) × Int × Int × Unit → Option (Bool × Unit) :=
fun (x1, x2, x3, x4, ()) =>
 br (decide (x4 < x3)) (
  gd (decide ((0 : Int) ≤ x4)) (
  gd (decide (x4 < (((List.length x2) : Nat) : Int))) (
  bnd (impl_within N (ImplSlot.pos (get x2 x4)) (0 : Int) (3 : Int)) fun r6 =>
  br (!(r6).1) (
   some (false, ())) (
   bnd (impl_within N (ImplSlot.sub (get x2 x4)) (0 : Int) (103 : Int)) fun r7 =>
  br (!(r7).1) (
   some (false, ())) (
   G0 (x1, x2, x3, (IntKind.i64.wrap (x4 + (1 : Int))), ())))))) (
  some ((decide ((((List.length x1) : Nat) : Int) ≤ (20 : Int))), ()))

def impl_PlaceOk.B (N : Nat) (E0 : (List (ImplSlot)) × (List (ImplSlot)) × Int × Int × Unit → Option (Bool × Unit)) (x0 : List (ImplSlot)) : Option (Bool × Unit) :=
 E0 (x0, x0, (((List.length x0) : Nat) : Int), (0 : Int), ())

def impl_PlaceOk.L0 (N : Nat) : Nat → (List (ImplSlot)) × (List (ImplSlot)) × Int × Int × Unit → Option (Bool × Unit)
  | 0, _ => none
  | n + 1, x => impl_PlaceOk.B0 N (impl_PlaceOk.L0 N n) x

def impl_PlaceOk (N : Nat) (x0 : List (ImplSlot)) : Option (Bool × Unit) := impl_PlaceOk.B N (impl_PlaceOk.L0 N N) x0

def impl_word.B0 (N : Nat) (G0 : (List UInt8) × Int × Unit → Option (Bool × Unit)) : (List UInt8) × Int × Unit → Option (Bool × Unit) :=
fun (x1, x2, ()) =>
 br (decide (x2 < (((List.length x1) : Nat) : Int))) (
  gd (decide ((0 : Int) ≤ x2)) (
  gd (decide (x2 < (((List.length x1) : Nat) : Int))) (
  br (decide ((((UInt8.toNat (List.getD x1 (Int.toNat x2) 0)) : Nat) : Int) ≥ (97 : Int))) (
   br (decide ((((UInt8.toNat (List.getD x1 (Int.toNat x2) 0)) : Nat) : Int) ≤ (122 : Int))) (
    G0 (x1, (IntKind.i64.wrap (x2 + (1 : Int))), ())) (
    br (decide ((((UInt8.toNat (List.getD x1 (Int.toNat x2) 0)) : Nat) : Int) ≥ (48 : Int))) (
    br (decide ((((UInt8.toNat (List.getD x1 (Int.toNat x2) 0)) : Nat) : Int) ≤ (57 : Int))) (
     G0 (x1, (IntKind.i64.wrap (x2 + (1 : Int))), ())) (
     br (!((((UInt8.toNat (List.getD x1 (Int.toNat x2) 0)) : Nat) : Int) == (32 : Int))) (
     some (false, ())) (
     G0 (x1, (IntKind.i64.wrap (x2 + (1 : Int))), ())))) (
    br (!((((UInt8.toNat (List.getD x1 (Int.toNat x2) 0)) : Nat) : Int) == (32 : Int))) (
    some (false, ())) (
    G0 (x1, (IntKind.i64.wrap (x2 + (1 : Int))), ()))))) (
   br (decide ((((UInt8.toNat (List.getD x1 (Int.toNat x2) 0)) : Nat) : Int) ≥ (48 : Int))) (
   br (decide ((((UInt8.toNat (List.getD x1 (Int.toNat x2) 0)) : Nat) : Int) ≤ (57 : Int))) (
    G0 (x1, (IntKind.i64.wrap (x2 + (1 : Int))), ())) (
    br (!((((UInt8.toNat (List.getD x1 (Int.toNat x2) 0)) : Nat) : Int) == (32 : Int))) (
    some (false, ())) (
    G0 (x1, (IntKind.i64.wrap (x2 + (1 : Int))), ())))) (
   br (!((((UInt8.toNat (List.getD x1 (Int.toNat x2) 0)) : Nat) : Int) == (32 : Int))) (
   some (false, ())) (
   G0 (x1, (IntKind.i64.wrap (x2 + (1 : Int))), ()))))))) (
  some ((decide ((((List.length x1) : Nat) : Int) ≤ (12 : Int))), ()))

def impl_word.B (N : Nat) (E0 : (List UInt8) × Int × Unit → Option (Bool × Unit)) (x0 : List UInt8) : Option (Bool × Unit) :=
 E0 (x0, (0 : Int), ())

def impl_word.L0 (N : Nat) : Nat → (List UInt8) × Int × Unit → Option (Bool × Unit)
  | 0, _ => none
  | n + 1, x => impl_word.B0 N (impl_word.L0 N n) x

def impl_word (N : Nat) (x0 : List UInt8) : Option (Bool × Unit) := impl_word.B N (impl_word.L0 N N) x0

def impl_ValOk.B (N : Nat) (x0 : ImplValue) : Option (Bool × Unit) :=
 br ((ImplValue.kind x0) == (0 : Int)) (
  br ((ImplValue.num x0) == (0 : Int)) (
   some (((ImplValue.text x0) == ([] : List (UInt8))), ())) (
   some (false, ()))) (
  br ((ImplValue.kind x0) == (1 : Int)) (
  bnd (impl_within N (ImplValue.num x0) (-(1000 : Int)) (1000 : Int)) fun r1 =>
  br (r1).1 (
   some (((ImplValue.text x0) == ([] : List (UInt8))), ())) (
   some (false, ()))) (
  br ((ImplValue.kind x0) == (2 : Int)) (
  br ((ImplValue.num x0) == (0 : Int)) (
   bnd (impl_word N (ImplValue.text x0)) fun r2 =>
   some ((r2).1, ())) (
   some (false, ()))) (
  some (false, ()))))

def impl_ValOk (N : Nat) (x0 : ImplValue) : Option (Bool × Unit) := impl_ValOk.B N x0

def impl_valsOk.B0 (N : Nat) (G0 : (List (ImplValue)) × Int × Int × Unit → Option (Bool × Unit)) : (List (ImplValue)) × Int × Int × Unit → Option (Bool × Unit) :=
fun (x1, x2, x3, ()) =>
 br (decide (x3 < x2)) (
  gd (decide ((0 : Int) ≤ x3)) (
  gd (decide (x3 < (((List.length x1) : Nat) : Int))) (
  bnd (impl_ValOk N (get x1 x3)) fun r5 =>
  br (!(r5).1) (
   some (false, ())) (
   G0 (x1, x2, (IntKind.i64.wrap (x3 + (1 : Int))), ()))))) (
  some (true, ()))

def impl_valsOk.B (N : Nat) (E0 : (List (ImplValue)) × Int × Int × Unit → Option (Bool × Unit)) (x0 : List (ImplValue)) : Option (Bool × Unit) :=
 E0 (x0, (((List.length x0) : Nat) : Int), (0 : Int), ())

def impl_valsOk.L0 (N : Nat) : Nat → (List (ImplValue)) × Int × Int × Unit → Option (Bool × Unit)
  | 0, _ => none
  | n + 1, x => impl_valsOk.B0 N (impl_valsOk.L0 N n) x

def impl_valsOk (N : Nat) (x0 : List (ImplValue)) : Option (Bool × Unit) := impl_valsOk.B N (impl_valsOk.L0 N N) x0

def impl_placeCmp.B0 (N : Nat) (G0 : (List (ImplSlot)) × (List (ImplSlot)) × Int × Int × Unit → Option (Int × Unit)) : (List (ImplSlot)) × (List (ImplSlot)) × Int × Int × Unit → Option (Int × Unit) :=
fun (x2, x3, x4, x5, ()) =>
 br (decide (x5 < x4)) (
  gd (decide ((0 : Int) ≤ x5)) (
  gd (decide (x5 < (((List.length x2) : Nat) : Int))) (
  gd (decide ((0 : Int) ≤ x5)) (
  gd (decide (x5 < (((List.length x3) : Nat) : Int))) (
  br (((ImplSlot.pos (get x2 x5)) == (ImplSlot.pos (get x3 x5))) && ((ImplSlot.sub (get x2 x5)) == (ImplSlot.sub (get x3 x5)))) (
   G0 (x2, x3, x4, (IntKind.i64.wrap (x5 + (1 : Int))), ())) (
   br (decide ((ImplSlot.pos (get x2 x5)) < (ImplSlot.pos (get x3 x5)))) (
   some ((-(1 : Int)), ())) (
   br ((ImplSlot.pos (get x2 x5)) == (ImplSlot.pos (get x3 x5))) (
   br (decide ((ImplSlot.sub (get x2 x5)) < (ImplSlot.sub (get x3 x5)))) (
    some ((-(1 : Int)), ())) (
    some ((1 : Int), ()))) (
   some ((1 : Int), ()))))))))) (
  br (decide ((((List.length x2) : Nat) : Int) < (((List.length x3) : Nat) : Int))) (
  some ((-(1 : Int)), ())) (
  br (decide ((((List.length x2) : Nat) : Int) > (((List.length x3) : Nat) : Int))) (
  some ((1 : Int), ())) (
  some ((0 : Int), ()))))

def impl_placeCmp.B (N : Nat) (E0 : (List (ImplSlot)) × (List (ImplSlot)) × Int × Int × Unit → Option (Int × Unit)) (x0 : List (ImplSlot)) (x1 : List (ImplSlot)) : Option (Int × Unit) :=
 E0 (x0, x1, (cond (decide ((((List.length x1) : Nat) : Int) < (((List.length x0) : Nat) : Int))) (((List.length x1) : Nat) : Int) (((List.length x0) : Nat) : Int)), (0 : Int), ())

def impl_placeCmp.L0 (N : Nat) : Nat → (List (ImplSlot)) × (List (ImplSlot)) × Int × Int × Unit → Option (Int × Unit)
  | 0, _ => none
  | n + 1, x => impl_placeCmp.B0 N (impl_placeCmp.L0 N n) x

def impl_placeCmp (N : Nat) (x0 : List (ImplSlot)) (x1 : List (ImplSlot)) : Option (Int × Unit) := impl_placeCmp.B N (impl_placeCmp.L0 N N) x0 x1

def impl_StoreOk.B0 (N : Nat) (G0 : (List (ImplCell)) × (List (ImplCell)) × Int × Int × Unit → Option (Bool × Unit)) : (List (ImplCell)) × (List (ImplCell)) × Int × Int × Unit → Option (Bool × Unit) :=
fun (x1, x2, x3, x4, ()) =>
 br (decide (x4 < x3)) (
  gd (decide ((0 : Int) ≤ x4)) (
  gd (decide (x4 < (((List.length x2) : Nat) : Int))) (
  bnd (impl_PlaceOk N (ImplCell.place (get x2 x4))) fun r6 =>
  br (!(r6).1) (
   some (false, ())) (
   br (decide ((((List.length (ImplCell.states (get x2 x4))) : Nat) : Int) > (3 : Int))) (
   some (false, ())) (
   bnd (impl_valsOk N (ImplCell.states (get x2 x4))) fun r7 =>
  br (!(r7).1) (
   some (false, ())) (
   br (decide (x4 > (0 : Int))) (
   gd (decide ((0 : Int) ≤ (IntKind.i64.wrap (x4 - (1 : Int))))) (
   gd (decide ((IntKind.i64.wrap (x4 - (1 : Int))) < (((List.length x1) : Nat) : Int))) (
   bnd (impl_placeCmp N (ImplCell.place (get x1 (IntKind.i64.wrap (x4 - (1 : Int))))) (ImplCell.place (get x2 x4))) fun r8 =>
   br (decide ((r8).1 ≥ (0 : Int))) (
    some (false, ())) (
    G0 (x1, x2, x3, (IntKind.i64.wrap (x4 + (1 : Int))), ()))))) (
   G0 (x1, x2, x3, (IntKind.i64.wrap (x4 + (1 : Int))), ())))))))) (
  some ((decide ((((List.length x1) : Nat) : Int) ≤ (200 : Int))), ()))

def impl_StoreOk.B (N : Nat) (E0 : (List (ImplCell)) × (List (ImplCell)) × Int × Int × Unit → Option (Bool × Unit)) (x0 : List (ImplCell)) : Option (Bool × Unit) :=
 E0 (x0, x0, (((List.length x0) : Nat) : Int), (0 : Int), ())

def impl_StoreOk.L0 (N : Nat) : Nat → (List (ImplCell)) × (List (ImplCell)) × Int × Int × Unit → Option (Bool × Unit)
  | 0, _ => none
  | n + 1, x => impl_StoreOk.B0 N (impl_StoreOk.L0 N n) x

def impl_StoreOk (N : Nat) (x0 : List (ImplCell)) : Option (Bool × Unit) := impl_StoreOk.B N (impl_StoreOk.L0 N N) x0

def impl_formFits.J27 (N : Nat) (G0 : (List (ImplStep)) × Int × Int × Int × Int × (List (ImplStep)) × Int × Int × Unit → Option (Bool × Unit)) : (List (ImplStep)) × Int × Int × Int × Int × Int × Bool × (List (ImplStep)) × Int × Int × Unit → Option (Bool × Unit) :=
fun (x14, x15, x16, x17, x18, x19, x20, x21, x22, x23, ()) =>
 br (!x20) (
  some (false, ())) (
  br (decide (x18 < x19)) (
  some (false, ())) (
  G0 (x14, x15, x16, x17, (IntKind.i64.wrap (x18 + (IntKind.i64.wrap ((1 : Int) - x19)))), x21, x22, (IntKind.i64.wrap (x23 + (1 : Int))), ())))

def impl_formFits.B0 (N : Nat) (G0 : (List (ImplStep)) × Int × Int × Int × Int × (List (ImplStep)) × Int × Int × Unit → Option (Bool × Unit)) : (List (ImplStep)) × Int × Int × Int × Int × (List (ImplStep)) × Int × Int × Unit → Option (Bool × Unit) :=
fun (x4, x5, x6, x7, x8, x9, x10, x11, ()) =>
 br (decide (x11 < x10)) (
  gd (decide ((0 : Int) ≤ x11)) (
  gd (decide (x11 < (((List.length x9) : Nat) : Int))) (
  br ((ImplStep.kind (get x9 x11)) != (0 : Int)) (
   br (!(((ImplStep.val_Kind (get x9 x11)) == (0 : Int)) && (((ImplStep.val_Num (get x9 x11)) == (0 : Int)) && ((ImplStep.val_Text (get x9 x11)) == ([] : List (UInt8)))))) (
    some (false, ())) (
    br ((ImplStep.kind (get x9 x11)) == (0 : Int)) (
    br ((ImplStep.a (get x9 x11)) == (0 : Int)) (
     bnd (impl_ValOk N (ImplValue.mk (ImplStep.val_Kind (get x9 x11)) (ImplStep.val_Num (get x9 x11)) (ImplStep.val_Text (get x9 x11)))) fun r13 =>
     impl_formFits.J27 N G0 (x4, x5, x6, x7, x8, (0 : Int), (r13).1, x9, x10, x11, ())) (
     impl_formFits.J27 N G0 (x4, x5, x6, x7, x8, (0 : Int), false, x9, x10, x11, ()))) (
    br ((ImplStep.kind (get x9 x11)) == (1 : Int)) (
    bnd (impl_within N (ImplStep.a (get x9 x11)) (0 : Int) (IntKind.i64.wrap (x5 - (1 : Int)))) fun r24 =>
    impl_formFits.J27 N G0 (x4, x5, x6, x7, x8, (0 : Int), (r24).1, x9, x10, x11, ())) (
    br ((ImplStep.kind (get x9 x11)) == (2 : Int)) (
    bnd (impl_within N (ImplStep.a (get x9 x11)) (0 : Int) (IntKind.i64.wrap (x6 - (1 : Int)))) fun r25 =>
    impl_formFits.J27 N G0 (x4, x5, x6, x7, x8, (0 : Int), (r25).1, x9, x10, x11, ())) (
    br ((ImplStep.kind (get x9 x11)) == (3 : Int)) (
    bnd (impl_within N (ImplStep.a (get x9 x11)) (0 : Int) (IntKind.i64.wrap (x7 - (1 : Int)))) fun r26 =>
    impl_formFits.J27 N G0 (x4, x5, x6, x7, x8, (0 : Int), (r26).1, x9, x10, x11, ())) (
    br ((ImplStep.kind (get x9 x11)) == (4 : Int)) (
    bnd (impl_within N (ImplStep.a (get x9 x11)) (0 : Int) (1 : Int)) fun r27 =>
    impl_formFits.J27 N G0 (x4, x5, x6, x7, x8, (0 : Int), (r27).1, x9, x10, x11, ())) (
    br ((ImplStep.kind (get x9 x11)) == (5 : Int)) (
    bnd (impl_within N (ImplStep.a (get x9 x11)) (0 : Int) (6 : Int)) fun r28 =>
    impl_formFits.J27 N G0 (x4, x5, x6, x7, x8, (2 : Int), (r28).1, x9, x10, x11, ())) (
    br ((ImplStep.kind (get x9 x11)) == (6 : Int)) (
    impl_formFits.J27 N G0 (x4, x5, x6, x7, x8, (3 : Int), ((ImplStep.a (get x9 x11)) == (0 : Int)), x9, x10, x11, ())) (
    impl_formFits.J27 N G0 (x4, x5, x6, x7, x8, (0 : Int), false, x9, x10, x11, ())))))))))) (
   br ((ImplStep.kind (get x9 x11)) == (0 : Int)) (
   br ((ImplStep.a (get x9 x11)) == (0 : Int)) (
    bnd (impl_ValOk N (ImplValue.mk (ImplStep.val_Kind (get x9 x11)) (ImplStep.val_Num (get x9 x11)) (ImplStep.val_Text (get x9 x11)))) fun r29 =>
    impl_formFits.J27 N G0 (x4, x5, x6, x7, x8, (0 : Int), (r29).1, x9, x10, x11, ())) (
    impl_formFits.J27 N G0 (x4, x5, x6, x7, x8, (0 : Int), false, x9, x10, x11, ()))) (
   br ((ImplStep.kind (get x9 x11)) == (1 : Int)) (
   bnd (impl_within N (ImplStep.a (get x9 x11)) (0 : Int) (IntKind.i64.wrap (x5 - (1 : Int)))) fun r30 =>
   impl_formFits.J27 N G0 (x4, x5, x6, x7, x8, (0 : Int), (r30).1, x9, x10, x11, ())) (
   br ((ImplStep.kind (get x9 x11)) == (2 : Int)) (
   bnd (impl_within N (ImplStep.a (get x9 x11)) (0 : Int) (IntKind.i64.wrap (x6 - (1 : Int)))) fun r31 =>
   impl_formFits.J27 N G0 (x4, x5, x6, x7, x8, (0 : Int), (r31).1, x9, x10, x11, ())) (
   br ((ImplStep.kind (get x9 x11)) == (3 : Int)) (
   bnd (impl_within N (ImplStep.a (get x9 x11)) (0 : Int) (IntKind.i64.wrap (x7 - (1 : Int)))) fun r32 =>
   impl_formFits.J27 N G0 (x4, x5, x6, x7, x8, (0 : Int), (r32).1, x9, x10, x11, ())) (
   br ((ImplStep.kind (get x9 x11)) == (4 : Int)) (
   bnd (impl_within N (ImplStep.a (get x9 x11)) (0 : Int) (1 : Int)) fun r33 =>
   impl_formFits.J27 N G0 (x4, x5, x6, x7, x8, (0 : Int), (r33).1, x9, x10, x11, ())) (
   br ((ImplStep.kind (get x9 x11)) == (5 : Int)) (
   bnd (impl_within N (ImplStep.a (get x9 x11)) (0 : Int) (6 : Int)) fun r34 =>
   impl_formFits.J27 N G0 (x4, x5, x6, x7, x8, (2 : Int), (r34).1, x9, x10, x11, ())) (
   br ((ImplStep.kind (get x9 x11)) == (6 : Int)) (
   impl_formFits.J27 N G0 (x4, x5, x6, x7, x8, (3 : Int), ((ImplStep.a (get x9 x11)) == (0 : Int)), x9, x10, x11, ())) (
   impl_formFits.J27 N G0 (x4, x5, x6, x7, x8, (0 : Int), false, x9, x10, x11, ())))))))))))) (
  br (x8 == (1 : Int)) (
  some ((decide ((((List.length x4) : Nat) : Int) ≤ (9 : Int))), ())) (
  some (false, ())))

def impl_formFits.B (N : Nat) (E0 : (List (ImplStep)) × Int × Int × Int × Int × (List (ImplStep)) × Int × Int × Unit → Option (Bool × Unit)) (x0 : List (ImplStep)) (x1 : Int) (x2 : Int) (x3 : Int) : Option (Bool × Unit) :=
 E0 (x0, x1, x2, x3, (0 : Int), x0, (((List.length x0) : Nat) : Int), (0 : Int), ())

def impl_formFits.L0 (N : Nat) : Nat → (List (ImplStep)) × Int × Int × Int × Int × (List (ImplStep)) × Int × Int × Unit → Option (Bool × Unit)
  | 0, _ => none
  | n + 1, x => impl_formFits.B0 N (impl_formFits.L0 N n) x

def impl_formFits (N : Nat) (x0 : List (ImplStep)) (x1 : Int) (x2 : Int) (x3 : Int) : Option (Bool × Unit) := impl_formFits.B N (impl_formFits.L0 N N) x0 x1 x2 x3

def impl_FormOk.B (N : Nat) (x0 : List (ImplStep)) (x1 : Int) (x2 : Int) (x3 : Int) : Option (Bool × Unit) :=
 bnd (impl_within N x1 (0 : Int) (3 : Int)) fun r4 =>
 br (r4).1 (
  bnd (impl_within N x2 (0 : Int) (3 : Int)) fun r5 =>
  br (r5).1 (
   bnd (impl_within N x3 (0 : Int) (4 : Int)) fun r6 =>
   br (r6).1 (
    bnd (impl_formFits N x0 x1 x2 x3) fun r7 =>
    some ((r7).1, ())) (
    some (false, ()))) (
   some (false, ()))) (
  some (false, ()))

def impl_FormOk (N : Nat) (x0 : List (ImplStep)) (x1 : Int) (x2 : Int) (x3 : Int) : Option (Bool × Unit) := impl_FormOk.B N x0 x1 x2 x3

def impl_UpdateOk.B (N : Nat) (x0 : ImplUpdate) : Option (Bool × Unit) :=
 bnd (impl_PlaceOk N (ImplUpdate.place x0)) fun r1 =>
 br (r1).1 (
  bnd (impl_within N (ImplUpdate.state x0) (0 : Int) (2 : Int)) fun r2 =>
  br (r2).1 (
   bnd (impl_within N (ImplUpdate.lane x0) (-(1 : Int)) (2 : Int)) fun r3 =>
   br (r3).1 (
    bnd (impl_FormOk N (ImplUpdate.form x0) (0 : Int) (3 : Int) (0 : Int)) fun r4 =>
    some ((r4).1, ())) (
    some (false, ()))) (
   some (false, ()))) (
  some (false, ()))

def impl_UpdateOk (N : Nat) (x0 : ImplUpdate) : Option (Bool × Unit) := impl_UpdateOk.B N x0

def impl_updatesOk.B0 (N : Nat) (G0 : (List (ImplUpdate)) × Int × Int × Unit → Option (Bool × Unit)) : (List (ImplUpdate)) × Int × Int × Unit → Option (Bool × Unit) :=
fun (x1, x2, x3, ()) =>
 br (decide (x3 < x2)) (
  gd (decide ((0 : Int) ≤ x3)) (
  gd (decide (x3 < (((List.length x1) : Nat) : Int))) (
  bnd (impl_UpdateOk N (get x1 x3)) fun r5 =>
  br (!(r5).1) (
   some (false, ())) (
   G0 (x1, x2, (IntKind.i64.wrap (x3 + (1 : Int))), ()))))) (
  some (true, ()))

def impl_updatesOk.B (N : Nat) (E0 : (List (ImplUpdate)) × Int × Int × Unit → Option (Bool × Unit)) (x0 : List (ImplUpdate)) : Option (Bool × Unit) :=
 E0 (x0, (((List.length x0) : Nat) : Int), (0 : Int), ())

def impl_updatesOk.L0 (N : Nat) : Nat → (List (ImplUpdate)) × Int × Int × Unit → Option (Bool × Unit)
  | 0, _ => none
  | n + 1, x => impl_updatesOk.B0 N (impl_updatesOk.L0 N n) x

def impl_updatesOk (N : Nat) (x0 : List (ImplUpdate)) : Option (Bool × Unit) := impl_updatesOk.B N (impl_updatesOk.L0 N N) x0

def impl_LineOk.B (N : Nat) (x0 : ImplLine) : Option (Bool × Unit) :=
 bnd (impl_StoreOk N (ImplLine.base x0)) fun r1 =>
 br (r1).1 (
  br (decide ((((List.length (ImplLine.rest x0)) : Nat) : Int) ≤ (40 : Int))) (
   bnd (impl_updatesOk N (ImplLine.rest x0)) fun r2 =>
   some ((r2).1, ())) (
   some (false, ()))) (
  some (false, ()))

def impl_LineOk (N : Nat) (x0 : ImplLine) : Option (Bool × Unit) := impl_LineOk.B N x0

def impl_placeCopy.B (N : Nat) (x0 : List (ImplSlot)) : Option ((List (ImplSlot)) × Unit) :=
 gd (decide ((List.length x0) < 68719476736)) (
 some (x0, ()))

def impl_placeCopy (N : Nat) (x0 : List (ImplSlot)) : Option ((List (ImplSlot)) × Unit) := impl_placeCopy.B N x0

def impl_valsCopy.B (N : Nat) (x0 : List (ImplValue)) : Option ((List (ImplValue)) × Unit) :=
 gd (decide ((List.length x0) < 68719476736)) (
 some (x0, ()))

def impl_valsCopy (N : Nat) (x0 : List (ImplValue)) : Option ((List (ImplValue)) × Unit) := impl_valsCopy.B N x0

def impl_cellCopy.B (N : Nat) (x0 : ImplCell) : Option (ImplCell × Unit) :=
 bnd (impl_placeCopy N (ImplCell.place x0)) fun r1 =>
 bnd (impl_valsCopy N (ImplCell.states x0)) fun r2 =>
 some ((ImplCell.mk (r1).1 (r2).1), ())

def impl_cellCopy (N : Nat) (x0 : ImplCell) : Option (ImplCell × Unit) := impl_cellCopy.B N x0

def impl_storeCopy.B0 (N : Nat) (G0 : (List (ImplCell)) × (List (ImplCell)) × Int × Int × Unit → Option ((List (ImplCell)) × Unit)) : (List (ImplCell)) × (List (ImplCell)) × Int × Int × Unit → Option ((List (ImplCell)) × Unit) :=
fun (x1, x2, x3, x4, ()) =>
 br (decide (x4 < x3)) (
  gd (decide ((0 : Int) ≤ x4)) (
  gd (decide (x4 < (((List.length x2) : Nat) : Int))) (
  bnd (impl_cellCopy N (get x2 x4)) fun r6 =>
  gd (decide (((List.length x1) + (List.length ([(r6).1] : List (ImplCell)))) < 68719476736)) (
  G0 ((x1 ++ ([(r6).1] : List (ImplCell))), x2, x3, (IntKind.i64.wrap (x4 + (1 : Int))), ()))))) (
  some (x1, ()))

def impl_storeCopy.B (N : Nat) (E0 : (List (ImplCell)) × (List (ImplCell)) × Int × Int × Unit → Option ((List (ImplCell)) × Unit)) (x0 : List (ImplCell)) : Option ((List (ImplCell)) × Unit) :=
 E0 (([] : List (ImplCell)), x0, (((List.length x0) : Nat) : Int), (0 : Int), ())

def impl_storeCopy.L0 (N : Nat) : Nat → (List (ImplCell)) × (List (ImplCell)) × Int × Int × Unit → Option ((List (ImplCell)) × Unit)
  | 0, _ => none
  | n + 1, x => impl_storeCopy.B0 N (impl_storeCopy.L0 N n) x

def impl_storeCopy (N : Nat) (x0 : List (ImplCell)) : Option ((List (ImplCell)) × Unit) := impl_storeCopy.B N (impl_storeCopy.L0 N N) x0

def impl_storeFind.B0 (N : Nat) (G0 : (List (ImplSlot)) × (List (ImplCell)) × Int × Int × Unit → Option (Int × Unit)) : (List (ImplSlot)) × (List (ImplCell)) × Int × Int × Unit → Option (Int × Unit) :=
fun (x2, x3, x4, x5, ()) =>
 br (decide (x5 < x4)) (
  gd (decide ((0 : Int) ≤ x5)) (
  gd (decide (x5 < (((List.length x3) : Nat) : Int))) (
  bnd (impl_placeCmp N (ImplCell.place (get x3 x5)) x2) fun r7 =>
  br ((r7).1 == (0 : Int)) (
   some (x5, ())) (
   G0 (x2, x3, x4, (IntKind.i64.wrap (x5 + (1 : Int))), ()))))) (
  some ((-(1 : Int)), ()))

def impl_storeFind.B (N : Nat) (E0 : (List (ImplSlot)) × (List (ImplCell)) × Int × Int × Unit → Option (Int × Unit)) (x0 : List (ImplCell)) (x1 : List (ImplSlot)) : Option (Int × Unit) :=
 E0 (x1, x0, (((List.length x0) : Nat) : Int), (0 : Int), ())

def impl_storeFind.L0 (N : Nat) : Nat → (List (ImplSlot)) × (List (ImplCell)) × Int × Int × Unit → Option (Int × Unit)
  | 0, _ => none
  | n + 1, x => impl_storeFind.B0 N (impl_storeFind.L0 N n) x

def impl_storeFind (N : Nat) (x0 : List (ImplCell)) (x1 : List (ImplSlot)) : Option (Int × Unit) := impl_storeFind.B N (impl_storeFind.L0 N N) x0 x1

def impl_updateAt.B (N : Nat) (x0 : List (ImplCell)) (x1 : ImplUpdate) : Option (Int × Unit) :=
 bnd (impl_storeFind N x0 (ImplUpdate.place x1)) fun r2 =>
 br (decide ((r2).1 < (0 : Int))) (
  some ((-(1 : Int)), ())) (
  gd (decide ((0 : Int) ≤ (r2).1)) (
 gd (decide ((r2).1 < (((List.length x0) : Nat) : Int))) (
 br (decide ((ImplUpdate.state x1) ≥ (((List.length (ImplCell.states (get x0 (r2).1))) : Nat) : Int))) (
  some ((-(1 : Int)), ())) (
  gd (decide ((0 : Int) ≤ (r2).1)) (
 gd (decide ((r2).1 < (((List.length x0) : Nat) : Int))) (
 bnd (impl_formFits N (ImplUpdate.form x1) (0 : Int) (((List.length (ImplCell.states (get x0 (r2).1))) : Nat) : Int) (0 : Int)) fun r3 =>
 br (!(r3).1) (
  some ((-(1 : Int)), ())) (
  some ((r2).1, ()))))))))

def impl_updateAt (N : Nat) (x0 : List (ImplCell)) (x1 : ImplUpdate) : Option (Int × Unit) := impl_updateAt.B N x0 x1

def impl_number.B (N : Nat) (x0 : Int) : Option (ImplValue × Unit) :=
 some ((ImplValue.mk (1 : Int) x0 ([] : List (UInt8))), ())

def impl_number (N : Nat) (x0 : Int) : Option (ImplValue × Unit) := impl_number.B N x0

def impl_truth.B (N : Nat) (x0 : Bool) : Option (ImplValue × Unit) :=
 br x0 (
  bnd (impl_number N (1 : Int)) fun r1 =>
  some ((r1).1, ())) (
  bnd (impl_number N (0 : Int)) fun r2 =>
 some ((r2).1, ()))

def impl_truth (N : Nat) (x0 : Bool) : Option (ImplValue × Unit) := impl_truth.B N x0

def impl_ValShow.B (N : Nat) (x0 : ImplValue) : Option ((List UInt8) × Unit) :=
 bnd (impl_ValOk N x0) fun r1 =>
 br (!(r1).1) (
  some (([] : List (UInt8)), ())) (
  br ((ImplValue.kind x0) == (0 : Int)) (
  some (([] : List (UInt8)), ())) (
  br ((ImplValue.kind x0) == (1 : Int)) (
  bnd (LibItoa N (ImplValue.num x0)) fun r2 =>
  some ((r2).1, ())) (
  some ((ImplValue.text x0), ()))))

def impl_ValShow (N : Nat) (x0 : ImplValue) : Option ((List UInt8) × Unit) := impl_ValShow.B N x0

def impl_ValTrue.B (N : Nat) (x0 : ImplValue) : Option (Bool × Unit) :=
 bnd (impl_ValOk N x0) fun r1 =>
 br (r1).1 (
  br ((ImplValue.kind x0) == (1 : Int)) (
   br ((ImplValue.num x0) != (0 : Int)) (
    some (true, ())) (
    br ((ImplValue.kind x0) == (2 : Int)) (
    some ((!((ImplValue.text x0) == ([] : List (UInt8)))), ())) (
    some (false, ())))) (
   br ((ImplValue.kind x0) == (2 : Int)) (
   some ((!((ImplValue.text x0) == ([] : List (UInt8)))), ())) (
   some (false, ())))) (
  some (false, ()))

def impl_ValTrue (N : Nat) (x0 : ImplValue) : Option (Bool × Unit) := impl_ValTrue.B N x0

def impl_ValDo.J19 (N : Nat) : ImplValue × Int × Unit → Option (ImplValue × Unit) :=
fun (x5, x6, ()) =>
 bnd (impl_within N x6 (-(1000 : Int)) (1000 : Int)) fun r7 =>
 br (!(r7).1) (
  some ((ImplValue.mk (0 : Int) (0 : Int) ([] : List (UInt8))), ())) (
  bnd (impl_number N x6) fun r8 =>
 some ((r8).1, ()))

def impl_ValDo.B (N : Nat) (x0 : Int) (x1 : ImplValue) (x2 : ImplValue) : Option (ImplValue × Unit) :=
 bnd (impl_ValOk N x1) fun r3 =>
 br (!(r3).1) (
  some ((ImplValue.mk (0 : Int) (0 : Int) ([] : List (UInt8))), ())) (
  bnd (impl_ValOk N x2) fun r4 =>
 br (!(r4).1) (
  some ((ImplValue.mk (0 : Int) (0 : Int) ([] : List (UInt8))), ())) (
  br (x0 == (0 : Int)) (
  br (x0 == (0 : Int)) (
   br ((ImplValue.kind x1) != (1 : Int)) (
    some ((ImplValue.mk (0 : Int) (0 : Int) ([] : List (UInt8))), ())) (
    br ((ImplValue.kind x2) != (1 : Int)) (
    some ((ImplValue.mk (0 : Int) (0 : Int) ([] : List (UInt8))), ())) (
    br (x0 == (0 : Int)) (
    impl_ValDo.J19 N ((ImplValue.mk (0 : Int) (0 : Int) ([] : List (UInt8))), (IntKind.i64.wrap ((ImplValue.num x1) + (ImplValue.num x2))), ())) (
    br (x0 == (1 : Int)) (
    impl_ValDo.J19 N ((ImplValue.mk (0 : Int) (0 : Int) ([] : List (UInt8))), (IntKind.i64.wrap ((ImplValue.num x1) - (ImplValue.num x2))), ())) (
    br (x0 == (2 : Int)) (
    impl_ValDo.J19 N ((ImplValue.mk (0 : Int) (0 : Int) ([] : List (UInt8))), (IntKind.i64.wrap ((ImplValue.num x1) * (ImplValue.num x2))), ())) (
    bnd (impl_truth N (decide ((ImplValue.num x1) < (ImplValue.num x2)))) fun r9 =>
   some ((r9).1, ()))))))) (
   br (x0 == (4 : Int)) (
   bnd (impl_truth N (((ImplValue.kind x1) == (ImplValue.kind x2)) && (((ImplValue.num x1) == (ImplValue.num x2)) && ((ImplValue.text x1) == (ImplValue.text x2))))) fun r10 =>
   some ((r10).1, ())) (
   br (x0 == (5 : Int)) (
   bnd (impl_ValShow N x1) fun r11 =>
   bnd (impl_ValShow N x2) fun r12 =>
   gd (decide (((List.length (r11).1) + (List.length (r12).1)) < 68719476736)) (
   bnd (impl_ValOk N (ImplValue.mk (2 : Int) (0 : Int) ((r11).1 ++ (r12).1))) fun r13 =>
   br (!(r13).1) (
    some ((ImplValue.mk (0 : Int) (0 : Int) ([] : List (UInt8))), ())) (
    some ((ImplValue.mk (2 : Int) (0 : Int) ((r11).1 ++ (r12).1)), ())))) (
   br (x0 == (6 : Int)) (
   bnd (impl_ValTrue N x1) fun r14 =>
   br (r14).1 (
    some (x2, ())) (
    some (x1, ()))) (
   some ((ImplValue.mk (0 : Int) (0 : Int) ([] : List (UInt8))), ())))))) (
  br (x0 == (1 : Int)) (
  br (x0 == (1 : Int)) (
   br ((ImplValue.kind x1) != (1 : Int)) (
    some ((ImplValue.mk (0 : Int) (0 : Int) ([] : List (UInt8))), ())) (
    br ((ImplValue.kind x2) != (1 : Int)) (
    some ((ImplValue.mk (0 : Int) (0 : Int) ([] : List (UInt8))), ())) (
    br (x0 == (0 : Int)) (
    impl_ValDo.J19 N ((ImplValue.mk (0 : Int) (0 : Int) ([] : List (UInt8))), (IntKind.i64.wrap ((ImplValue.num x1) + (ImplValue.num x2))), ())) (
    br (x0 == (1 : Int)) (
    impl_ValDo.J19 N ((ImplValue.mk (0 : Int) (0 : Int) ([] : List (UInt8))), (IntKind.i64.wrap ((ImplValue.num x1) - (ImplValue.num x2))), ())) (
    br (x0 == (2 : Int)) (
    impl_ValDo.J19 N ((ImplValue.mk (0 : Int) (0 : Int) ([] : List (UInt8))), (IntKind.i64.wrap ((ImplValue.num x1) * (ImplValue.num x2))), ())) (
    bnd (impl_truth N (decide ((ImplValue.num x1) < (ImplValue.num x2)))) fun r15 =>
   some ((r15).1, ()))))))) (
   br (x0 == (4 : Int)) (
   bnd (impl_truth N (((ImplValue.kind x1) == (ImplValue.kind x2)) && (((ImplValue.num x1) == (ImplValue.num x2)) && ((ImplValue.text x1) == (ImplValue.text x2))))) fun r16 =>
   some ((r16).1, ())) (
   br (x0 == (5 : Int)) (
   bnd (impl_ValShow N x1) fun r17 =>
   bnd (impl_ValShow N x2) fun r18 =>
   gd (decide (((List.length (r17).1) + (List.length (r18).1)) < 68719476736)) (
   bnd (impl_ValOk N (ImplValue.mk (2 : Int) (0 : Int) ((r17).1 ++ (r18).1))) fun r19 =>
   br (!(r19).1) (
    some ((ImplValue.mk (0 : Int) (0 : Int) ([] : List (UInt8))), ())) (
    some ((ImplValue.mk (2 : Int) (0 : Int) ((r17).1 ++ (r18).1)), ())))) (
   br (x0 == (6 : Int)) (
   bnd (impl_ValTrue N x1) fun r20 =>
   br (r20).1 (
    some (x2, ())) (
    some (x1, ()))) (
   some ((ImplValue.mk (0 : Int) (0 : Int) ([] : List (UInt8))), ())))))) (
  br (x0 == (2 : Int)) (
  br (x0 == (2 : Int)) (
   br ((ImplValue.kind x1) != (1 : Int)) (
    some ((ImplValue.mk (0 : Int) (0 : Int) ([] : List (UInt8))), ())) (
    br ((ImplValue.kind x2) != (1 : Int)) (
    some ((ImplValue.mk (0 : Int) (0 : Int) ([] : List (UInt8))), ())) (
    br (x0 == (0 : Int)) (
    impl_ValDo.J19 N ((ImplValue.mk (0 : Int) (0 : Int) ([] : List (UInt8))), (IntKind.i64.wrap ((ImplValue.num x1) + (ImplValue.num x2))), ())) (
    br (x0 == (1 : Int)) (
    impl_ValDo.J19 N ((ImplValue.mk (0 : Int) (0 : Int) ([] : List (UInt8))), (IntKind.i64.wrap ((ImplValue.num x1) - (ImplValue.num x2))), ())) (
    br (x0 == (2 : Int)) (
    impl_ValDo.J19 N ((ImplValue.mk (0 : Int) (0 : Int) ([] : List (UInt8))), (IntKind.i64.wrap ((ImplValue.num x1) * (ImplValue.num x2))), ())) (
    bnd (impl_truth N (decide ((ImplValue.num x1) < (ImplValue.num x2)))) fun r21 =>
   some ((r21).1, ()))))))) (
   br (x0 == (4 : Int)) (
   bnd (impl_truth N (((ImplValue.kind x1) == (ImplValue.kind x2)) && (((ImplValue.num x1) == (ImplValue.num x2)) && ((ImplValue.text x1) == (ImplValue.text x2))))) fun r22 =>
   some ((r22).1, ())) (
   br (x0 == (5 : Int)) (
   bnd (impl_ValShow N x1) fun r23 =>
   bnd (impl_ValShow N x2) fun r24 =>
   gd (decide (((List.length (r23).1) + (List.length (r24).1)) < 68719476736)) (
   bnd (impl_ValOk N (ImplValue.mk (2 : Int) (0 : Int) ((r23).1 ++ (r24).1))) fun r25 =>
   br (!(r25).1) (
    some ((ImplValue.mk (0 : Int) (0 : Int) ([] : List (UInt8))), ())) (
    some ((ImplValue.mk (2 : Int) (0 : Int) ((r23).1 ++ (r24).1)), ())))) (
   br (x0 == (6 : Int)) (
   bnd (impl_ValTrue N x1) fun r26 =>
   br (r26).1 (
    some (x2, ())) (
    some (x1, ()))) (
   some ((ImplValue.mk (0 : Int) (0 : Int) ([] : List (UInt8))), ())))))) (
  br (x0 == (3 : Int)) (
  br ((ImplValue.kind x1) != (1 : Int)) (
   some ((ImplValue.mk (0 : Int) (0 : Int) ([] : List (UInt8))), ())) (
   br ((ImplValue.kind x2) != (1 : Int)) (
   some ((ImplValue.mk (0 : Int) (0 : Int) ([] : List (UInt8))), ())) (
   br (x0 == (0 : Int)) (
   impl_ValDo.J19 N ((ImplValue.mk (0 : Int) (0 : Int) ([] : List (UInt8))), (IntKind.i64.wrap ((ImplValue.num x1) + (ImplValue.num x2))), ())) (
   br (x0 == (1 : Int)) (
   impl_ValDo.J19 N ((ImplValue.mk (0 : Int) (0 : Int) ([] : List (UInt8))), (IntKind.i64.wrap ((ImplValue.num x1) - (ImplValue.num x2))), ())) (
   br (x0 == (2 : Int)) (
   impl_ValDo.J19 N ((ImplValue.mk (0 : Int) (0 : Int) ([] : List (UInt8))), (IntKind.i64.wrap ((ImplValue.num x1) * (ImplValue.num x2))), ())) (
   bnd (impl_truth N (decide ((ImplValue.num x1) < (ImplValue.num x2)))) fun r27 =>
  some ((r27).1, ()))))))) (
  br (x0 == (4 : Int)) (
  bnd (impl_truth N (((ImplValue.kind x1) == (ImplValue.kind x2)) && (((ImplValue.num x1) == (ImplValue.num x2)) && ((ImplValue.text x1) == (ImplValue.text x2))))) fun r28 =>
  some ((r28).1, ())) (
  br (x0 == (5 : Int)) (
  bnd (impl_ValShow N x1) fun r29 =>
  bnd (impl_ValShow N x2) fun r30 =>
  gd (decide (((List.length (r29).1) + (List.length (r30).1)) < 68719476736)) (
  bnd (impl_ValOk N (ImplValue.mk (2 : Int) (0 : Int) ((r29).1 ++ (r30).1))) fun r31 =>
  br (!(r31).1) (
   some ((ImplValue.mk (0 : Int) (0 : Int) ([] : List (UInt8))), ())) (
   some ((ImplValue.mk (2 : Int) (0 : Int) ((r29).1 ++ (r30).1)), ())))) (
  br (x0 == (6 : Int)) (
  bnd (impl_ValTrue N x1) fun r32 =>
  br (r32).1 (
   some (x2, ())) (
   some (x1, ()))) (
  some ((ImplValue.mk (0 : Int) (0 : Int) ([] : List (UInt8))), ()))))))))))

def impl_ValDo (N : Nat) (x0 : Int) (x1 : ImplValue) (x2 : ImplValue) : Option (ImplValue × Unit) := impl_ValDo.B N x0 x1 x2

def impl_formRun.J23 (N : Nat) (G0 : ImplEnv × ImplValue × (List (ImplValue)) × (List (ImplStep)) × Int × Int × Unit → Option (ImplValue × Unit)) : ImplEnv × ImplValue × (List (ImplValue)) × Int × ImplValue × (List (ImplStep)) × Int × Int × Unit → Option (ImplValue × Unit) :=
fun (x12, x13, x14, x15, x16, x17, x18, x19, ()) =>
 gd (decide ((0 : Int) ≤ (IntKind.i64.wrap (x15 - (3 : Int))))) (
 gd (decide ((IntKind.i64.wrap (x15 - (3 : Int))) ≤ (((List.length x14) : Nat) : Int))) (
 gd (decide (((List.length (sub x14 (0 : Int) (IntKind.i64.wrap (x15 - (3 : Int))))) + (List.length ([x16] : List (ImplValue)))) < 68719476736)) (
 G0 (x12, x13, ((sub x14 (0 : Int) (IntKind.i64.wrap (x15 - (3 : Int)))) ++ ([x16] : List (ImplValue))), x17, x18, (IntKind.i64.wrap (x19 + (1 : Int))), ()))))

def impl_formRun.B0 (N : Nat) (G0 : ImplEnv × ImplValue × (List (ImplValue)) × (List (ImplStep)) × Int × Int × Unit → Option (ImplValue × Unit)) : ImplEnv × ImplValue × (List (ImplValue)) × (List (ImplStep)) × Int × Int × Unit → Option (ImplValue × Unit) :=
fun (x2, x3, x4, x5, x6, x7, ()) =>
 br (decide (x7 < x6)) (
  gd (decide ((0 : Int) ≤ x7)) (
  gd (decide (x7 < (((List.length x5) : Nat) : Int))) (
  br ((ImplStep.kind (get x5 x7)) == (0 : Int)) (
   gd (decide (((List.length x4) + (List.length ([(ImplValue.mk (ImplStep.val_Kind (get x5 x7)) (ImplStep.val_Num (get x5 x7)) (ImplStep.val_Text (get x5 x7)))] : List (ImplValue)))) < 68719476736)) (
   G0 (x2, x3, (x4 ++ ([(ImplValue.mk (ImplStep.val_Kind (get x5 x7)) (ImplStep.val_Num (get x5 x7)) (ImplStep.val_Text (get x5 x7)))] : List (ImplValue))), x5, x6, (IntKind.i64.wrap (x7 + (1 : Int))), ()))) (
   br ((ImplStep.kind (get x5 x7)) == (1 : Int)) (
   gd (decide ((0 : Int) ≤ (ImplStep.a (get x5 x7)))) (
   gd (decide ((ImplStep.a (get x5 x7)) < (((List.length (ImplEnv.props x2)) : Nat) : Int))) (
   gd (decide (((List.length x4) + (List.length ([(get (ImplEnv.props x2) (ImplStep.a (get x5 x7)))] : List (ImplValue)))) < 68719476736)) (
   G0 (x2, x3, (x4 ++ ([(get (ImplEnv.props x2) (ImplStep.a (get x5 x7)))] : List (ImplValue))), x5, x6, (IntKind.i64.wrap (x7 + (1 : Int))), ()))))) (
   br ((ImplStep.kind (get x5 x7)) == (2 : Int)) (
   gd (decide ((0 : Int) ≤ (ImplStep.a (get x5 x7)))) (
   gd (decide ((ImplStep.a (get x5 x7)) < (((List.length (ImplEnv.states x2)) : Nat) : Int))) (
   gd (decide (((List.length x4) + (List.length ([(get (ImplEnv.states x2) (ImplStep.a (get x5 x7)))] : List (ImplValue)))) < 68719476736)) (
   G0 (x2, x3, (x4 ++ ([(get (ImplEnv.states x2) (ImplStep.a (get x5 x7)))] : List (ImplValue))), x5, x6, (IntKind.i64.wrap (x7 + (1 : Int))), ()))))) (
   br ((ImplStep.kind (get x5 x7)) == (3 : Int)) (
   gd (decide ((0 : Int) ≤ (IntKind.i64.wrap ((IntKind.i64.wrap ((((List.length (ImplEnv.turns x2)) : Nat) : Int) - (1 : Int))) - (ImplStep.a (get x5 x7)))))) (
   gd (decide ((IntKind.i64.wrap ((IntKind.i64.wrap ((((List.length (ImplEnv.turns x2)) : Nat) : Int) - (1 : Int))) - (ImplStep.a (get x5 x7)))) < (((List.length (ImplEnv.turns x2)) : Nat) : Int))) (
   bnd (impl_number N (get (ImplEnv.turns x2) (IntKind.i64.wrap ((IntKind.i64.wrap ((((List.length (ImplEnv.turns x2)) : Nat) : Int) - (1 : Int))) - (ImplStep.a (get x5 x7)))))) fun r9 =>
   gd (decide (((List.length x4) + (List.length ([(r9).1] : List (ImplValue)))) < 68719476736)) (
   G0 (x2, x3, (x4 ++ ([(r9).1] : List (ImplValue))), x5, x6, (IntKind.i64.wrap (x7 + (1 : Int))), ()))))) (
   br ((ImplStep.kind (get x5 x7)) == (4 : Int)) (
   gd (decide ((0 : Int) ≤ (ImplStep.a (get x5 x7)))) (
   gd (decide ((ImplStep.a (get x5 x7)) < (((List.length (ImplEnv.gifts x2)) : Nat) : Int))) (
   gd (decide (((List.length x4) + (List.length ([(get (ImplEnv.gifts x2) (ImplStep.a (get x5 x7)))] : List (ImplValue)))) < 68719476736)) (
   G0 (x2, x3, (x4 ++ ([(get (ImplEnv.gifts x2) (ImplStep.a (get x5 x7)))] : List (ImplValue))), x5, x6, (IntKind.i64.wrap (x7 + (1 : Int))), ()))))) (
   br ((ImplStep.kind (get x5 x7)) == (5 : Int)) (
   gd (decide ((0 : Int) ≤ (IntKind.i64.wrap ((((List.length x4) : Nat) : Int) - (2 : Int))))) (
   gd (decide ((IntKind.i64.wrap ((((List.length x4) : Nat) : Int) - (2 : Int))) ≤ (((List.length x4) : Nat) : Int))) (
   gd (decide ((0 : Int) ≤ (IntKind.i64.wrap ((((List.length x4) : Nat) : Int) - (2 : Int))))) (
   gd (decide ((IntKind.i64.wrap ((((List.length x4) : Nat) : Int) - (2 : Int))) < (((List.length x4) : Nat) : Int))) (
   gd (decide ((0 : Int) ≤ (IntKind.i64.wrap ((((List.length x4) : Nat) : Int) - (1 : Int))))) (
   gd (decide ((IntKind.i64.wrap ((((List.length x4) : Nat) : Int) - (1 : Int))) < (((List.length x4) : Nat) : Int))) (
   bnd (impl_ValDo N (ImplStep.a (get x5 x7)) (get x4 (IntKind.i64.wrap ((((List.length x4) : Nat) : Int) - (2 : Int)))) (get x4 (IntKind.i64.wrap ((((List.length x4) : Nat) : Int) - (1 : Int))))) fun r10 =>
   gd (decide (((List.length (sub x4 (0 : Int) (IntKind.i64.wrap ((((List.length x4) : Nat) : Int) - (2 : Int))))) + (List.length ([(r10).1] : List (ImplValue)))) < 68719476736)) (
   G0 (x2, x3, ((sub x4 (0 : Int) (IntKind.i64.wrap ((((List.length x4) : Nat) : Int) - (2 : Int)))) ++ ([(r10).1] : List (ImplValue))), x5, x6, (IntKind.i64.wrap (x7 + (1 : Int))), ()))))))))) (
   br ((ImplStep.kind (get x5 x7)) == (6 : Int)) (
   gd (decide ((0 : Int) ≤ (IntKind.i64.wrap ((((List.length x4) : Nat) : Int) - (1 : Int))))) (
   gd (decide ((IntKind.i64.wrap ((((List.length x4) : Nat) : Int) - (1 : Int))) < (((List.length x4) : Nat) : Int))) (
   gd (decide ((0 : Int) ≤ (IntKind.i64.wrap ((((List.length x4) : Nat) : Int) - (3 : Int))))) (
   gd (decide ((IntKind.i64.wrap ((((List.length x4) : Nat) : Int) - (3 : Int))) < (((List.length x4) : Nat) : Int))) (
   bnd (impl_ValTrue N (get x4 (IntKind.i64.wrap ((((List.length x4) : Nat) : Int) - (3 : Int))))) fun r11 =>
   br (r11).1 (
    gd (decide ((0 : Int) ≤ (IntKind.i64.wrap ((((List.length x4) : Nat) : Int) - (2 : Int))))) (
    gd (decide ((IntKind.i64.wrap ((((List.length x4) : Nat) : Int) - (2 : Int))) < (((List.length x4) : Nat) : Int))) (
    impl_formRun.J23 N G0 (x2, x3, x4, (((List.length x4) : Nat) : Int), (get x4 (IntKind.i64.wrap ((((List.length x4) : Nat) : Int) - (2 : Int)))), x5, x6, x7, ())))) (
    impl_formRun.J23 N G0 (x2, x3, x4, (((List.length x4) : Nat) : Int), (get x4 (IntKind.i64.wrap ((((List.length x4) : Nat) : Int) - (1 : Int)))), x5, x6, x7, ()))))))) (
   G0 (x2, x3, x4, x5, x6, (IntKind.i64.wrap (x7 + (1 : Int))), ()))))))))))) (
  gd (decide ((0 : Int) < (((List.length x4) : Nat) : Int))) (
 some ((get x4 (0 : Int)), ())))

def impl_formRun.B (N : Nat) (E0 : ImplEnv × ImplValue × (List (ImplValue)) × (List (ImplStep)) × Int × Int × Unit → Option (ImplValue × Unit)) (x0 : List (ImplStep)) (x1 : ImplEnv) : Option (ImplValue × Unit) :=
 E0 (x1, (ImplValue.mk (0 : Int) (0 : Int) ([] : List (UInt8))), ([] : List (ImplValue)), x0, (((List.length x0) : Nat) : Int), (0 : Int), ())

def impl_formRun.L0 (N : Nat) : Nat → ImplEnv × ImplValue × (List (ImplValue)) × (List (ImplStep)) × Int × Int × Unit → Option (ImplValue × Unit)
  | 0, _ => none
  | n + 1, x => impl_formRun.B0 N (impl_formRun.L0 N n) x

def impl_formRun (N : Nat) (x0 : List (ImplStep)) (x1 : ImplEnv) : Option (ImplValue × Unit) := impl_formRun.B N (impl_formRun.L0 N N) x0 x1

def impl_storeDo.B (N : Nat) (x0 : List (ImplCell)) (x1 : ImplUpdate) : Option ((List (ImplCell)) × Unit) :=
 bnd (impl_storeCopy N x0) fun r2 =>
 bnd (impl_updateAt N (r2).1 x1) fun r3 =>
 br (decide ((r3).1 ≥ (0 : Int))) (
  gd (decide ((0 : Int) ≤ (r3).1)) (
  gd (decide ((r3).1 < (((List.length (r2).1) : Nat) : Int))) (
  bnd (impl_formRun N (ImplUpdate.form x1) (ImplEnv.mk ([] : List (ImplValue)) (ImplCell.states (get (r2).1 (r3).1)) ([] : List (Int)) (List.replicate (Int.toNat (2 : Int)) (ImplValue.mk (0 : Int) (0 : Int) ([] : List (UInt8)))))) fun r4 =>
  gd (decide ((0 : Int) ≤ (r3).1)) (
  gd (decide ((r3).1 < (((List.length (r2).1) : Nat) : Int))) (
  gd (decide ((0 : Int) ≤ (ImplUpdate.state x1))) (
  gd (decide ((ImplUpdate.state x1) < (((List.length (ImplCell.states (get (r2).1 (r3).1))) : Nat) : Int))) (
  some ((List.set (r2).1 (Int.toNat (r3).1) (ImplCell.mk (ImplCell.place (get (r2).1 (r3).1)) (List.set (ImplCell.states (get (r2).1 (r3).1)) (Int.toNat (ImplUpdate.state x1)) (r4).1))), ())))))))) (
  some ((r2).1, ()))

def impl_storeDo (N : Nat) (x0 : List (ImplCell)) (x1 : ImplUpdate) : Option ((List (ImplCell)) × Unit) := impl_storeDo.B N x0 x1

def spec_sameValues.B0 (N : Nat) (G0 : (List (ImplValue)) × (List (ImplValue)) × Int × Unit → Option (Bool × Unit)) : (List (ImplValue)) × (List (ImplValue)) × Int × Unit → Option (Bool × Unit) :=
fun (x2, x3, x4, ()) =>
 br (decide (x4 < (((List.length x2) : Nat) : Int))) (
  gd (decide ((0 : Int) ≤ x4)) (
  gd (decide (x4 < (((List.length x2) : Nat) : Int))) (
  gd (decide ((0 : Int) ≤ x4)) (
  gd (decide (x4 < (((List.length x3) : Nat) : Int))) (
  br (!(((ImplValue.kind (get x2 x4)) == (ImplValue.kind (get x3 x4))) && (((ImplValue.num (get x2 x4)) == (ImplValue.num (get x3 x4))) && ((ImplValue.text (get x2 x4)) == (ImplValue.text (get x3 x4)))))) (
   some (false, ())) (
   G0 (x2, x3, (IntKind.i64.wrap (x4 + (1 : Int))), ()))))))) (
  some (true, ()))

def spec_sameValues.B (N : Nat) (E0 : (List (ImplValue)) × (List (ImplValue)) × Int × Unit → Option (Bool × Unit)) (x0 : List (ImplValue)) (x1 : List (ImplValue)) : Option (Bool × Unit) :=
 br ((((List.length x0) : Nat) : Int) != (((List.length x1) : Nat) : Int)) (
  some (false, ())) (
  E0 (x0, x1, (0 : Int), ()))

def spec_sameValues.L0 (N : Nat) : Nat → (List (ImplValue)) × (List (ImplValue)) × Int × Unit → Option (Bool × Unit)
  | 0, _ => none
  | n + 1, x => spec_sameValues.B0 N (spec_sameValues.L0 N n) x

def spec_sameValues (N : Nat) (x0 : List (ImplValue)) (x1 : List (ImplValue)) : Option (Bool × Unit) := spec_sameValues.B N (spec_sameValues.L0 N N) x0 x1

def spec_sameStore.B0 (N : Nat) (G0 : (List (ImplCell)) × (List (ImplCell)) × Int × Unit → Option (Bool × Unit)) : (List (ImplCell)) × (List (ImplCell)) × Int × Unit → Option (Bool × Unit) :=
fun (x2, x3, x4, ()) =>
 br (decide (x4 < (((List.length x2) : Nat) : Int))) (
  gd (decide ((0 : Int) ≤ x4)) (
  gd (decide (x4 < (((List.length x2) : Nat) : Int))) (
  gd (decide ((0 : Int) ≤ x4)) (
  gd (decide (x4 < (((List.length x3) : Nat) : Int))) (
  bnd (spec_comparePlaces N (ImplCell.place (get x2 x4)) (ImplCell.place (get x3 x4))) fun r6 =>
  br ((r6).1 != (0 : Int)) (
   some (false, ())) (
   gd (decide ((0 : Int) ≤ x4)) (
  gd (decide (x4 < (((List.length x2) : Nat) : Int))) (
  gd (decide ((0 : Int) ≤ x4)) (
  gd (decide (x4 < (((List.length x3) : Nat) : Int))) (
  bnd (spec_sameValues N (ImplCell.states (get x2 x4)) (ImplCell.states (get x3 x4))) fun r7 =>
  br (!(r7).1) (
   some (false, ())) (
   G0 (x2, x3, (IntKind.i64.wrap (x4 + (1 : Int))), ())))))))))))) (
  some (true, ()))

def spec_sameStore.B (N : Nat) (E0 : (List (ImplCell)) × (List (ImplCell)) × Int × Unit → Option (Bool × Unit)) (x0 : List (ImplCell)) (x1 : List (ImplCell)) : Option (Bool × Unit) :=
 br ((((List.length x0) : Nat) : Int) != (((List.length x1) : Nat) : Int)) (
  some (false, ())) (
  E0 (x0, x1, (0 : Int), ()))

def spec_sameStore.L0 (N : Nat) : Nat → (List (ImplCell)) × (List (ImplCell)) × Int × Unit → Option (Bool × Unit)
  | 0, _ => none
  | n + 1, x => spec_sameStore.B0 N (spec_sameStore.L0 N n) x

def spec_sameStore (N : Nat) (x0 : List (ImplCell)) (x1 : List (ImplCell)) : Option (Bool × Unit) := spec_sameStore.B N (spec_sameStore.L0 N N) x0 x1

def spec_SameStore.B (N : Nat) (x0 : List (ImplCell)) (x1 : List (ImplCell)) : Option (Bool × Unit) :=
 bnd (spec_sameStore N x0 x1) fun r2 =>
 some ((r2).1, ())

def spec_SameStore (N : Nat) (x0 : List (ImplCell)) (x1 : List (ImplCell)) : Option (Bool × Unit) := spec_SameStore.B N x0 x1

def spec_storeRun.B0 (N : Nat) (G0 : (List (ImplCell)) × (List (ImplUpdate)) × Int × Unit → Option ((List (ImplCell)) × Unit)) : (List (ImplCell)) × (List (ImplUpdate)) × Int × Unit → Option ((List (ImplCell)) × Unit) :=
fun (x2, x3, x4, ()) =>
 br (decide (x4 < (((List.length x3) : Nat) : Int))) (
  gd (decide ((0 : Int) ≤ x4)) (
  gd (decide (x4 < (((List.length x3) : Nat) : Int))) (
  bnd (spec_storeUpdated N x2 (get x3 x4)) fun r6 =>
  G0 ((r6).1, x3, (IntKind.i64.wrap (x4 + (1 : Int))), ())))) (
  some (x2, ()))

def spec_storeRun.B (N : Nat) (E0 : (List (ImplCell)) × (List (ImplUpdate)) × Int × Unit → Option ((List (ImplCell)) × Unit)) (x0 : List (ImplCell)) (x1 : List (ImplUpdate)) : Option ((List (ImplCell)) × Unit) :=
 E0 (x0, x1, (0 : Int), ())

def spec_storeRun.L0 (N : Nat) : Nat → (List (ImplCell)) × (List (ImplUpdate)) × Int × Unit → Option ((List (ImplCell)) × Unit)
  | 0, _ => none
  | n + 1, x => spec_storeRun.B0 N (spec_storeRun.L0 N n) x

def spec_storeRun (N : Nat) (x0 : List (ImplCell)) (x1 : List (ImplUpdate)) : Option ((List (ImplCell)) × Unit) := spec_storeRun.B N (spec_storeRun.L0 N N) x0 x1

def impl_storeRun.B0 (N : Nat) (G0 : (List (ImplCell)) × (List (ImplUpdate)) × Int × Int × Unit → Option ((List (ImplCell)) × Unit)) : (List (ImplCell)) × (List (ImplUpdate)) × Int × Int × Unit → Option ((List (ImplCell)) × Unit) :=
fun (x3, x4, x5, x6, ()) =>
 br (decide (x6 < x5)) (
  gd (decide ((0 : Int) ≤ x6)) (
  gd (decide (x6 < (((List.length x4) : Nat) : Int))) (
  bnd (impl_storeDo N x3 (get x4 x6)) fun r8 =>
  G0 ((r8).1, x4, x5, (IntKind.i64.wrap (x6 + (1 : Int))), ())))) (
  some (x3, ()))

def impl_storeRun.B (N : Nat) (E0 : (List (ImplCell)) × (List (ImplUpdate)) × Int × Int × Unit → Option ((List (ImplCell)) × Unit)) (x0 : List (ImplCell)) (x1 : List (ImplUpdate)) : Option ((List (ImplCell)) × Unit) :=
 bnd (impl_storeCopy N x0) fun r2 =>
 E0 ((r2).1, x1, (((List.length x1) : Nat) : Int), (0 : Int), ())

def impl_storeRun.L0 (N : Nat) : Nat → (List (ImplCell)) × (List (ImplUpdate)) × Int × Int × Unit → Option ((List (ImplCell)) × Unit)
  | 0, _ => none
  | n + 1, x => impl_storeRun.B0 N (impl_storeRun.L0 N n) x

def impl_storeRun (N : Nat) (x0 : List (ImplCell)) (x1 : List (ImplUpdate)) : Option ((List (ImplCell)) × Unit) := impl_storeRun.B N (impl_storeRun.L0 N N) x0 x1

def spec_validStores.B0 (N : Nat) (G0 : (List (List (ImplCell))) × Int × Unit → Option (Bool × Unit)) : (List (List (ImplCell))) × Int × Unit → Option (Bool × Unit) :=
fun (x1, x2, ()) =>
 br (decide (x2 < (((List.length x1) : Nat) : Int))) (
  gd (decide ((0 : Int) ≤ x2)) (
  gd (decide (x2 < (((List.length x1) : Nat) : Int))) (
  bnd (spec_validStore N (get x1 x2)) fun r4 =>
  br (!(r4).1) (
   some (false, ())) (
   G0 (x1, (IntKind.i64.wrap (x2 + (1 : Int))), ()))))) (
  some (true, ()))

def spec_validStores.B (N : Nat) (E0 : (List (List (ImplCell))) × Int × Unit → Option (Bool × Unit)) (x0 : List (List (ImplCell))) : Option (Bool × Unit) :=
 br (decide ((((List.length x0) : Nat) : Int) > (6 : Int))) (
  some (false, ())) (
  E0 (x0, (0 : Int), ()))

def spec_validStores.L0 (N : Nat) : Nat → (List (List (ImplCell))) × Int × Unit → Option (Bool × Unit)
  | 0, _ => none
  | n + 1, x => spec_validStores.B0 N (spec_validStores.L0 N n) x

def spec_validStores (N : Nat) (x0 : List (List (ImplCell))) : Option (Bool × Unit) := spec_validStores.B N (spec_validStores.L0 N N) x0

def spec_validHist.B (N : Nat) (x0 : ImplHist) : Option (Bool × Unit) :=
 bnd (spec_validStore N (ImplHist.now x0)) fun r1 =>
 br (r1).1 (
  bnd (spec_validStores N (ImplHist.back x0)) fun r2 =>
  br (r2).1 (
   bnd (spec_validStores N (ImplHist.ahead x0)) fun r3 =>
   br (r3).1 (
    some ((decide ((IntKind.i64.wrap ((((List.length (ImplHist.back x0)) : Nat) : Int) + (((List.length (ImplHist.ahead x0)) : Nat) : Int))) ≤ (6 : Int))), ())) (
    some (false, ()))) (
   some (false, ()))) (
  some (false, ()))

def spec_validHist (N : Nat) (x0 : ImplHist) : Option (Bool × Unit) := spec_validHist.B N x0

def spec_copyStores.B0 (N : Nat) (G0 : (List (List (ImplCell))) × (List (List (ImplCell))) × Int × Unit → Option ((List (List (ImplCell))) × Unit)) : (List (List (ImplCell))) × (List (List (ImplCell))) × Int × Unit → Option ((List (List (ImplCell))) × Unit) :=
fun (x1, x2, x3, ()) =>
 br (decide (x3 < (((List.length x1) : Nat) : Int))) (
  gd (decide ((0 : Int) ≤ x3)) (
  gd (decide (x3 < (((List.length x1) : Nat) : Int))) (
  bnd (spec_copyStore N (get x1 x3)) fun r5 =>
  gd (decide (((List.length x2) + (List.length ([(r5).1] : List (List (ImplCell))))) < 68719476736)) (
  G0 (x1, (x2 ++ ([(r5).1] : List (List (ImplCell)))), (IntKind.i64.wrap (x3 + (1 : Int))), ()))))) (
  some (x2, ()))

def spec_copyStores.B (N : Nat) (E0 : (List (List (ImplCell))) × (List (List (ImplCell))) × Int × Unit → Option ((List (List (ImplCell))) × Unit)) (x0 : List (List (ImplCell))) : Option ((List (List (ImplCell))) × Unit) :=
 E0 (x0, ([] : List (List (ImplCell))), (0 : Int), ())

def spec_copyStores.L0 (N : Nat) : Nat → (List (List (ImplCell))) × (List (List (ImplCell))) × Int × Unit → Option ((List (List (ImplCell))) × Unit)
  | 0, _ => none
  | n + 1, x => spec_copyStores.B0 N (spec_copyStores.L0 N n) x

def spec_copyStores (N : Nat) (x0 : List (List (ImplCell))) : Option ((List (List (ImplCell))) × Unit) := spec_copyStores.B N (spec_copyStores.L0 N N) x0

def spec_copyHist.B (N : Nat) (x0 : ImplHist) : Option (ImplHist × Unit) :=
 bnd (spec_copyStore N (ImplHist.now x0)) fun r1 =>
 bnd (spec_copyStores N (ImplHist.back x0)) fun r2 =>
 bnd (spec_copyStores N (ImplHist.ahead x0)) fun r3 =>
 some ((ImplHist.mk (r1).1 (r2).1 (r3).1), ())

def spec_copyHist (N : Nat) (x0 : ImplHist) : Option (ImplHist × Unit) := spec_copyHist.B N x0

def spec_HistDo.J9 (N : Nat) : ImplHist × (List (ImplCell)) × (List (List (ImplCell))) × Unit → Option (ImplHist × Unit) :=
fun (x10, x11, x12, ()) =>
 bnd (spec_copyStores N x12) fun r13 =>
 some ((ImplHist.mk x11 (r13).1 ([] : List (List (ImplCell)))), ())

def spec_HistDo.B (N : Nat) (x0 : ImplHist) (x1 : List (ImplUpdate)) : Option (ImplHist × Unit) :=
 bnd (spec_validHist N x0) fun r2 =>
 br (!(r2).1) (
  some ((ImplHist.mk ([] : List (ImplCell)) ([] : List (List (ImplCell))) ([] : List (List (ImplCell)))), ())) (
  bnd (spec_validUpdates N x1) fun r3 =>
 br (!(r3).1) (
  some ((ImplHist.mk ([] : List (ImplCell)) ([] : List (List (ImplCell))) ([] : List (List (ImplCell)))), ())) (
  bnd (spec_storeRun N (ImplHist.now x0) x1) fun r4 =>
 bnd (spec_copyStore N (r4).1) fun r5 =>
 bnd (spec_sameStore N (r5).1 (ImplHist.now x0)) fun r6 =>
 br (r6).1 (
  bnd (spec_copyHist N x0) fun r7 =>
  some ((r7).1, ())) (
  bnd (spec_copyStores N (ImplHist.back x0)) fun r8 =>
 bnd (spec_copyStore N (ImplHist.now x0)) fun r9 =>
 gd (decide (((List.length (r8).1) + (List.length ([(r9).1] : List (List (ImplCell))))) < 68719476736)) (
 br (decide ((((List.length ((r8).1 ++ ([(r9).1] : List (List (ImplCell))))) : Nat) : Int) > (6 : Int))) (
  gd (decide ((1 : Int) ≤ (((List.length ((r8).1 ++ ([(r9).1] : List (List (ImplCell))))) : Nat) : Int))) (
  gd (decide ((((List.length ((r8).1 ++ ([(r9).1] : List (List (ImplCell))))) : Nat) : Int) ≤ (((List.length ((r8).1 ++ ([(r9).1] : List (List (ImplCell))))) : Nat) : Int))) (
  spec_HistDo.J9 N ((ImplHist.mk ([] : List (ImplCell)) ([] : List (List (ImplCell))) ([] : List (List (ImplCell)))), (r5).1, (sub ((r8).1 ++ ([(r9).1] : List (List (ImplCell)))) (1 : Int) (((List.length ((r8).1 ++ ([(r9).1] : List (List (ImplCell))))) : Nat) : Int)), ())))) (
  spec_HistDo.J9 N ((ImplHist.mk ([] : List (ImplCell)) ([] : List (List (ImplCell))) ([] : List (List (ImplCell)))), (r5).1, ((r8).1 ++ ([(r9).1] : List (List (ImplCell)))), ()))))))

def spec_HistDo (N : Nat) (x0 : ImplHist) (x1 : List (ImplUpdate)) : Option (ImplHist × Unit) := spec_HistDo.B N x0 x1

def spec_HistUndo.B (N : Nat) (x0 : ImplHist) : Option (ImplHist × Bool × Unit) :=
 bnd (spec_validHist N x0) fun r1 =>
 br (!(r1).1) (
  some ((ImplHist.mk ([] : List (ImplCell)) ([] : List (List (ImplCell))) ([] : List (List (ImplCell)))), false, ())) (
  br ((((List.length (ImplHist.back x0)) : Nat) : Int) == (0 : Int)) (
  some ((ImplHist.mk ([] : List (ImplCell)) ([] : List (List (ImplCell))) ([] : List (List (ImplCell)))), false, ())) (
  gd (decide ((0 : Int) ≤ (IntKind.i64.wrap ((((List.length (ImplHist.back x0)) : Nat) : Int) - (1 : Int))))) (
 gd (decide ((IntKind.i64.wrap ((((List.length (ImplHist.back x0)) : Nat) : Int) - (1 : Int))) < (((List.length (ImplHist.back x0)) : Nat) : Int))) (
 bnd (spec_copyStore N (get (ImplHist.back x0) (IntKind.i64.wrap ((((List.length (ImplHist.back x0)) : Nat) : Int) - (1 : Int))))) fun r2 =>
 gd (decide ((0 : Int) ≤ (IntKind.i64.wrap ((((List.length (ImplHist.back x0)) : Nat) : Int) - (1 : Int))))) (
 gd (decide ((IntKind.i64.wrap ((((List.length (ImplHist.back x0)) : Nat) : Int) - (1 : Int))) ≤ (((List.length (ImplHist.back x0)) : Nat) : Int))) (
 bnd (spec_copyStores N (sub (ImplHist.back x0) (0 : Int) (IntKind.i64.wrap ((((List.length (ImplHist.back x0)) : Nat) : Int) - (1 : Int))))) fun r3 =>
 bnd (spec_copyStores N (ImplHist.ahead x0)) fun r4 =>
 bnd (spec_copyStore N (ImplHist.now x0)) fun r5 =>
 gd (decide (((List.length (r4).1) + (List.length ([(r5).1] : List (List (ImplCell))))) < 68719476736)) (
 some ((ImplHist.mk (r2).1 (r3).1 ((r4).1 ++ ([(r5).1] : List (List (ImplCell))))), true, ()))))))))

def spec_HistUndo (N : Nat) (x0 : ImplHist) : Option (ImplHist × Bool × Unit) := spec_HistUndo.B N x0

def spec_HistRedo.B (N : Nat) (x0 : ImplHist) : Option (ImplHist × Bool × Unit) :=
 bnd (spec_validHist N x0) fun r1 =>
 br (!(r1).1) (
  some ((ImplHist.mk ([] : List (ImplCell)) ([] : List (List (ImplCell))) ([] : List (List (ImplCell)))), false, ())) (
  br ((((List.length (ImplHist.ahead x0)) : Nat) : Int) == (0 : Int)) (
  some ((ImplHist.mk ([] : List (ImplCell)) ([] : List (List (ImplCell))) ([] : List (List (ImplCell)))), false, ())) (
  gd (decide ((0 : Int) ≤ (IntKind.i64.wrap ((((List.length (ImplHist.ahead x0)) : Nat) : Int) - (1 : Int))))) (
 gd (decide ((IntKind.i64.wrap ((((List.length (ImplHist.ahead x0)) : Nat) : Int) - (1 : Int))) < (((List.length (ImplHist.ahead x0)) : Nat) : Int))) (
 bnd (spec_copyStore N (get (ImplHist.ahead x0) (IntKind.i64.wrap ((((List.length (ImplHist.ahead x0)) : Nat) : Int) - (1 : Int))))) fun r2 =>
 bnd (spec_copyStores N (ImplHist.back x0)) fun r3 =>
 bnd (spec_copyStore N (ImplHist.now x0)) fun r4 =>
 gd (decide (((List.length (r3).1) + (List.length ([(r4).1] : List (List (ImplCell))))) < 68719476736)) (
 gd (decide ((0 : Int) ≤ (IntKind.i64.wrap ((((List.length (ImplHist.ahead x0)) : Nat) : Int) - (1 : Int))))) (
 gd (decide ((IntKind.i64.wrap ((((List.length (ImplHist.ahead x0)) : Nat) : Int) - (1 : Int))) ≤ (((List.length (ImplHist.ahead x0)) : Nat) : Int))) (
 bnd (spec_copyStores N (sub (ImplHist.ahead x0) (0 : Int) (IntKind.i64.wrap ((((List.length (ImplHist.ahead x0)) : Nat) : Int) - (1 : Int))))) fun r5 =>
 some ((ImplHist.mk (r2).1 ((r3).1 ++ ([(r4).1] : List (List (ImplCell)))) (r5).1), true, ()))))))))

def spec_HistRedo (N : Nat) (x0 : ImplHist) : Option (ImplHist × Bool × Unit) := spec_HistRedo.B N x0

def impl_storesOk.B0 (N : Nat) (G0 : (List (List (ImplCell))) × Int × Int × Unit → Option (Bool × Unit)) : (List (List (ImplCell))) × Int × Int × Unit → Option (Bool × Unit) :=
fun (x1, x2, x3, ()) =>
 br (decide (x3 < x2)) (
  gd (decide ((0 : Int) ≤ x3)) (
  gd (decide (x3 < (((List.length x1) : Nat) : Int))) (
  bnd (impl_StoreOk N (get x1 x3)) fun r5 =>
  br (!(r5).1) (
   some (false, ())) (
   G0 (x1, x2, (IntKind.i64.wrap (x3 + (1 : Int))), ()))))) (
  some (true, ()))

def impl_storesOk.B (N : Nat) (E0 : (List (List (ImplCell))) × Int × Int × Unit → Option (Bool × Unit)) (x0 : List (List (ImplCell))) : Option (Bool × Unit) :=
 E0 (x0, (((List.length x0) : Nat) : Int), (0 : Int), ())

def impl_storesOk.L0 (N : Nat) : Nat → (List (List (ImplCell))) × Int × Int × Unit → Option (Bool × Unit)
  | 0, _ => none
  | n + 1, x => impl_storesOk.B0 N (impl_storesOk.L0 N n) x

def impl_storesOk (N : Nat) (x0 : List (List (ImplCell))) : Option (Bool × Unit) := impl_storesOk.B N (impl_storesOk.L0 N N) x0

def impl_HistOk.B (N : Nat) (x0 : ImplHist) : Option (Bool × Unit) :=
 bnd (impl_StoreOk N (ImplHist.now x0)) fun r1 =>
 br (r1).1 (
  bnd (impl_storesOk N (ImplHist.back x0)) fun r2 =>
  br (r2).1 (
   bnd (impl_storesOk N (ImplHist.ahead x0)) fun r3 =>
   br (r3).1 (
    some ((decide ((IntKind.i64.wrap ((((List.length (ImplHist.back x0)) : Nat) : Int) + (((List.length (ImplHist.ahead x0)) : Nat) : Int))) ≤ (6 : Int))), ())) (
    some (false, ()))) (
   some (false, ()))) (
  some (false, ()))

def impl_HistOk (N : Nat) (x0 : ImplHist) : Option (Bool × Unit) := impl_HistOk.B N x0

def impl_storesCopy.B0 (N : Nat) (G0 : (List (List (ImplCell))) × (List (List (ImplCell))) × Int × Int × Unit → Option ((List (List (ImplCell))) × Unit)) : (List (List (ImplCell))) × (List (List (ImplCell))) × Int × Int × Unit → Option ((List (List (ImplCell))) × Unit) :=
fun (x1, x2, x3, x4, ()) =>
 br (decide (x4 < x3)) (
  gd (decide ((0 : Int) ≤ x4)) (
  gd (decide (x4 < (((List.length x2) : Nat) : Int))) (
  bnd (impl_storeCopy N (get x2 x4)) fun r6 =>
  gd (decide (((List.length x1) + (List.length ([(r6).1] : List (List (ImplCell))))) < 68719476736)) (
  G0 ((x1 ++ ([(r6).1] : List (List (ImplCell)))), x2, x3, (IntKind.i64.wrap (x4 + (1 : Int))), ()))))) (
  some (x1, ()))

def impl_storesCopy.B (N : Nat) (E0 : (List (List (ImplCell))) × (List (List (ImplCell))) × Int × Int × Unit → Option ((List (List (ImplCell))) × Unit)) (x0 : List (List (ImplCell))) : Option ((List (List (ImplCell))) × Unit) :=
 E0 (([] : List (List (ImplCell))), x0, (((List.length x0) : Nat) : Int), (0 : Int), ())

def impl_storesCopy.L0 (N : Nat) : Nat → (List (List (ImplCell))) × (List (List (ImplCell))) × Int × Int × Unit → Option ((List (List (ImplCell))) × Unit)
  | 0, _ => none
  | n + 1, x => impl_storesCopy.B0 N (impl_storesCopy.L0 N n) x

def impl_storesCopy (N : Nat) (x0 : List (List (ImplCell))) : Option ((List (List (ImplCell))) × Unit) := impl_storesCopy.B N (impl_storesCopy.L0 N N) x0

def impl_histCopy.B (N : Nat) (x0 : ImplHist) : Option (ImplHist × Unit) :=
 bnd (impl_storeCopy N (ImplHist.now x0)) fun r1 =>
 bnd (impl_storesCopy N (ImplHist.back x0)) fun r2 =>
 bnd (impl_storesCopy N (ImplHist.ahead x0)) fun r3 =>
 some ((ImplHist.mk (r1).1 (r2).1 (r3).1), ())

def impl_histCopy (N : Nat) (x0 : ImplHist) : Option (ImplHist × Unit) := impl_histCopy.B N x0

def impl_valsSame.B0 (N : Nat) (G0 : (List (ImplValue)) × (List (ImplValue)) × Int × Int × Unit → Option (Bool × Unit)) : (List (ImplValue)) × (List (ImplValue)) × Int × Int × Unit → Option (Bool × Unit) :=
fun (x2, x3, x4, x5, ()) =>
 br (decide (x5 < x4)) (
  gd (decide ((0 : Int) ≤ x5)) (
  gd (decide (x5 < (((List.length x2) : Nat) : Int))) (
  gd (decide ((0 : Int) ≤ x5)) (
  gd (decide (x5 < (((List.length x3) : Nat) : Int))) (
  br (!(((ImplValue.kind (get x2 x5)) == (ImplValue.kind (get x3 x5))) && (((ImplValue.num (get x2 x5)) == (ImplValue.num (get x3 x5))) && ((ImplValue.text (get x2 x5)) == (ImplValue.text (get x3 x5)))))) (
   some (false, ())) (
   G0 (x2, x3, x4, (IntKind.i64.wrap (x5 + (1 : Int))), ()))))))) (
  some (true, ()))

def impl_valsSame.B (N : Nat) (E0 : (List (ImplValue)) × (List (ImplValue)) × Int × Int × Unit → Option (Bool × Unit)) (x0 : List (ImplValue)) (x1 : List (ImplValue)) : Option (Bool × Unit) :=
 br ((((List.length x0) : Nat) : Int) != (((List.length x1) : Nat) : Int)) (
  some (false, ())) (
  E0 (x0, x1, (((List.length x0) : Nat) : Int), (0 : Int), ()))

def impl_valsSame.L0 (N : Nat) : Nat → (List (ImplValue)) × (List (ImplValue)) × Int × Int × Unit → Option (Bool × Unit)
  | 0, _ => none
  | n + 1, x => impl_valsSame.B0 N (impl_valsSame.L0 N n) x

def impl_valsSame (N : Nat) (x0 : List (ImplValue)) (x1 : List (ImplValue)) : Option (Bool × Unit) := impl_valsSame.B N (impl_valsSame.L0 N N) x0 x1

def impl_storeSame.B0 (N : Nat) (G0 : (List (ImplCell)) × (List (ImplCell)) × Int × Int × Unit → Option (Bool × Unit)) : (List (ImplCell)) × (List (ImplCell)) × Int × Int × Unit → Option (Bool × Unit) :=
fun (x2, x3, x4, x5, ()) =>
 br (decide (x5 < x4)) (
  gd (decide ((0 : Int) ≤ x5)) (
  gd (decide (x5 < (((List.length x2) : Nat) : Int))) (
  gd (decide ((0 : Int) ≤ x5)) (
  gd (decide (x5 < (((List.length x3) : Nat) : Int))) (
  bnd (impl_placeCmp N (ImplCell.place (get x2 x5)) (ImplCell.place (get x3 x5))) fun r7 =>
  br ((r7).1 != (0 : Int)) (
   some (false, ())) (
   gd (decide ((0 : Int) ≤ x5)) (
  gd (decide (x5 < (((List.length x2) : Nat) : Int))) (
  gd (decide ((0 : Int) ≤ x5)) (
  gd (decide (x5 < (((List.length x3) : Nat) : Int))) (
  bnd (impl_valsSame N (ImplCell.states (get x2 x5)) (ImplCell.states (get x3 x5))) fun r8 =>
  br (!(r8).1) (
   some (false, ())) (
   G0 (x2, x3, x4, (IntKind.i64.wrap (x5 + (1 : Int))), ())))))))))))) (
  some (true, ()))

def impl_storeSame.B (N : Nat) (E0 : (List (ImplCell)) × (List (ImplCell)) × Int × Int × Unit → Option (Bool × Unit)) (x0 : List (ImplCell)) (x1 : List (ImplCell)) : Option (Bool × Unit) :=
 br ((((List.length x0) : Nat) : Int) != (((List.length x1) : Nat) : Int)) (
  some (false, ())) (
  E0 (x0, x1, (((List.length x0) : Nat) : Int), (0 : Int), ()))

def impl_storeSame.L0 (N : Nat) : Nat → (List (ImplCell)) × (List (ImplCell)) × Int × Int × Unit → Option (Bool × Unit)
  | 0, _ => none
  | n + 1, x => impl_storeSame.B0 N (impl_storeSame.L0 N n) x

def impl_storeSame (N : Nat) (x0 : List (ImplCell)) (x1 : List (ImplCell)) : Option (Bool × Unit) := impl_storeSame.B N (impl_storeSame.L0 N N) x0 x1

def impl_HistDo.B (N : Nat) (x0 : ImplHist) (x1 : List (ImplUpdate)) : Option (ImplHist × Unit) :=
 bnd (impl_HistOk N x0) fun r2 =>
 br (!(r2).1) (
  some ((ImplHist.mk ([] : List (ImplCell)) ([] : List (List (ImplCell))) ([] : List (List (ImplCell)))), ())) (
  br (decide ((((List.length x1) : Nat) : Int) > (40 : Int))) (
  some ((ImplHist.mk ([] : List (ImplCell)) ([] : List (List (ImplCell))) ([] : List (List (ImplCell)))), ())) (
  bnd (impl_updatesOk N x1) fun r3 =>
 br (!(r3).1) (
  some ((ImplHist.mk ([] : List (ImplCell)) ([] : List (List (ImplCell))) ([] : List (List (ImplCell)))), ())) (
  bnd (impl_histCopy N x0) fun r4 =>
 bnd (impl_storeRun N (ImplHist.now x0) x1) fun r5 =>
 bnd (impl_storeSame N (r5).1 (ImplHist.now (r4).1)) fun r6 =>
 br (r6).1 (
  some ((r4).1, ())) (
  gd (decide (((List.length (ImplHist.back (r4).1)) + (List.length ([(ImplHist.now (r4).1)] : List (List (ImplCell))))) < 68719476736)) (
 br (decide ((((List.length ((ImplHist.back (r4).1) ++ ([(ImplHist.now (r4).1)] : List (List (ImplCell))))) : Nat) : Int) > (6 : Int))) (
  gd (decide ((1 : Int) ≤ (((List.length ((ImplHist.back (r4).1) ++ ([(ImplHist.now (r4).1)] : List (List (ImplCell))))) : Nat) : Int))) (
  gd (decide ((((List.length ((ImplHist.back (r4).1) ++ ([(ImplHist.now (r4).1)] : List (List (ImplCell))))) : Nat) : Int) ≤ (((List.length ((ImplHist.back (r4).1) ++ ([(ImplHist.now (r4).1)] : List (List (ImplCell))))) : Nat) : Int))) (
  bnd (impl_storesCopy N (sub ((ImplHist.back (r4).1) ++ ([(ImplHist.now (r4).1)] : List (List (ImplCell)))) (1 : Int) (((List.length ((ImplHist.back (r4).1) ++ ([(ImplHist.now (r4).1)] : List (List (ImplCell))))) : Nat) : Int))) fun r7 =>
  some ((ImplHist.mk (r5).1 (r7).1 ([] : List (List (ImplCell)))), ())))) (
  some ((ImplHist.mk (r5).1 ((ImplHist.back (r4).1) ++ ([(ImplHist.now (r4).1)] : List (List (ImplCell)))) ([] : List (List (ImplCell)))), ())))))))

def impl_HistDo (N : Nat) (x0 : ImplHist) (x1 : List (ImplUpdate)) : Option (ImplHist × Unit) := impl_HistDo.B N x0 x1

def spec_SameStores.B0 (N : Nat) (G0 : (List (List (ImplCell))) × (List (List (ImplCell))) × Int × Unit → Option (Bool × Unit)) : (List (List (ImplCell))) × (List (List (ImplCell))) × Int × Unit → Option (Bool × Unit) :=
fun (x2, x3, x4, ()) =>
 br (decide (x4 < (((List.length x2) : Nat) : Int))) (
  gd (decide ((0 : Int) ≤ x4)) (
  gd (decide (x4 < (((List.length x2) : Nat) : Int))) (
  gd (decide ((0 : Int) ≤ x4)) (
  gd (decide (x4 < (((List.length x3) : Nat) : Int))) (
  bnd (spec_sameStore N (get x2 x4) (get x3 x4)) fun r6 =>
  br (!(r6).1) (
   some (false, ())) (
   G0 (x2, x3, (IntKind.i64.wrap (x4 + (1 : Int))), ()))))))) (
  some (true, ()))

def spec_SameStores.B (N : Nat) (E0 : (List (List (ImplCell))) × (List (List (ImplCell))) × Int × Unit → Option (Bool × Unit)) (x0 : List (List (ImplCell))) (x1 : List (List (ImplCell))) : Option (Bool × Unit) :=
 br ((((List.length x0) : Nat) : Int) != (((List.length x1) : Nat) : Int)) (
  some (false, ())) (
  E0 (x0, x1, (0 : Int), ()))

def spec_SameStores.L0 (N : Nat) : Nat → (List (List (ImplCell))) × (List (List (ImplCell))) × Int × Unit → Option (Bool × Unit)
  | 0, _ => none
  | n + 1, x => spec_SameStores.B0 N (spec_SameStores.L0 N n) x

def spec_SameStores (N : Nat) (x0 : List (List (ImplCell))) (x1 : List (List (ImplCell))) : Option (Bool × Unit) := spec_SameStores.B N (spec_SameStores.L0 N N) x0 x1

def spec_SameHist.B (N : Nat) (x0 : ImplHist) (x1 : ImplHist) : Option (Bool × Unit) :=
 bnd (spec_sameStore N (ImplHist.now x0) (ImplHist.now x1)) fun r2 =>
 br (r2).1 (
  bnd (spec_SameStores N (ImplHist.back x0) (ImplHist.back x1)) fun r3 =>
  br (r3).1 (
   bnd (spec_SameStores N (ImplHist.ahead x0) (ImplHist.ahead x1)) fun r4 =>
   some ((r4).1, ())) (
   some (false, ()))) (
  some (false, ()))

def spec_SameHist (N : Nat) (x0 : ImplHist) (x1 : ImplHist) : Option (Bool × Unit) := spec_SameHist.B N x0 x1

def spec_DrawHistDo.J11 (N : Nat) (G0 : ImplHist × SpecSource × ImplHist × Int × Unit → Option (ImplHist × (List (ImplUpdate)) × Unit)) : ImplHist × SpecSource × ImplHist × Int × Unit → Option (ImplHist × (List (ImplUpdate)) × Unit) :=
fun (x19, x20, x21, x22, ()) =>
 bnd (spec_source_pick N x20 (5 : Int)) fun r23 =>
 br (((r23).2).1 == (0 : Int)) (
  br (decide ((((List.length (ImplHist.ahead x21)) : Nat) : Int) > (0 : Int))) (
   bnd (spec_HistRedo N x21) fun r24 =>
   G0 (x19, (r23).1, (r24).1, (IntKind.i64.wrap (x22 - (1 : Int))), ())) (
   G0 (x19, (r23).1, x21, (IntKind.i64.wrap (x22 - (1 : Int))), ()))) (
  G0 (x19, (r23).1, x21, (IntKind.i64.wrap (x22 - (1 : Int))), ()))

def spec_DrawHistDo.J9 (N : Nat) (G0 : ImplHist × SpecSource × ImplHist × Int × Unit → Option (ImplHist × (List (ImplUpdate)) × Unit)) : ImplHist × SpecSource × ImplHist × Int × Unit → Option (ImplHist × (List (ImplUpdate)) × Unit) :=
fun (x13, x14, x15, x16, ()) =>
 bnd (spec_source_pick N x14 (3 : Int)) fun r17 =>
 br (((r17).2).1 == (0 : Int)) (
  br (decide ((((List.length (ImplHist.back x15)) : Nat) : Int) > (0 : Int))) (
   bnd (spec_HistUndo N x15) fun r18 =>
   spec_DrawHistDo.J11 N G0 (x13, (r17).1, (r18).1, x16, ())) (
   spec_DrawHistDo.J11 N G0 (x13, (r17).1, x15, x16, ()))) (
  spec_DrawHistDo.J11 N G0 (x13, (r17).1, x15, x16, ()))

def spec_DrawHistDo.J15 (N : Nat) : ImplHist × SpecSource × ImplHist × Unit → Option (ImplHist × (List (ImplUpdate)) × Unit) :=
fun (x26, x27, x28, ()) =>
 bnd (spec_source_updates N x27 (ImplHist.now x28)) fun r29 =>
 some (x28, ((r29).2).1, ())

def spec_DrawHistDo.B0 (N : Nat) (G0 : ImplHist × SpecSource × ImplHist × Int × Unit → Option (ImplHist × (List (ImplUpdate)) × Unit)) : ImplHist × SpecSource × ImplHist × Int × Unit → Option (ImplHist × (List (ImplUpdate)) × Unit) :=
fun (x4, x5, x6, x7, ()) =>
 br (decide (x7 > (0 : Int))) (
  bnd (spec_source_updates N x5 (ImplHist.now x6)) fun r9 =>
  bnd (spec_validHist N x6) fun r10 =>
  br (r10).1 (
   bnd (spec_validUpdates N ((r9).2).1) fun r11 =>
   br (r11).1 (
    bnd (spec_HistDo N x6 ((r9).2).1) fun r12 =>
    spec_DrawHistDo.J9 N G0 (x4, (r9).1, (r12).1, x7, ())) (
    spec_DrawHistDo.J9 N G0 (x4, (r9).1, x6, x7, ()))) (
   spec_DrawHistDo.J9 N G0 (x4, (r9).1, x6, x7, ()))) (
  bnd (spec_source_rarely N x5) fun r25 =>
 br ((r25).2).1 (
  gd (decide (((List.length (ImplHist.back x6)) + (List.length ([(ImplHist.now x6), (ImplHist.now x6), (ImplHist.now x6), (ImplHist.now x6), (ImplHist.now x6), (ImplHist.now x6), (ImplHist.now x6)] : List (List (ImplCell))))) < 68719476736)) (
  spec_DrawHistDo.J15 N (x4, (r25).1, (ImplHist.mk (ImplHist.now x6) ((ImplHist.back x6) ++ ([(ImplHist.now x6), (ImplHist.now x6), (ImplHist.now x6), (ImplHist.now x6), (ImplHist.now x6), (ImplHist.now x6), (ImplHist.now x6)] : List (List (ImplCell)))) (ImplHist.ahead x6)), ()))) (
  spec_DrawHistDo.J15 N (x4, (r25).1, x6, ())))

def spec_DrawHistDo.B (N : Nat) (E0 : ImplHist × SpecSource × ImplHist × Int × Unit → Option (ImplHist × (List (ImplUpdate)) × Unit)) (x0 : List (Int)) : Option (ImplHist × (List (ImplUpdate)) × Unit) :=
 bnd (spec_newSource N x0) fun r1 =>
 bnd (spec_source_cells N (r1).1) fun r2 =>
 bnd (spec_source_pick N (r2).1 (9 : Int)) fun r3 =>
 E0 ((ImplHist.mk ([] : List (ImplCell)) ([] : List (List (ImplCell))) ([] : List (List (ImplCell)))), (r3).1, (ImplHist.mk ((r2).2).1 ([] : List (List (ImplCell))) ([] : List (List (ImplCell)))), ((r3).2).1, ())

def spec_DrawHistDo.L0 (N : Nat) : Nat → ImplHist × SpecSource × ImplHist × Int × Unit → Option (ImplHist × (List (ImplUpdate)) × Unit)
  | 0, _ => none
  | n + 1, x => spec_DrawHistDo.B0 N (spec_DrawHistDo.L0 N n) x

def spec_DrawHistDo (N : Nat) (x0 : List (Int)) : Option (ImplHist × (List (ImplUpdate)) × Unit) := spec_DrawHistDo.B N (spec_DrawHistDo.L0 N N) x0

def impl_histStep.B (N : Nat) (x0 : List (ImplCell)) (x1 : List (List (ImplCell))) (x2 : List (List (ImplCell))) : Option ((List (ImplCell)) × (List (List (ImplCell))) × (List (List (ImplCell))) × Unit) :=
 gd (decide ((0 : Int) ≤ (IntKind.i64.wrap ((((List.length x1) : Nat) : Int) - (1 : Int))))) (
 gd (decide ((IntKind.i64.wrap ((((List.length x1) : Nat) : Int) - (1 : Int))) < (((List.length x1) : Nat) : Int))) (
 gd (decide ((0 : Int) ≤ (IntKind.i64.wrap ((((List.length x1) : Nat) : Int) - (1 : Int))))) (
 gd (decide ((IntKind.i64.wrap ((((List.length x1) : Nat) : Int) - (1 : Int))) ≤ (IntKind.i64.wrap ((((List.length x1) : Nat) : Int) - (1 : Int))))) (
 gd (decide ((IntKind.i64.wrap ((((List.length x1) : Nat) : Int) - (1 : Int))) ≤ (((List.length x1) : Nat) : Int))) (
 gd (decide (((List.length x2) + (List.length ([x0] : List (List (ImplCell))))) < 68719476736)) (
 some ((get x1 (IntKind.i64.wrap ((((List.length x1) : Nat) : Int) - (1 : Int)))), (sub x1 (0 : Int) (IntKind.i64.wrap ((((List.length x1) : Nat) : Int) - (1 : Int)))), (x2 ++ ([x0] : List (List (ImplCell)))), ())))))))

def impl_histStep (N : Nat) (x0 : List (ImplCell)) (x1 : List (List (ImplCell))) (x2 : List (List (ImplCell))) : Option ((List (ImplCell)) × (List (List (ImplCell))) × (List (List (ImplCell))) × Unit) := impl_histStep.B N x0 x1 x2

def impl_HistUndo.B (N : Nat) (x0 : ImplHist) : Option (ImplHist × Bool × Unit) :=
 bnd (impl_HistOk N x0) fun r1 =>
 br (!(r1).1) (
  some ((ImplHist.mk ([] : List (ImplCell)) ([] : List (List (ImplCell))) ([] : List (List (ImplCell)))), false, ())) (
  br ((((List.length (ImplHist.back x0)) : Nat) : Int) == (0 : Int)) (
  some ((ImplHist.mk ([] : List (ImplCell)) ([] : List (List (ImplCell))) ([] : List (List (ImplCell)))), false, ())) (
  bnd (impl_histCopy N x0) fun r2 =>
 bnd (impl_histStep N (ImplHist.now (r2).1) (ImplHist.back (r2).1) (ImplHist.ahead (r2).1)) fun r3 =>
 some ((ImplHist.mk (r3).1 ((r3).2).1 (((r3).2).2).1), true, ())))

def impl_HistUndo (N : Nat) (x0 : ImplHist) : Option (ImplHist × Bool × Unit) := impl_HistUndo.B N x0

def laws_FnHistDo.B (N : Nat) (x0 : List (Int)) : Option (Bool × Unit) :=
 br (decide ((((List.length x0) : Nat) : Int) > (1048576 : Int))) (
  some (true, ())) (
  bnd (spec_DrawHistDo N x0) fun r1 =>
 bnd (impl_HistDo N (r1).1 ((r1).2).1) fun r2 =>
 bnd (spec_HistDo N (r1).1 ((r1).2).1) fun r3 =>
 bnd (spec_SameHist N (r2).1 (r3).1) fun r4 =>
 br (!(r4).1) (
  some ((r4).1, ())) (
  bnd (impl_HistOk N (r1).1) fun r5 =>
 br (!(r5).1) (
  some ((r4).1, ())) (
  bnd (impl_LineOk N (ImplLine.mk ([] : List (ImplCell)) ((r1).2).1)) fun r6 =>
 br (!(r6).1) (
  some ((r4).1, ())) (
  bnd (spec_SameStore N (ImplHist.now (r2).1) (ImplHist.now (r1).1)) fun r7 =>
 br (r7).1 (
  some ((r4).1, ())) (
  bnd (impl_HistUndo N (r2).1) fun r8 =>
 bnd (impl_HistOk N (r2).1) fun r9 =>
 br (r9).1 (
  br ((r8).2).1 (
   bnd (spec_SameStore N (ImplHist.now (r8).1) (ImplHist.now (r1).1)) fun r10 =>
   br (r10).1 (
    some (((((List.length (ImplHist.ahead (r2).1)) : Nat) : Int) == (0 : Int)), ())) (
    some (false, ()))) (
   some (false, ()))) (
  some (false, ())))))))

def laws_FnHistDo (N : Nat) (x0 : List (Int)) : Option (Bool × Unit) := laws_FnHistDo.B N x0

end
end Go.Ev
