/- The functions that the law reaches, written as plain functions; nothing is claimed here. -/
import Derived.Test.YtedoninjdbaeoaaDoorEvF1
set_option linter.all false
set_option linter.unusedVariables false
set_option linter.unusedSimpArgs false
/- F -/
set_option maxRecDepth 10000
namespace Go.Ev
noncomputable section
def spec_indexOf.B (N : Nat) (E0 : (List (Int)) × Int × Int × Unit → Option (Int × Unit)) (x0 : List (Int)) (x1 : Int) : Option (Int × Unit) :=
 E0 (x0, x1, (0 : Int), ())

def spec_indexOf.L0 (N : Nat) : Nat → (List (Int)) × Int × Int × Unit → Option (Int × Unit)
  | 0, _ => none
  | n + 1, x => spec_indexOf.B0 N (spec_indexOf.L0 N n) x

def spec_indexOf (N : Nat) (x0 : List (Int)) (x1 : Int) : Option (Int × Unit) := spec_indexOf.B N (spec_indexOf.L0 N N) x0 x1

def spec_wayAfter.B0 (N : Nat) (G0 : (List (Int)) × ImplTree × ImplTree × (List (Int)) × Int × Unit → Option ((List (Int)) × Bool × Unit)) : (List (Int)) × ImplTree × ImplTree × (List (Int)) × Int × Unit → Option ((List (Int)) × Bool × Unit) :=
fun (x3, x4, x5, x6, x7, ()) =>
 br (decide (x7 < (((List.length x3) : Nat) : Int))) (
  bnd (spec_partners N (ImplTree.kids x4) (ImplTree.kids x5)) fun r9 =>
  gd (decide ((0 : Int) ≤ x7)) (
  gd (decide (x7 < (((List.length x3) : Nat) : Int))) (
  bnd (spec_indexOf N (r9).1 (get x3 x7)) fun r10 =>
  br (decide ((r10).1 < (0 : Int))) (
   some (([] : List (Int)), false, ())) (
   gd (decide (((List.length x6) + (List.length ([(r10).1] : List (Int)))) < 68719476736)) (
  gd (decide ((0 : Int) ≤ x7)) (
  gd (decide (x7 < (((List.length x3) : Nat) : Int))) (
  gd (decide ((0 : Int) ≤ (get x3 x7))) (
  gd (decide ((get x3 x7) < (((List.length (ImplTree.kids x4)) : Nat) : Int))) (
  gd (decide ((0 : Int) ≤ (r10).1)) (
  gd (decide ((r10).1 < (((List.length (ImplTree.kids x5)) : Nat) : Int))) (
  G0 (x3, (ImplTree.mk (ImplTree.tag (get (ImplTree.kids x4) (get x3 x7))) (ImplTree.key (get (ImplTree.kids x4) (get x3 x7))) (ImplTree.text (get (ImplTree.kids x4) (get x3 x7))) (ImplTree.props (get (ImplTree.kids x4) (get x3 x7))) (ImplTree.kids (get (ImplTree.kids x4) (get x3 x7)))), (ImplTree.mk (ImplTree.tag (get (ImplTree.kids x5) (r10).1)) (ImplTree.key (get (ImplTree.kids x5) (r10).1)) (ImplTree.text (get (ImplTree.kids x5) (r10).1)) (ImplTree.props (get (ImplTree.kids x5) (r10).1)) (ImplTree.kids (get (ImplTree.kids x5) (r10).1))), (x6 ++ ([(r10).1] : List (Int))), (IntKind.i64.wrap (x7 + (1 : Int))), ())))))))))))) (
  some (x6, true, ()))

def spec_wayAfter.B (N : Nat) (E0 : (List (Int)) × ImplTree × ImplTree × (List (Int)) × Int × Unit → Option ((List (Int)) × Bool × Unit)) (x0 : ImplTree) (x1 : ImplTree) (x2 : List (Int)) : Option ((List (Int)) × Bool × Unit) :=
 br ((ImplTree.tag x0) != (ImplTree.tag x1)) (
  some (([] : List (Int)), false, ())) (
  br ((ImplTree.key x0) != (ImplTree.key x1)) (
  some (([] : List (Int)), false, ())) (
  E0 (x2, (ImplTree.mk (ImplTree.tag x0) (ImplTree.key x0) (ImplTree.text x0) (ImplTree.props x0) (ImplTree.kids x0)), (ImplTree.mk (ImplTree.tag x1) (ImplTree.key x1) (ImplTree.text x1) (ImplTree.props x1) (ImplTree.kids x1)), ([] : List (Int)), (0 : Int), ())))

def spec_wayAfter.L0 (N : Nat) : Nat → (List (Int)) × ImplTree × ImplTree × (List (Int)) × Int × Unit → Option ((List (Int)) × Bool × Unit)
  | 0, _ => none
  | n + 1, x => spec_wayAfter.B0 N (spec_wayAfter.L0 N n) x

def spec_wayAfter (N : Nat) (x0 : ImplTree) (x1 : ImplTree) (x2 : List (Int)) : Option ((List (Int)) × Bool × Unit) := spec_wayAfter.B N (spec_wayAfter.L0 N N) x0 x1 x2

def spec_WayAfter.B (N : Nat) (x0 : ImplTree) (x1 : ImplTree) (x2 : List (Int)) : Option ((List (Int)) × Bool × Unit) :=
 bnd (spec_validTree N (ImplTree.mk (ImplTree.tag x0) (ImplTree.key x0) (ImplTree.text x0) (ImplTree.props x0) (ImplTree.kids x0))) fun r3 =>
 br (!(r3).1) (
  some (([] : List (Int)), false, ())) (
  bnd (spec_validTree N (ImplTree.mk (ImplTree.tag x1) (ImplTree.key x1) (ImplTree.text x1) (ImplTree.props x1) (ImplTree.kids x1))) fun r4 =>
 br (!(r4).1) (
  some (([] : List (Int)), false, ())) (
  bnd (spec_partAt N (ImplTree.mk (ImplTree.tag x0) (ImplTree.key x0) (ImplTree.text x0) (ImplTree.props x0) (ImplTree.kids x0)) x2) fun r5 =>
 br (!((r5).2).1) (
  some (([] : List (Int)), false, ())) (
  bnd (spec_wayAfter N (ImplTree.mk (ImplTree.tag x0) (ImplTree.key x0) (ImplTree.text x0) (ImplTree.props x0) (ImplTree.kids x0)) (ImplTree.mk (ImplTree.tag x1) (ImplTree.key x1) (ImplTree.text x1) (ImplTree.props x1) (ImplTree.kids x1)) x2) fun r6 =>
 some ((r6).1, ((r6).2).1, ()))))

def spec_WayAfter (N : Nat) (x0 : ImplTree) (x1 : ImplTree) (x2 : List (Int)) : Option ((List (Int)) × Bool × Unit) := spec_WayAfter.B N x0 x1 x2

def impl_partners.J14 (N : Nat) (G0 : ImplTree × (List (Int)) × (List (Bool)) × (List (ImplTree)) × Int × Int × Unit → Option ((List (Int)) × Unit)) : ImplTree × (List (Int)) × (List (Bool)) × Int × (List (ImplTree)) × Int × Int × Unit → Option ((List (Int)) × Unit) :=
fun (x21, x22, x23, x24, x25, x26, x27, ()) =>
 gd (decide (((List.length x22) + (List.length ([x24] : List (Int)))) < 68719476736)) (
 G0 ((ImplTree.mk (ImplTree.tag x21) (ImplTree.key x21) (ImplTree.text x21) (ImplTree.props x21) (ImplTree.kids x21)), (x22 ++ ([x24] : List (Int))), x23, x25, x26, (IntKind.i64.wrap (x27 + (1 : Int))), ()))

def impl_partners.B2 (N : Nat) (G0 : ImplTree × (List (Int)) × (List (Bool)) × (List (ImplTree)) × Int × Int × Unit → Option ((List (Int)) × Unit)) (G2 : ImplTree × (List (Int)) × (List (Bool)) × ImplTree × Int × (List (ImplTree)) × Int × Int × (List (ImplTree)) × Int × Int × Unit → Option ((List (Int)) × Unit)) : ImplTree × (List (Int)) × (List (Bool)) × ImplTree × Int × (List (ImplTree)) × Int × Int × (List (ImplTree)) × Int × Int × Unit → Option ((List (Int)) × Unit) :=
fun (x9, x10, x11, x12, x13, x14, x15, x16, x17, x18, x19, ()) =>
 br (decide (x19 < x18)) (
  gd (decide ((0 : Int) ≤ x19)) (
  gd (decide (x19 < (((List.length x17) : Nat) : Int))) (
  gd (decide ((0 : Int) ≤ x19)) (
  gd (decide (x19 < (((List.length x11) : Nat) : Int))) (
  br (!(get x11 x19)) (
   br ((ImplTree.tag (get x17 x19)) == (ImplTree.tag x12)) (
    br ((ImplTree.key (get x17 x19)) == (ImplTree.key x12)) (
     gd (decide ((0 : Int) ≤ x19)) (
     gd (decide (x19 < (((List.length x11) : Nat) : Int))) (
     impl_partners.J14 N G0 ((ImplTree.mk (ImplTree.tag x9) (ImplTree.key x9) (ImplTree.text x9) (ImplTree.props x9) (ImplTree.kids x9)), x10, (List.set x11 (Int.toNat x19) true), x19, x14, x15, x16, ())))) (
     G2 ((ImplTree.mk (ImplTree.tag x9) (ImplTree.key x9) (ImplTree.text x9) (ImplTree.props x9) (ImplTree.kids x9)), x10, x11, (ImplTree.mk (ImplTree.tag x12) (ImplTree.key x12) (ImplTree.text x12) (ImplTree.props x12) (ImplTree.kids x12)), x13, x14, x15, x16, x17, x18, (IntKind.i64.wrap (x19 + (1 : Int))), ()))) (
    G2 ((ImplTree.mk (ImplTree.tag x9) (ImplTree.key x9) (ImplTree.text x9) (ImplTree.props x9) (ImplTree.kids x9)), x10, x11, (ImplTree.mk (ImplTree.tag x12) (ImplTree.key x12) (ImplTree.text x12) (ImplTree.props x12) (ImplTree.kids x12)), x13, x14, x15, x16, x17, x18, (IntKind.i64.wrap (x19 + (1 : Int))), ()))) (
   G2 ((ImplTree.mk (ImplTree.tag x9) (ImplTree.key x9) (ImplTree.text x9) (ImplTree.props x9) (ImplTree.kids x9)), x10, x11, (ImplTree.mk (ImplTree.tag x12) (ImplTree.key x12) (ImplTree.text x12) (ImplTree.props x12) (ImplTree.kids x12)), x13, x14, x15, x16, x17, x18, (IntKind.i64.wrap (x19 + (1 : Int))), ()))))))) (
  impl_partners.J14 N G0 ((ImplTree.mk (ImplTree.tag x9) (ImplTree.key x9) (ImplTree.text x9) (ImplTree.props x9) (ImplTree.kids x9)), x10, x11, x13, x14, x15, x16, ()))

def impl_partners.B0 (N : Nat) (E2 : ImplTree × (List (Int)) × (List (Bool)) × ImplTree × Int × (List (ImplTree)) × Int × Int × (List (ImplTree)) × Int × Int × Unit → Option ((List (Int)) × Unit)) : ImplTree × (List (Int)) × (List (Bool)) × (List (ImplTree)) × Int × Int × Unit → Option ((List (Int)) × Unit) :=
fun (x2, x3, x4, x5, x6, x7, ()) =>
 br (decide (x7 < x6)) (
  gd (decide ((0 : Int) ≤ x7)) (
  gd (decide (x7 < (((List.length x5) : Nat) : Int))) (
  E2 ((ImplTree.mk (ImplTree.tag x2) (ImplTree.key x2) (ImplTree.text x2) (ImplTree.props x2) (ImplTree.kids x2)), x3, x4, (ImplTree.mk (ImplTree.tag (get x5 x7)) (ImplTree.key (get x5 x7)) (ImplTree.text (get x5 x7)) (ImplTree.props (get x5 x7)) (ImplTree.kids (get x5 x7))), (-(1 : Int)), x5, x6, x7, (ImplTree.kids x2), (((List.length (ImplTree.kids x2)) : Nat) : Int), (0 : Int), ())))) (
  some (x3, ()))

def impl_partners.B (N : Nat) (E0 : ImplTree × (List (Int)) × (List (Bool)) × (List (ImplTree)) × Int × Int × Unit → Option ((List (Int)) × Unit)) (x0 : ImplTree) (x1 : ImplTree) : Option ((List (Int)) × Unit) :=
 gd (decide ((((List.length (ImplTree.kids x0)) : Nat) : Int) = (((List.length (ImplTree.kids x0)) : Nat) : Int))) (
 gd (decide ((0 : Int) ≤ (((List.length (ImplTree.kids x0)) : Nat) : Int))) (
 gd (decide ((((List.length (ImplTree.kids x0)) : Nat) : Int) < ((68719476736 : Nat) : Int))) (
 E0 ((ImplTree.mk (ImplTree.tag x0) (ImplTree.key x0) (ImplTree.text x0) (ImplTree.props x0) (ImplTree.kids x0)), ([] : List (Int)), (List.replicate (Int.toNat (((List.length (ImplTree.kids x0)) : Nat) : Int)) false), (ImplTree.kids x1), (((List.length (ImplTree.kids x1)) : Nat) : Int), (0 : Int), ()))))

def impl_partners.L2 (N : Nat) (G0 : ImplTree × (List (Int)) × (List (Bool)) × (List (ImplTree)) × Int × Int × Unit → Option ((List (Int)) × Unit)) : Nat → ImplTree × (List (Int)) × (List (Bool)) × ImplTree × Int × (List (ImplTree)) × Int × Int × (List (ImplTree)) × Int × Int × Unit → Option ((List (Int)) × Unit)
  | 0, _ => none
  | n + 1, x => impl_partners.B2 N G0 (impl_partners.L2 N G0 n) x

def impl_partners.L0 (N : Nat) : Nat → ImplTree × (List (Int)) × (List (Bool)) × (List (ImplTree)) × Int × Int × Unit → Option ((List (Int)) × Unit)
  | 0, _ => none
  | n + 1, x => impl_partners.B0 N (impl_partners.L2 N (impl_partners.L0 N n) N) x

def impl_partners (N : Nat) (x0 : ImplTree) (x1 : ImplTree) : Option ((List (Int)) × Unit) := impl_partners.B N (impl_partners.L0 N N) x0 x1

def impl_wayAfter.B0 (N : Nat) (G0 : ImplTree × ImplTree × (List (Int)) × (List (Int)) × Int × Int × Unit → Option ((List (Int)) × Bool × Unit)) : ImplTree × ImplTree × (List (Int)) × (List (Int)) × Int × Int × Unit → Option ((List (Int)) × Bool × Unit) :=
fun (x3, x4, x5, x6, x7, x8, ()) =>
 br (decide (x8 < x7)) (
  gd (decide ((0 : Int) ≤ x8)) (
  gd (decide (x8 < (((List.length x6) : Nat) : Int))) (
  bnd (impl_within N (get x6 x8) (0 : Int) (IntKind.i64.wrap ((((List.length (ImplTree.kids x3)) : Nat) : Int) - (1 : Int)))) fun r10 =>
  br (!(r10).1) (
   some (([] : List (Int)), false, ())) (
   bnd (impl_partners N (ImplTree.mk (ImplTree.tag x3) (ImplTree.key x3) (ImplTree.text x3) (ImplTree.props x3) (ImplTree.kids x3)) (ImplTree.mk (ImplTree.tag x4) (ImplTree.key x4) (ImplTree.text x4) (ImplTree.props x4) (ImplTree.kids x4))) fun r11 =>
  bnd (LibIndex N (r11).1 (get x6 x8)) fun r12 =>
  br (decide ((r12).1 < (0 : Int))) (
   some (([] : List (Int)), false, ())) (
   gd (decide (((List.length x5) + (List.length ([(r12).1] : List (Int)))) < 68719476736)) (
  gd (decide ((0 : Int) ≤ (get x6 x8))) (
  gd (decide ((get x6 x8) < (((List.length (ImplTree.kids x3)) : Nat) : Int))) (
  gd (decide ((0 : Int) ≤ (r12).1)) (
  gd (decide ((r12).1 < (((List.length (ImplTree.kids x4)) : Nat) : Int))) (
  G0 ((ImplTree.mk (ImplTree.tag (get (ImplTree.kids x3) (get x6 x8))) (ImplTree.key (get (ImplTree.kids x3) (get x6 x8))) (ImplTree.text (get (ImplTree.kids x3) (get x6 x8))) (ImplTree.props (get (ImplTree.kids x3) (get x6 x8))) (ImplTree.kids (get (ImplTree.kids x3) (get x6 x8)))), (ImplTree.mk (ImplTree.tag (get (ImplTree.kids x4) (r12).1)) (ImplTree.key (get (ImplTree.kids x4) (r12).1)) (ImplTree.text (get (ImplTree.kids x4) (r12).1)) (ImplTree.props (get (ImplTree.kids x4) (r12).1)) (ImplTree.kids (get (ImplTree.kids x4) (r12).1))), (x5 ++ ([(r12).1] : List (Int))), x6, x7, (IntKind.i64.wrap (x8 + (1 : Int))), ()))))))))))) (
  some (x5, true, ()))

def impl_wayAfter.B (N : Nat) (E0 : ImplTree × ImplTree × (List (Int)) × (List (Int)) × Int × Int × Unit → Option ((List (Int)) × Bool × Unit)) (x0 : ImplTree) (x1 : ImplTree) (x2 : List (Int)) : Option ((List (Int)) × Bool × Unit) :=
 br ((ImplTree.tag x0) != (ImplTree.tag x1)) (
  some (([] : List (Int)), false, ())) (
  br ((ImplTree.key x0) != (ImplTree.key x1)) (
  some (([] : List (Int)), false, ())) (
  E0 ((ImplTree.mk (ImplTree.tag x0) (ImplTree.key x0) (ImplTree.text x0) (ImplTree.props x0) (ImplTree.kids x0)), (ImplTree.mk (ImplTree.tag x1) (ImplTree.key x1) (ImplTree.text x1) (ImplTree.props x1) (ImplTree.kids x1)), ([] : List (Int)), x2, (((List.length x2) : Nat) : Int), (0 : Int), ())))

def impl_wayAfter.L0 (N : Nat) : Nat → ImplTree × ImplTree × (List (Int)) × (List (Int)) × Int × Int × Unit → Option ((List (Int)) × Bool × Unit)
  | 0, _ => none
  | n + 1, x => impl_wayAfter.B0 N (impl_wayAfter.L0 N n) x

def impl_wayAfter (N : Nat) (x0 : ImplTree) (x1 : ImplTree) (x2 : List (Int)) : Option ((List (Int)) × Bool × Unit) := impl_wayAfter.B N (impl_wayAfter.L0 N N) x0 x1 x2

def impl_WayAfter.B (N : Nat) (x0 : ImplTree) (x1 : ImplTree) (x2 : List (Int)) : Option ((List (Int)) × Bool × Unit) :=
 bnd (impl_TreeOk N (ImplTree.mk (ImplTree.tag x0) (ImplTree.key x0) (ImplTree.text x0) (ImplTree.props x0) (ImplTree.kids x0))) fun r3 =>
 br (!(r3).1) (
  some (([] : List (Int)), false, ())) (
  bnd (impl_TreeOk N (ImplTree.mk (ImplTree.tag x1) (ImplTree.key x1) (ImplTree.text x1) (ImplTree.props x1) (ImplTree.kids x1))) fun r4 =>
 br (!(r4).1) (
  some (([] : List (Int)), false, ())) (
  bnd (impl_wayAfter N (ImplTree.mk (ImplTree.tag x0) (ImplTree.key x0) (ImplTree.text x0) (ImplTree.props x0) (ImplTree.kids x0)) (ImplTree.mk (ImplTree.tag x1) (ImplTree.key x1) (ImplTree.text x1) (ImplTree.props x1) (ImplTree.kids x1)) x2) fun r5 =>
 some ((r5).1, ((r5).2).1, ())))

def impl_WayAfter (N : Nat) (x0 : ImplTree) (x1 : ImplTree) (x2 : List (Int)) : Option ((List (Int)) × Bool × Unit) := impl_WayAfter.B N x0 x1 x2

def laws_FnExactWayAfter.B (N : Nat) (x0 : LawsTree) (x1 : LawsTree) (x2 : List (Int)) : Option (Bool × Unit) :=
 br (decide ((((List.length x2) : Nat) : Int) > (1048576 : Int))) (
  some (true, ())) (
  bnd (laws_szTree N (LawsTree.mk (LawsTree.tag x0) (LawsTree.key x0) (LawsTree.text x0) (LawsTree.props x0) (LawsTree.kids x0)) (1048576 : Int)) fun r3 =>
 br (decide ((r3).1 < (0 : Int))) (
  some (true, ())) (
  bnd (laws_szTree N (LawsTree.mk (LawsTree.tag x1) (LawsTree.key x1) (LawsTree.text x1) (LawsTree.props x1) (LawsTree.kids x1)) (r3).1) fun r4 =>
 br (decide ((r4).1 < (0 : Int))) (
  some (true, ())) (
  bnd (laws_toTree N (LawsTree.mk (LawsTree.tag x0) (LawsTree.key x0) (LawsTree.text x0) (LawsTree.props x0) (LawsTree.kids x0))) fun r5 =>
 bnd (laws_toTree N (LawsTree.mk (LawsTree.tag x1) (LawsTree.key x1) (LawsTree.text x1) (LawsTree.props x1) (LawsTree.kids x1))) fun r6 =>
 bnd (laws_toIntS N x2) fun r7 =>
 bnd (spec_WayAfter N (ImplTree.mk (ImplTree.tag (r5).1) (ImplTree.key (r5).1) (ImplTree.text (r5).1) (ImplTree.props (r5).1) (ImplTree.kids (r5).1)) (ImplTree.mk (ImplTree.tag (r6).1) (ImplTree.key (r6).1) (ImplTree.text (r6).1) (ImplTree.props (r6).1) (ImplTree.kids (r6).1)) (r7).1) fun r8 =>
 bnd (laws_toTree N (LawsTree.mk (LawsTree.tag x0) (LawsTree.key x0) (LawsTree.text x0) (LawsTree.props x0) (LawsTree.kids x0))) fun r9 =>
 bnd (laws_toTree N (LawsTree.mk (LawsTree.tag x1) (LawsTree.key x1) (LawsTree.text x1) (LawsTree.props x1) (LawsTree.kids x1))) fun r10 =>
 bnd (laws_toIntS N x2) fun r11 =>
 bnd (impl_WayAfter N (ImplTree.mk (ImplTree.tag (r9).1) (ImplTree.key (r9).1) (ImplTree.text (r9).1) (ImplTree.props (r9).1) (ImplTree.kids (r9).1)) (ImplTree.mk (ImplTree.tag (r10).1) (ImplTree.key (r10).1) (ImplTree.text (r10).1) (ImplTree.props (r10).1) (ImplTree.kids (r10).1)) (r11).1) fun r12 =>
 bnd (laws_eqIntS N (r12).1 (r8).1) fun r13 =>
 br (!(r13).1) (
  some (false, ())) (
  br (!(((r12).2).1 == ((r8).2).1)) (
  some (false, ())) (
  bnd (laws_toTree N (LawsTree.mk (LawsTree.tag x0) (LawsTree.key x0) (LawsTree.text x0) (LawsTree.props x0) (LawsTree.kids x0))) fun r14 =>
 bnd (laws_eqTree N (ImplTree.mk (ImplTree.tag (r9).1) (ImplTree.key (r9).1) (ImplTree.text (r9).1) (ImplTree.props (r9).1) (ImplTree.kids (r9).1)) (ImplTree.mk (ImplTree.tag (r14).1) (ImplTree.key (r14).1) (ImplTree.text (r14).1) (ImplTree.props (r14).1) (ImplTree.kids (r14).1))) fun r15 =>
 br (!(r15).1) (
  some (false, ())) (
  bnd (laws_toTree N (LawsTree.mk (LawsTree.tag x1) (LawsTree.key x1) (LawsTree.text x1) (LawsTree.props x1) (LawsTree.kids x1))) fun r16 =>
 bnd (laws_eqTree N (ImplTree.mk (ImplTree.tag (r10).1) (ImplTree.key (r10).1) (ImplTree.text (r10).1) (ImplTree.props (r10).1) (ImplTree.kids (r10).1)) (ImplTree.mk (ImplTree.tag (r16).1) (ImplTree.key (r16).1) (ImplTree.text (r16).1) (ImplTree.props (r16).1) (ImplTree.kids (r16).1))) fun r17 =>
 br (!(r17).1) (
  some (false, ())) (
  bnd (laws_toIntS N x2) fun r18 =>
 bnd (laws_eqIntS N (r11).1 (r18).1) fun r19 =>
 br (!(r19).1) (
  some (false, ())) (
  bnd (laws_markTree N (ImplTree.mk (ImplTree.tag (r9).1) (ImplTree.key (r9).1) (ImplTree.text (r9).1) (ImplTree.props (r9).1) (ImplTree.kids (r9).1)) (1 : Int)) fun r20 =>
 bnd (laws_markTree N (ImplTree.mk (ImplTree.tag (r10).1) (ImplTree.key (r10).1) (ImplTree.text (r10).1) (ImplTree.props (r10).1) (ImplTree.kids (r10).1)) ((r20).2).1) fun r21 =>
 bnd (laws_markIntS N (r11).1 ((r21).2).1) fun r22 =>
 br (decide (((r22).2).1 < (0 : Int))) (
  some (false, ())) (
  bnd (laws_eqIntS N (r12).1 (r8).1) fun r23 =>
 br (!(r23).1) (
  some (false, ())) (
  br (!(((r12).2).1 == ((r8).2).1)) (
  some (false, ())) (
  bnd (laws_markIntS N (r12).1 (1 : Int)) fun r24 =>
 bnd (laws_heldIntS N (r24).1 (1 : Int)) fun r25 =>
 br (decide ((r25).1 < (0 : Int))) (
  some (false, ())) (
  br ((r25).1 != ((r24).2).1) (
  some (false, ())) (
  bnd (laws_toTree N (LawsTree.mk (LawsTree.tag x0) (LawsTree.key x0) (LawsTree.text x0) (LawsTree.props x0) (LawsTree.kids x0))) fun r26 =>
 bnd (laws_toTree N (LawsTree.mk (LawsTree.tag x1) (LawsTree.key x1) (LawsTree.text x1) (LawsTree.props x1) (LawsTree.kids x1))) fun r27 =>
 bnd (laws_toIntS N x2) fun r28 =>
 bnd (impl_WayAfter N (ImplTree.mk (ImplTree.tag (r26).1) (ImplTree.key (r26).1) (ImplTree.text (r26).1) (ImplTree.props (r26).1) (ImplTree.kids (r26).1)) (ImplTree.mk (ImplTree.tag (r27).1) (ImplTree.key (r27).1) (ImplTree.text (r27).1) (ImplTree.props (r27).1) (ImplTree.kids (r27).1)) (r28).1) fun r29 =>
 bnd (laws_eqIntS N (r29).1 (r8).1) fun r30 =>
 br (!(r30).1) (
  some (false, ())) (
  br (!(((r29).2).1 == ((r8).2).1)) (
  some (false, ())) (
  bnd (laws_heldIntS N (r24).1 (1 : Int)) fun r31 =>
 br (decide ((r31).1 < (0 : Int))) (
  some (false, ())) (
  br ((r31).1 != ((r24).2).1) (
  some (false, ())) (
  some (true, ()))))))))))))))))))

def laws_FnExactWayAfter (N : Nat) (x0 : LawsTree) (x1 : LawsTree) (x2 : List (Int)) : Option (Bool × Unit) := laws_FnExactWayAfter.B N x0 x1 x2

end
end Go.Ev
