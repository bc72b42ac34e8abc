/- The functions that the law reaches, written as plain functions; nothing is claimed here. -/
import Derived.Test.YtedoninjdbaeoaaDoorEvF1
set_option linter.all false
set_option linter.unusedVariables false
set_option linter.unusedSimpArgs false
/- F -/
set_option maxRecDepth 10000
namespace Go.Ev
noncomputable section
def impl_treeCopy.B (N : Nat) (R_impl_treesCopy : List (ImplTree) → Option ((List (ImplTree)) × Unit)) (R_impl_treeCopy : ImplTree → Option (ImplTree × Unit)) (x0 : ImplTree) : Option (ImplTree × Unit) :=
 gd (decide ((List.length (ImplTree.props x0)) < 68719476736)) (
 bnd (R_impl_treesCopy (ImplTree.kids x0)) fun r1 =>
 some ((ImplTree.mk (ImplTree.tag x0) (ImplTree.key x0) (ImplTree.text x0) (ImplTree.props x0) (r1).1), ()))

mutual
def impl_treesCopy.R (N : Nat) : Nat → List (ImplTree) → Option ((List (ImplTree)) × Unit)
  | 0, _ => none
  | d + 1, x0 => impl_treesCopy.B N (impl_treesCopy.R N d) (impl_treeCopy.R N d) (impl_treesCopy.L0 N (impl_treesCopy.R N d) (impl_treeCopy.R N d) N) x0

def impl_treeCopy.R (N : Nat) : Nat → ImplTree → Option (ImplTree × Unit)
  | 0, _ => none
  | d + 1, x0 => impl_treeCopy.B N (impl_treesCopy.R N d) (impl_treeCopy.R N d) x0

end

def impl_treesCopy (N : Nat) (x0 : List (ImplTree)) : Option ((List (ImplTree)) × Unit) := impl_treesCopy.R N N x0

def impl_treeCopy (N : Nat) (x0 : ImplTree) : Option (ImplTree × Unit) := impl_treeCopy.R N N x0

def impl_TreeAt.B0 (N : Nat) (G0 : ImplTree × ImplTree × (List (Int)) × Int × Int × Unit → Option (ImplTree × Bool × Unit)) : ImplTree × ImplTree × (List (Int)) × Int × Int × Unit → Option (ImplTree × Bool × Unit) :=
fun (x3, x4, x5, x6, x7, ()) =>
 br (decide (x7 < x6)) (
  gd (decide ((0 : Int) ≤ x7)) (
  gd (decide (x7 < (((List.length x5) : Nat) : Int))) (
  bnd (impl_within N (get x5 x7) (0 : Int) (IntKind.i64.wrap ((((List.length (ImplTree.kids x3)) : Nat) : Int) - (1 : Int)))) fun r9 =>
  br (!(r9).1) (
   some ((ImplTree.mk (0 : Int) (0 : Int) ([] : List (UInt8)) ([] : List (ImplProp)) ([] : List (ImplTree))), false, ())) (
   gd (decide ((0 : Int) ≤ (get x5 x7))) (
  gd (decide ((get x5 x7) < (((List.length (ImplTree.kids x3)) : Nat) : Int))) (
  G0 ((ImplTree.mk (ImplTree.tag (get (ImplTree.kids x3) (get x5 x7))) (ImplTree.key (get (ImplTree.kids x3) (get x5 x7))) (ImplTree.text (get (ImplTree.kids x3) (get x5 x7))) (ImplTree.props (get (ImplTree.kids x3) (get x5 x7))) (ImplTree.kids (get (ImplTree.kids x3) (get x5 x7)))), (ImplTree.mk (ImplTree.tag x4) (ImplTree.key x4) (ImplTree.text x4) (ImplTree.props x4) (ImplTree.kids x4)), x5, x6, (IntKind.i64.wrap (x7 + (1 : Int))), ()))))))) (
  bnd (impl_treeCopy N (ImplTree.mk (ImplTree.tag x3) (ImplTree.key x3) (ImplTree.text x3) (ImplTree.props x3) (ImplTree.kids x3))) fun r10 =>
 some ((ImplTree.mk (ImplTree.tag (r10).1) (ImplTree.key (r10).1) (ImplTree.text (r10).1) (ImplTree.props (r10).1) (ImplTree.kids (r10).1)), true, ()))

def impl_TreeAt.B (N : Nat) (E0 : ImplTree × ImplTree × (List (Int)) × Int × Int × Unit → Option (ImplTree × Bool × Unit)) (x0 : ImplTree) (x1 : List (Int)) : Option (ImplTree × Bool × Unit) :=
 bnd (impl_TreeOk N (ImplTree.mk (ImplTree.tag x0) (ImplTree.key x0) (ImplTree.text x0) (ImplTree.props x0) (ImplTree.kids x0))) fun r2 =>
 br (!(r2).1) (
  some ((ImplTree.mk (0 : Int) (0 : Int) ([] : List (UInt8)) ([] : List (ImplProp)) ([] : List (ImplTree))), false, ())) (
  E0 ((ImplTree.mk (ImplTree.tag x0) (ImplTree.key x0) (ImplTree.text x0) (ImplTree.props x0) (ImplTree.kids x0)), (ImplTree.mk (0 : Int) (0 : Int) ([] : List (UInt8)) ([] : List (ImplProp)) ([] : List (ImplTree))), x1, (((List.length x1) : Nat) : Int), (0 : Int), ()))

def impl_TreeAt.L0 (N : Nat) : Nat → ImplTree × ImplTree × (List (Int)) × Int × Int × Unit → Option (ImplTree × Bool × Unit)
  | 0, _ => none
  | n + 1, x => impl_TreeAt.B0 N (impl_TreeAt.L0 N n) x

def impl_TreeAt (N : Nat) (x0 : ImplTree) (x1 : List (Int)) : Option (ImplTree × Bool × Unit) := impl_TreeAt.B N (impl_TreeAt.L0 N N) x0 x1

def laws_heldPropS.B0 (N : Nat) (G0 : (List (ImplProp)) × Int × Int × Unit → Option (Int × Unit)) : (List (ImplProp)) × Int × Int × Unit → Option (Int × Unit) :=
fun (x2, x3, x4, ()) =>
 br (decide (x4 < (((List.length x2) : Nat) : Int))) (
  gd (decide ((0 : Int) ≤ x4)) (
  gd (decide (x4 < (((List.length x2) : Nat) : Int))) (
  br ((ImplProp.name (get x2 x4)) != x3) (
   some ((-(1 : Int)), ())) (
   gd (decide ((0 : Int) ≤ x4)) (
  gd (decide (x4 < (((List.length x2) : Nat) : Int))) (
  br ((ImplProp.val_Kind (get x2 x4)) != (IntKind.i64.wrap (x3 + (1 : Int)))) (
   some ((-(1 : Int)), ())) (
   gd (decide ((0 : Int) ≤ x4)) (
  gd (decide (x4 < (((List.length x2) : Nat) : Int))) (
  br ((ImplProp.val_Num (get x2 x4)) != (IntKind.i64.wrap ((IntKind.i64.wrap (x3 + (1 : Int))) + (1 : Int)))) (
   some ((-(1 : Int)), ())) (
   gd (decide ((0 : Int) ≤ x4)) (
  gd (decide (x4 < (((List.length x2) : Nat) : Int))) (
  bnd (laws_markText N (IntKind.i64.wrap ((IntKind.i64.wrap ((IntKind.i64.wrap (x3 + (1 : Int))) + (1 : Int))) + (1 : Int)))) fun r6 =>
  br (!((ImplProp.val_Text (get x2 x4)) == (r6).1)) (
   some ((-(1 : Int)), ())) (
   G0 (x2, (IntKind.i64.wrap ((IntKind.i64.wrap ((IntKind.i64.wrap ((IntKind.i64.wrap (x3 + (1 : Int))) + (1 : Int))) + (1 : Int))) + (1 : Int))), (IntKind.i64.wrap (x4 + (1 : Int))), ())))))))))))))) (
  some (x3, ()))

def laws_heldPropS.B (N : Nat) (E0 : (List (ImplProp)) × Int × Int × Unit → Option (Int × Unit)) (x0 : List (ImplProp)) (x1 : Int) : Option (Int × Unit) :=
 E0 (x0, x1, (0 : Int), ())

def laws_heldPropS.L0 (N : Nat) : Nat → (List (ImplProp)) × Int × Int × Unit → Option (Int × Unit)
  | 0, _ => none
  | n + 1, x => laws_heldPropS.B0 N (laws_heldPropS.L0 N n) x

def laws_heldPropS (N : Nat) (x0 : List (ImplProp)) (x1 : Int) : Option (Int × Unit) := laws_heldPropS.B N (laws_heldPropS.L0 N N) x0 x1

def laws_heldTreeS.B0 (N : Nat) (R_laws_heldTreeS : List (ImplTree) → Int → Option (Int × Unit)) (G0 : (List (ImplTree)) × Int × Int × Unit → Option (Int × Unit)) : (List (ImplTree)) × Int × Int × Unit → Option (Int × Unit) :=
fun (x2, x3, x4, ()) =>
 br (decide (x4 < (((List.length x2) : Nat) : Int))) (
  gd (decide ((0 : Int) ≤ x4)) (
  gd (decide (x4 < (((List.length x2) : Nat) : Int))) (
  br ((ImplTree.tag (get x2 x4)) != x3) (
   some ((-(1 : Int)), ())) (
   gd (decide ((0 : Int) ≤ x4)) (
  gd (decide (x4 < (((List.length x2) : Nat) : Int))) (
  br ((ImplTree.key (get x2 x4)) != (IntKind.i64.wrap (x3 + (1 : Int)))) (
   some ((-(1 : Int)), ())) (
   gd (decide ((0 : Int) ≤ x4)) (
  gd (decide (x4 < (((List.length x2) : Nat) : Int))) (
  bnd (laws_markText N (IntKind.i64.wrap ((IntKind.i64.wrap (x3 + (1 : Int))) + (1 : Int)))) fun r6 =>
  br (!((ImplTree.text (get x2 x4)) == (r6).1)) (
   some ((-(1 : Int)), ())) (
   gd (decide ((0 : Int) ≤ x4)) (
  gd (decide (x4 < (((List.length x2) : Nat) : Int))) (
  bnd (laws_heldPropS N (ImplTree.props (get x2 x4)) (IntKind.i64.wrap ((IntKind.i64.wrap ((IntKind.i64.wrap (x3 + (1 : Int))) + (1 : Int))) + (1 : Int)))) fun r7 =>
  br (decide ((r7).1 < (0 : Int))) (
   some ((-(1 : Int)), ())) (
   gd (decide ((0 : Int) ≤ x4)) (
  gd (decide (x4 < (((List.length x2) : Nat) : Int))) (
  bnd (R_laws_heldTreeS (ImplTree.kids (get x2 x4)) (r7).1) fun r8 =>
  br (decide ((r8).1 < (0 : Int))) (
   some ((-(1 : Int)), ())) (
   G0 (x2, (r8).1, (IntKind.i64.wrap (x4 + (1 : Int))), ()))))))))))))))))) (
  some (x3, ()))

def laws_heldTreeS.B (N : Nat) (R_laws_heldTreeS : List (ImplTree) → Int → Option (Int × Unit)) (E0 : (List (ImplTree)) × Int × Int × Unit → Option (Int × Unit)) (x0 : List (ImplTree)) (x1 : Int) : Option (Int × Unit) :=
 E0 (x0, x1, (0 : Int), ())

def laws_heldTreeS.L0 (N : Nat) (R_laws_heldTreeS : List (ImplTree) → Int → Option (Int × Unit)) : Nat → (List (ImplTree)) × Int × Int × Unit → Option (Int × Unit)
  | 0, _ => none
  | n + 1, x => laws_heldTreeS.B0 N R_laws_heldTreeS (laws_heldTreeS.L0 N R_laws_heldTreeS n) x

def laws_heldTreeS.R (N : Nat) : Nat → List (ImplTree) → Int → Option (Int × Unit)
  | 0, _, _ => none
  | d + 1, x0, x1 => laws_heldTreeS.B N (laws_heldTreeS.R N d) (laws_heldTreeS.L0 N (laws_heldTreeS.R N d) N) x0 x1

def laws_heldTreeS (N : Nat) (x0 : List (ImplTree)) (x1 : Int) : Option (Int × Unit) := laws_heldTreeS.R N N x0 x1

def laws_heldTree.B (N : Nat) (x0 : ImplTree) (x1 : Int) : Option (Int × Unit) :=
 bnd (laws_heldPropS N (ImplTree.props x0) x1) fun r2 =>
 br (decide ((r2).1 < (0 : Int))) (
  some ((-(1 : Int)), ())) (
  bnd (laws_heldTreeS N (ImplTree.kids x0) (r2).1) fun r3 =>
 br (decide ((r3).1 < (0 : Int))) (
  some ((-(1 : Int)), ())) (
  some ((r3).1, ())))

def laws_heldTree (N : Nat) (x0 : ImplTree) (x1 : Int) : Option (Int × Unit) := laws_heldTree.B N x0 x1

def laws_FnExactTreeAt.B (N : Nat) (x0 : LawsTree) (x1 : List (Int)) : Option (Bool × Unit) :=
 br (decide ((((List.length x1) : Nat) : Int) > (1048576 : Int))) (
  some (true, ())) (
  bnd (laws_szTree N (LawsTree.mk (LawsTree.tag x0) (LawsTree.key x0) (LawsTree.text x0) (LawsTree.props x0) (LawsTree.kids x0)) (1048576 : Int)) fun r2 =>
 br (decide ((r2).1 < (0 : Int))) (
  some (true, ())) (
  bnd (laws_toTree N (LawsTree.mk (LawsTree.tag x0) (LawsTree.key x0) (LawsTree.text x0) (LawsTree.props x0) (LawsTree.kids x0))) fun r3 =>
 bnd (laws_toIntS N x1) fun r4 =>
 bnd (spec_TreeAt N (ImplTree.mk (ImplTree.tag (r3).1) (ImplTree.key (r3).1) (ImplTree.text (r3).1) (ImplTree.props (r3).1) (ImplTree.kids (r3).1)) (r4).1) fun r5 =>
 bnd (laws_toTree N (LawsTree.mk (LawsTree.tag x0) (LawsTree.key x0) (LawsTree.text x0) (LawsTree.props x0) (LawsTree.kids x0))) fun r6 =>
 bnd (laws_toIntS N x1) fun r7 =>
 bnd (impl_TreeAt N (ImplTree.mk (ImplTree.tag (r6).1) (ImplTree.key (r6).1) (ImplTree.text (r6).1) (ImplTree.props (r6).1) (ImplTree.kids (r6).1)) (r7).1) fun r8 =>
 bnd (laws_eqTree N (ImplTree.mk (ImplTree.tag (r8).1) (ImplTree.key (r8).1) (ImplTree.text (r8).1) (ImplTree.props (r8).1) (ImplTree.kids (r8).1)) (ImplTree.mk (ImplTree.tag (r5).1) (ImplTree.key (r5).1) (ImplTree.text (r5).1) (ImplTree.props (r5).1) (ImplTree.kids (r5).1))) fun r9 =>
 br (!(r9).1) (
  some (false, ())) (
  br (!(((r8).2).1 == ((r5).2).1)) (
  some (false, ())) (
  bnd (laws_toTree N (LawsTree.mk (LawsTree.tag x0) (LawsTree.key x0) (LawsTree.text x0) (LawsTree.props x0) (LawsTree.kids x0))) fun r10 =>
 bnd (laws_eqTree N (ImplTree.mk (ImplTree.tag (r6).1) (ImplTree.key (r6).1) (ImplTree.text (r6).1) (ImplTree.props (r6).1) (ImplTree.kids (r6).1)) (ImplTree.mk (ImplTree.tag (r10).1) (ImplTree.key (r10).1) (ImplTree.text (r10).1) (ImplTree.props (r10).1) (ImplTree.kids (r10).1))) fun r11 =>
 br (!(r11).1) (
  some (false, ())) (
  bnd (laws_toIntS N x1) fun r12 =>
 bnd (laws_eqIntS N (r7).1 (r12).1) fun r13 =>
 br (!(r13).1) (
  some (false, ())) (
  bnd (laws_markTree N (ImplTree.mk (ImplTree.tag (r6).1) (ImplTree.key (r6).1) (ImplTree.text (r6).1) (ImplTree.props (r6).1) (ImplTree.kids (r6).1)) (1 : Int)) fun r14 =>
 bnd (laws_markIntS N (r7).1 ((r14).2).1) fun r15 =>
 br (decide (((r15).2).1 < (0 : Int))) (
  some (false, ())) (
  bnd (laws_eqTree N (ImplTree.mk (ImplTree.tag (r8).1) (ImplTree.key (r8).1) (ImplTree.text (r8).1) (ImplTree.props (r8).1) (ImplTree.kids (r8).1)) (ImplTree.mk (ImplTree.tag (r5).1) (ImplTree.key (r5).1) (ImplTree.text (r5).1) (ImplTree.props (r5).1) (ImplTree.kids (r5).1))) fun r16 =>
 br (!(r16).1) (
  some (false, ())) (
  br (!(((r8).2).1 == ((r5).2).1)) (
  some (false, ())) (
  bnd (laws_markTree N (ImplTree.mk (ImplTree.tag (r8).1) (ImplTree.key (r8).1) (ImplTree.text (r8).1) (ImplTree.props (r8).1) (ImplTree.kids (r8).1)) (1 : Int)) fun r17 =>
 bnd (laws_heldTree N (ImplTree.mk (ImplTree.tag (r8).1) (ImplTree.key (r8).1) (ImplTree.text (r8).1) (ImplTree.props (r17).1) (ImplTree.kids (r17).1)) (1 : Int)) fun r18 =>
 br (decide ((r18).1 < (0 : Int))) (
  some (false, ())) (
  br ((r18).1 != ((r17).2).1) (
  some (false, ())) (
  bnd (laws_toTree N (LawsTree.mk (LawsTree.tag x0) (LawsTree.key x0) (LawsTree.text x0) (LawsTree.props x0) (LawsTree.kids x0))) fun r19 =>
 bnd (laws_toIntS N x1) fun r20 =>
 bnd (impl_TreeAt N (ImplTree.mk (ImplTree.tag (r19).1) (ImplTree.key (r19).1) (ImplTree.text (r19).1) (ImplTree.props (r19).1) (ImplTree.kids (r19).1)) (r20).1) fun r21 =>
 bnd (laws_eqTree N (ImplTree.mk (ImplTree.tag (r21).1) (ImplTree.key (r21).1) (ImplTree.text (r21).1) (ImplTree.props (r21).1) (ImplTree.kids (r21).1)) (ImplTree.mk (ImplTree.tag (r5).1) (ImplTree.key (r5).1) (ImplTree.text (r5).1) (ImplTree.props (r5).1) (ImplTree.kids (r5).1))) fun r22 =>
 br (!(r22).1) (
  some (false, ())) (
  br (!(((r21).2).1 == ((r5).2).1)) (
  some (false, ())) (
  bnd (laws_heldTree N (ImplTree.mk (ImplTree.tag (r8).1) (ImplTree.key (r8).1) (ImplTree.text (r8).1) (ImplTree.props (r17).1) (ImplTree.kids (r17).1)) (1 : Int)) fun r23 =>
 br (decide ((r23).1 < (0 : Int))) (
  some (false, ())) (
  br ((r23).1 != ((r17).2).1) (
  some (false, ())) (
  some (true, ()))))))))))))))))

def laws_FnExactTreeAt (N : Nat) (x0 : LawsTree) (x1 : List (Int)) : Option (Bool × Unit) := laws_FnExactTreeAt.B N x0 x1

end
end Go.Ev
