/- The functions that the law reaches, written as plain functions; nothing is claimed here. -/
import Derived.Test.YtilggcjneaecmaaDoorEvE
set_option linter.all false
set_option linter.unusedVariables false
set_option linter.unusedSimpArgs false
/- F -/
set_option maxRecDepth 10000
namespace Go.Ev
noncomputable section
def laws_szValue.B (N : Nat) (x0 : ImplValue) (x1 : Int) : Option (Int × Unit) :=
 br (decide ((IntKind.i64.wrap (x1 - (((List.length (ImplValue.text x0)) : Nat) : Int))) < (0 : Int))) (
  some ((-(1 : Int)), ())) (
  some ((IntKind.i64.wrap (x1 - (((List.length (ImplValue.text x0)) : Nat) : Int))), ()))

def laws_szValue (N : Nat) (x0 : ImplValue) (x1 : Int) : Option (Int × Unit) := laws_szValue.B N x0 x1

def laws_szProp.B (N : Nat) (x0 : LawsProp) (x1 : Int) : Option (Int × Unit) :=
 bnd (laws_szValue N (ImplValue.mk (LawsProp.val_Kind x0) (LawsProp.val_Num x0) (LawsProp.val_Text x0)) x1) fun r2 =>
 br (decide ((r2).1 < (0 : Int))) (
  some ((-(1 : Int)), ())) (
  some ((r2).1, ()))

def laws_szProp (N : Nat) (x0 : LawsProp) (x1 : Int) : Option (Int × Unit) := laws_szProp.B N x0 x1

def laws_szPropS.B0 (N : Nat) (G0 : (List (LawsProp)) × Int × Int × Unit → Option (Int × Unit)) : (List (LawsProp)) × Int × Int × Unit → Option (Int × Unit) :=
fun (x2, x3, x4, ()) =>
 br (decide (x4 < (((List.length x2) : Nat) : Int))) (
  gd (decide ((0 : Int) ≤ x4)) (
  gd (decide (x4 < (((List.length x2) : Nat) : Int))) (
  bnd (laws_szProp N (get x2 x4) x3) fun r6 =>
  br (decide ((r6).1 < (0 : Int))) (
   some ((-(1 : Int)), ())) (
   G0 (x2, (r6).1, (IntKind.i64.wrap (x4 + (1 : Int))), ()))))) (
  some (x3, ()))

def laws_szPropS.B (N : Nat) (E0 : (List (LawsProp)) × Int × Int × Unit → Option (Int × Unit)) (x0 : List (LawsProp)) (x1 : Int) : Option (Int × Unit) :=
 br (decide ((IntKind.i64.wrap (x1 - (((List.length x0) : Nat) : Int))) < (0 : Int))) (
  some ((-(1 : Int)), ())) (
  E0 (x0, (IntKind.i64.wrap (x1 - (((List.length x0) : Nat) : Int))), (0 : Int), ()))

def laws_szPropS.L0 (N : Nat) : Nat → (List (LawsProp)) × Int × Int × Unit → Option (Int × Unit)
  | 0, _ => none
  | n + 1, x => laws_szPropS.B0 N (laws_szPropS.L0 N n) x

def laws_szPropS (N : Nat) (x0 : List (LawsProp)) (x1 : Int) : Option (Int × Unit) := laws_szPropS.B N (laws_szPropS.L0 N N) x0 x1

def laws_szTreeS.B0 (N : Nat) (R_laws_szTreeS : List (LawsTree) → Int → Option (Int × Unit)) (R_laws_szTree : LawsTree → Int → Option (Int × Unit)) (G0 : (List (LawsTree)) × Int × Int × Unit → Option (Int × Unit)) : (List (LawsTree)) × Int × Int × Unit → Option (Int × Unit) :=
fun (x2, x3, x4, ()) =>
 br (decide (x4 < (((List.length x2) : Nat) : Int))) (
  gd (decide ((0 : Int) ≤ x4)) (
  gd (decide (x4 < (((List.length x2) : Nat) : Int))) (
  bnd (R_laws_szTree (LawsTree.mk (LawsTree.tag (get x2 x4)) (LawsTree.key (get x2 x4)) (LawsTree.text (get x2 x4)) (LawsTree.props (get x2 x4)) (LawsTree.kids (get x2 x4))) x3) fun r6 =>
  br (decide ((r6).1 < (0 : Int))) (
   some ((-(1 : Int)), ())) (
   G0 (x2, (r6).1, (IntKind.i64.wrap (x4 + (1 : Int))), ()))))) (
  some (x3, ()))

def laws_szTreeS.B (N : Nat) (R_laws_szTreeS : List (LawsTree) → Int → Option (Int × Unit)) (R_laws_szTree : LawsTree → Int → Option (Int × Unit)) (E0 : (List (LawsTree)) × Int × Int × Unit → Option (Int × Unit)) (x0 : List (LawsTree)) (x1 : Int) : Option (Int × Unit) :=
 br (decide ((IntKind.i64.wrap (x1 - (((List.length x0) : Nat) : Int))) < (0 : Int))) (
  some ((-(1 : Int)), ())) (
  E0 (x0, (IntKind.i64.wrap (x1 - (((List.length x0) : Nat) : Int))), (0 : Int), ()))

def laws_szTreeS.L0 (N : Nat) (R_laws_szTreeS : List (LawsTree) → Int → Option (Int × Unit)) (R_laws_szTree : LawsTree → Int → Option (Int × Unit)) : Nat → (List (LawsTree)) × Int × Int × Unit → Option (Int × Unit)
  | 0, _ => none
  | n + 1, x => laws_szTreeS.B0 N R_laws_szTreeS R_laws_szTree (laws_szTreeS.L0 N R_laws_szTreeS R_laws_szTree n) x

def laws_szTree.B (N : Nat) (R_laws_szTreeS : List (LawsTree) → Int → Option (Int × Unit)) (R_laws_szTree : LawsTree → Int → Option (Int × Unit)) (x0 : LawsTree) (x1 : Int) : Option (Int × Unit) :=
 br (decide ((IntKind.i64.wrap (x1 - (((List.length (LawsTree.text x0)) : Nat) : Int))) < (0 : Int))) (
  some ((-(1 : Int)), ())) (
  bnd (laws_szPropS N (LawsTree.props x0) (IntKind.i64.wrap (x1 - (((List.length (LawsTree.text x0)) : Nat) : Int)))) fun r2 =>
 br (decide ((r2).1 < (0 : Int))) (
  some ((-(1 : Int)), ())) (
  bnd (R_laws_szTreeS (LawsTree.kids x0) (r2).1) fun r3 =>
 br (decide ((r3).1 < (0 : Int))) (
  some ((-(1 : Int)), ())) (
  some ((r3).1, ()))))

mutual
def laws_szTreeS.R (N : Nat) : Nat → List (LawsTree) → Int → Option (Int × Unit)
  | 0, _, _ => none
  | d + 1, x0, x1 => laws_szTreeS.B N (laws_szTreeS.R N d) (laws_szTree.R N d) (laws_szTreeS.L0 N (laws_szTreeS.R N d) (laws_szTree.R N d) N) x0 x1

def laws_szTree.R (N : Nat) : Nat → LawsTree → Int → Option (Int × Unit)
  | 0, _, _ => none
  | d + 1, x0, x1 => laws_szTree.B N (laws_szTreeS.R N d) (laws_szTree.R N d) x0 x1

end

def laws_szTreeS (N : Nat) (x0 : List (LawsTree)) (x1 : Int) : Option (Int × Unit) := laws_szTreeS.R N N x0 x1

def laws_szTree (N : Nat) (x0 : LawsTree) (x1 : Int) : Option (Int × Unit) := laws_szTree.R N N x0 x1

def laws_szRule.B (N : Nat) (x0 : LawsRule) (x1 : Int) : Option (Int × Unit) :=
 bnd (laws_szValue N (ImplValue.mk (LawsRule.val_Kind x0) (LawsRule.val_Num x0) (LawsRule.val_Text x0)) x1) fun r2 =>
 br (decide ((r2).1 < (0 : Int))) (
  some ((-(1 : Int)), ())) (
  some ((r2).1, ()))

def laws_szRule (N : Nat) (x0 : LawsRule) (x1 : Int) : Option (Int × Unit) := laws_szRule.B N x0 x1

def laws_szRuleS.B0 (N : Nat) (G0 : (List (LawsRule)) × Int × Int × Unit → Option (Int × Unit)) : (List (LawsRule)) × Int × Int × Unit → Option (Int × Unit) :=
fun (x2, x3, x4, ()) =>
 br (decide (x4 < (((List.length x2) : Nat) : Int))) (
  gd (decide ((0 : Int) ≤ x4)) (
  gd (decide (x4 < (((List.length x2) : Nat) : Int))) (
  bnd (laws_szRule N (get x2 x4) x3) fun r6 =>
  br (decide ((r6).1 < (0 : Int))) (
   some ((-(1 : Int)), ())) (
   G0 (x2, (r6).1, (IntKind.i64.wrap (x4 + (1 : Int))), ()))))) (
  some (x3, ()))

def laws_szRuleS.B (N : Nat) (E0 : (List (LawsRule)) × Int × Int × Unit → Option (Int × Unit)) (x0 : List (LawsRule)) (x1 : Int) : Option (Int × Unit) :=
 br (decide ((IntKind.i64.wrap (x1 - (((List.length x0) : Nat) : Int))) < (0 : Int))) (
  some ((-(1 : Int)), ())) (
  E0 (x0, (IntKind.i64.wrap (x1 - (((List.length x0) : Nat) : Int))), (0 : Int), ()))

def laws_szRuleS.L0 (N : Nat) : Nat → (List (LawsRule)) × Int × Int × Unit → Option (Int × Unit)
  | 0, _ => none
  | n + 1, x => laws_szRuleS.B0 N (laws_szRuleS.L0 N n) x

def laws_szRuleS (N : Nat) (x0 : List (LawsRule)) (x1 : Int) : Option (Int × Unit) := laws_szRuleS.B N (laws_szRuleS.L0 N N) x0 x1

def laws_toValue.B (N : Nat) (x0 : ImplValue) : Option (ImplValue × Unit) :=
 some (x0, ())

def laws_toValue (N : Nat) (x0 : ImplValue) : Option (ImplValue × Unit) := laws_toValue.B N x0

def laws_toProp.B (N : Nat) (x0 : LawsProp) : Option (ImplProp × Unit) :=
 bnd (laws_toValue N (ImplValue.mk (LawsProp.val_Kind x0) (LawsProp.val_Num x0) (LawsProp.val_Text x0))) fun r1 =>
 some ((ImplProp.mk (LawsProp.name x0) (ImplValue.kind (r1).1) (ImplValue.num (r1).1) (ImplValue.text (r1).1)), ())

def laws_toProp (N : Nat) (x0 : LawsProp) : Option (ImplProp × Unit) := laws_toProp.B N x0

def laws_toPropS.B0 (N : Nat) (G0 : (List (LawsProp)) × (List (ImplProp)) × Int × Unit → Option ((List (ImplProp)) × Unit)) : (List (LawsProp)) × (List (ImplProp)) × Int × Unit → Option ((List (ImplProp)) × Unit) :=
fun (x1, x2, x3, ()) =>
 br (decide (x3 < (((List.length x1) : Nat) : Int))) (
  gd (decide ((0 : Int) ≤ x3)) (
  gd (decide (x3 < (((List.length x1) : Nat) : Int))) (
  bnd (laws_toProp N (get x1 x3)) fun r5 =>
  gd (decide ((0 : Int) ≤ x3)) (
  gd (decide (x3 < (((List.length x2) : Nat) : Int))) (
  G0 (x1, (List.set x2 (Int.toNat x3) (r5).1), (IntKind.i64.wrap (x3 + (1 : Int))), ())))))) (
  some (x2, ()))

def laws_toPropS.B (N : Nat) (E0 : (List (LawsProp)) × (List (ImplProp)) × Int × Unit → Option ((List (ImplProp)) × Unit)) (x0 : List (LawsProp)) : Option ((List (ImplProp)) × Unit) :=
 gd (decide ((((List.length x0) : Nat) : Int) = (((List.length x0) : Nat) : Int))) (
 gd (decide ((0 : Int) ≤ (((List.length x0) : Nat) : Int))) (
 gd (decide ((((List.length x0) : Nat) : Int) < ((68719476736 : Nat) : Int))) (
 E0 (x0, (List.replicate (Int.toNat (((List.length x0) : Nat) : Int)) (ImplProp.mk (0 : Int) (0 : Int) (0 : Int) ([] : List (UInt8)))), (0 : Int), ()))))

def laws_toPropS.L0 (N : Nat) : Nat → (List (LawsProp)) × (List (ImplProp)) × Int × Unit → Option ((List (ImplProp)) × Unit)
  | 0, _ => none
  | n + 1, x => laws_toPropS.B0 N (laws_toPropS.L0 N n) x

def laws_toPropS (N : Nat) (x0 : List (LawsProp)) : Option ((List (ImplProp)) × Unit) := laws_toPropS.B N (laws_toPropS.L0 N N) x0

def laws_toTreeS.B0 (N : Nat) (R_laws_toTreeS : List (LawsTree) → Option ((List (ImplTree)) × Unit)) (R_laws_toTree : LawsTree → Option (ImplTree × Unit)) (G0 : (List (LawsTree)) × (List (ImplTree)) × Int × Unit → Option ((List (ImplTree)) × Unit)) : (List (LawsTree)) × (List (ImplTree)) × Int × Unit → Option ((List (ImplTree)) × Unit) :=
fun (x1, x2, x3, ()) =>
 br (decide (x3 < (((List.length x1) : Nat) : Int))) (
  gd (decide ((0 : Int) ≤ x3)) (
  gd (decide (x3 < (((List.length x1) : Nat) : Int))) (
  bnd (R_laws_toTree (LawsTree.mk (LawsTree.tag (get x1 x3)) (LawsTree.key (get x1 x3)) (LawsTree.text (get x1 x3)) (LawsTree.props (get x1 x3)) (LawsTree.kids (get x1 x3)))) fun r5 =>
  gd (decide ((0 : Int) ≤ x3)) (
  gd (decide (x3 < (((List.length x2) : Nat) : Int))) (
  G0 (x1, (List.set x2 (Int.toNat x3) (ImplTree.mk (ImplTree.tag (r5).1) (ImplTree.key (r5).1) (ImplTree.text (r5).1) (ImplTree.props (r5).1) (ImplTree.kids (r5).1))), (IntKind.i64.wrap (x3 + (1 : Int))), ())))))) (
  some (x2, ()))

def laws_toTreeS.B (N : Nat) (R_laws_toTreeS : List (LawsTree) → Option ((List (ImplTree)) × Unit)) (R_laws_toTree : LawsTree → Option (ImplTree × Unit)) (E0 : (List (LawsTree)) × (List (ImplTree)) × Int × Unit → Option ((List (ImplTree)) × Unit)) (x0 : List (LawsTree)) : Option ((List (ImplTree)) × Unit) :=
 gd (decide ((((List.length x0) : Nat) : Int) = (((List.length x0) : Nat) : Int))) (
 gd (decide ((0 : Int) ≤ (((List.length x0) : Nat) : Int))) (
 gd (decide ((((List.length x0) : Nat) : Int) < ((68719476736 : Nat) : Int))) (
 E0 (x0, (List.replicate (Int.toNat (((List.length x0) : Nat) : Int)) (ImplTree.mk (0 : Int) (0 : Int) ([] : List (UInt8)) ([] : List (ImplProp)) ([] : List (ImplTree)))), (0 : Int), ()))))

def laws_toTreeS.L0 (N : Nat) (R_laws_toTreeS : List (LawsTree) → Option ((List (ImplTree)) × Unit)) (R_laws_toTree : LawsTree → Option (ImplTree × Unit)) : Nat → (List (LawsTree)) × (List (ImplTree)) × Int × Unit → Option ((List (ImplTree)) × Unit)
  | 0, _ => none
  | n + 1, x => laws_toTreeS.B0 N R_laws_toTreeS R_laws_toTree (laws_toTreeS.L0 N R_laws_toTreeS R_laws_toTree n) x

def laws_toTree.B (N : Nat) (R_laws_toTreeS : List (LawsTree) → Option ((List (ImplTree)) × Unit)) (R_laws_toTree : LawsTree → Option (ImplTree × Unit)) (x0 : LawsTree) : Option (ImplTree × Unit) :=
 bnd (laws_toPropS N (LawsTree.props x0)) fun r1 =>
 bnd (R_laws_toTreeS (LawsTree.kids x0)) fun r2 =>
 some ((ImplTree.mk (LawsTree.tag x0) (LawsTree.key x0) (LawsTree.text x0) (r1).1 (r2).1), ())

mutual
def laws_toTreeS.R (N : Nat) : Nat → List (LawsTree) → Option ((List (ImplTree)) × Unit)
  | 0, _ => none
  | d + 1, x0 => laws_toTreeS.B N (laws_toTreeS.R N d) (laws_toTree.R N d) (laws_toTreeS.L0 N (laws_toTreeS.R N d) (laws_toTree.R N d) N) x0

def laws_toTree.R (N : Nat) : Nat → LawsTree → Option (ImplTree × Unit)
  | 0, _ => none
  | d + 1, x0 => laws_toTree.B N (laws_toTreeS.R N d) (laws_toTree.R N d) x0

end

def laws_toTreeS (N : Nat) (x0 : List (LawsTree)) : Option ((List (ImplTree)) × Unit) := laws_toTreeS.R N N x0

def laws_toTree (N : Nat) (x0 : LawsTree) : Option (ImplTree × Unit) := laws_toTree.R N N x0

def laws_toRule.B (N : Nat) (x0 : LawsRule) : Option (ImplRule × Unit) :=
 bnd (laws_toValue N (ImplValue.mk (LawsRule.val_Kind x0) (LawsRule.val_Num x0) (LawsRule.val_Text x0))) fun r1 =>
 some ((ImplRule.mk (LawsRule.tag x0) (LawsRule.above x0) (LawsRule.name x0) (ImplValue.kind (r1).1) (ImplValue.num (r1).1) (ImplValue.text (r1).1) (LawsRule.look x0) (LawsRule.give x0)), ())

def laws_toRule (N : Nat) (x0 : LawsRule) : Option (ImplRule × Unit) := laws_toRule.B N x0

def laws_toRuleS.B0 (N : Nat) (G0 : (List (LawsRule)) × (List (ImplRule)) × Int × Unit → Option ((List (ImplRule)) × Unit)) : (List (LawsRule)) × (List (ImplRule)) × Int × Unit → Option ((List (ImplRule)) × Unit) :=
fun (x1, x2, x3, ()) =>
 br (decide (x3 < (((List.length x1) : Nat) : Int))) (
  gd (decide ((0 : Int) ≤ x3)) (
  gd (decide (x3 < (((List.length x1) : Nat) : Int))) (
  bnd (laws_toRule N (get x1 x3)) fun r5 =>
  gd (decide ((0 : Int) ≤ x3)) (
  gd (decide (x3 < (((List.length x2) : Nat) : Int))) (
  G0 (x1, (List.set x2 (Int.toNat x3) (r5).1), (IntKind.i64.wrap (x3 + (1 : Int))), ())))))) (
  some (x2, ()))

def laws_toRuleS.B (N : Nat) (E0 : (List (LawsRule)) × (List (ImplRule)) × Int × Unit → Option ((List (ImplRule)) × Unit)) (x0 : List (LawsRule)) : Option ((List (ImplRule)) × Unit) :=
 gd (decide ((((List.length x0) : Nat) : Int) = (((List.length x0) : Nat) : Int))) (
 gd (decide ((0 : Int) ≤ (((List.length x0) : Nat) : Int))) (
 gd (decide ((((List.length x0) : Nat) : Int) < ((68719476736 : Nat) : Int))) (
 E0 (x0, (List.replicate (Int.toNat (((List.length x0) : Nat) : Int)) (ImplRule.mk (0 : Int) (0 : Int) (0 : Int) (0 : Int) (0 : Int) ([] : List (UInt8)) (0 : Int) (0 : Int))), (0 : Int), ()))))

def laws_toRuleS.L0 (N : Nat) : Nat → (List (LawsRule)) × (List (ImplRule)) × Int × Unit → Option ((List (ImplRule)) × Unit)
  | 0, _ => none
  | n + 1, x => laws_toRuleS.B0 N (laws_toRuleS.L0 N n) x

def laws_toRuleS (N : Nat) (x0 : List (LawsRule)) : Option ((List (ImplRule)) × Unit) := laws_toRuleS.B N (laws_toRuleS.L0 N N) x0

def spec_treeSize.B0 (N : Nat) (R_spec_treeSize : ImplTree → Int → Option (Int × Unit)) (G0 : Int × ImplTree × Int × Int × Unit → Option (Int × Unit)) : Int × ImplTree × Int × Int × Unit → Option (Int × Unit) :=
fun (x2, x3, x4, x5, ()) =>
 br (decide (x5 < (((List.length (ImplTree.kids x3)) : Nat) : Int))) (
  br (decide (x4 ≤ (200 : Int))) (
   gd (decide ((0 : Int) ≤ x5)) (
   gd (decide (x5 < (((List.length (ImplTree.kids x3)) : Nat) : Int))) (
   bnd (R_spec_treeSize (ImplTree.mk (ImplTree.tag (get (ImplTree.kids x3) x5)) (ImplTree.key (get (ImplTree.kids x3) x5)) (ImplTree.text (get (ImplTree.kids x3) x5)) (ImplTree.props (get (ImplTree.kids x3) x5)) (ImplTree.kids (get (ImplTree.kids x3) x5))) (IntKind.i64.wrap (x2 + (1 : Int)))) fun r7 =>
   G0 (x2, (ImplTree.mk (ImplTree.tag x3) (ImplTree.key x3) (ImplTree.text x3) (ImplTree.props x3) (ImplTree.kids x3)), (IntKind.i64.wrap (x4 + (r7).1)), (IntKind.i64.wrap (x5 + (1 : Int))), ())))) (
   some ((cond (decide ((201 : Int) < x4)) (201 : Int) x4), ()))) (
  some ((cond (decide ((201 : Int) < x4)) (201 : Int) x4), ()))

def spec_treeSize.B (N : Nat) (R_spec_treeSize : ImplTree → Int → Option (Int × Unit)) (E0 : Int × ImplTree × Int × Int × Unit → Option (Int × Unit)) (x0 : ImplTree) (x1 : Int) : Option (Int × Unit) :=
 br (decide (x1 > (24 : Int))) (
  some ((201 : Int), ())) (
  E0 (x1, (ImplTree.mk (ImplTree.tag x0) (ImplTree.key x0) (ImplTree.text x0) (ImplTree.props x0) (ImplTree.kids x0)), (1 : Int), (0 : Int), ()))

def spec_treeSize.L0 (N : Nat) (R_spec_treeSize : ImplTree → Int → Option (Int × Unit)) : Nat → Int × ImplTree × Int × Int × Unit → Option (Int × Unit)
  | 0, _ => none
  | n + 1, x => spec_treeSize.B0 N R_spec_treeSize (spec_treeSize.L0 N R_spec_treeSize n) x

def spec_treeSize.R (N : Nat) : Nat → ImplTree → Int → Option (Int × Unit)
  | 0, _, _ => none
  | d + 1, x0, x1 => spec_treeSize.B N (spec_treeSize.R N d) (spec_treeSize.L0 N (spec_treeSize.R N d) N) x0 x1

def spec_treeSize (N : Nat) (x0 : ImplTree) (x1 : Int) : Option (Int × Unit) := spec_treeSize.R N N x0 x1

def spec_plainByte.B (N : Nat) (x0 : Int) : Option (Bool × Unit) :=
 br (decide (x0 ≥ (97 : Int))) (
  br (decide (x0 ≤ (122 : Int))) (
   some (true, ())) (
   br (decide (x0 ≥ (48 : Int))) (
   br (decide (x0 ≤ (57 : Int))) (
    some (true, ())) (
    some ((x0 == (32 : Int)), ()))) (
   some ((x0 == (32 : Int)), ())))) (
  br (decide (x0 ≥ (48 : Int))) (
  br (decide (x0 ≤ (57 : Int))) (
   some (true, ())) (
   some ((x0 == (32 : Int)), ()))) (
  some ((x0 == (32 : Int)), ())))

def spec_plainByte (N : Nat) (x0 : Int) : Option (Bool × Unit) := spec_plainByte.B N x0

def spec_validWord.B0 (N : Nat) (G0 : (List UInt8) × Int × Unit → Option (Bool × Unit)) : (List UInt8) × Int × Unit → Option (Bool × Unit) :=
fun (x1, x2, ()) =>
 br (decide (x2 < (((List.length x1) : Nat) : Int))) (
  gd (decide ((0 : Int) ≤ x2)) (
  gd (decide (x2 < (((List.length x1) : Nat) : Int))) (
  bnd (spec_plainByte N (((UInt8.toNat (List.getD x1 (Int.toNat x2) 0)) : Nat) : Int)) fun r4 =>
  br (!(r4).1) (
   some (false, ())) (
   G0 (x1, (IntKind.i64.wrap (x2 + (1 : Int))), ()))))) (
  some (true, ()))

def spec_validWord.B (N : Nat) (E0 : (List UInt8) × Int × Unit → Option (Bool × Unit)) (x0 : List UInt8) : Option (Bool × Unit) :=
 br (decide ((((List.length x0) : Nat) : Int) > (12 : Int))) (
  some (false, ())) (
  E0 (x0, (0 : Int), ()))

def spec_validWord.L0 (N : Nat) : Nat → (List UInt8) × Int × Unit → Option (Bool × Unit)
  | 0, _ => none
  | n + 1, x => spec_validWord.B0 N (spec_validWord.L0 N n) x

def spec_validWord (N : Nat) (x0 : List UInt8) : Option (Bool × Unit) := spec_validWord.B N (spec_validWord.L0 N N) x0

def spec_decimal.B (N : Nat) (R_spec_decimal : Int → Option ((List UInt8) × Unit)) (x0 : Int) : Option ((List UInt8) × Unit) :=
 br (decide (x0 < (0 : Int))) (
  bnd (R_spec_decimal (IntKind.i64.wrap ((0 : Int) - x0))) fun r1 =>
  gd (decide (((List.length ([45] : List (UInt8))) + (List.length (r1).1)) < 68719476736)) (
  some ((([45] : List (UInt8)) ++ (r1).1), ()))) (
  br (decide (x0 < (10 : Int))) (
  gd (decide ((0 : Int) ≤ x0)) (
  gd (decide (x0 ≤ (IntKind.i64.wrap (x0 + (1 : Int))))) (
  gd (decide ((IntKind.i64.wrap (x0 + (1 : Int))) ≤ (((List.length ([48, 49, 50, 51, 52, 53, 54, 55, 56, 57] : List (UInt8))) : Nat) : Int))) (
  some ((sub ([48, 49, 50, 51, 52, 53, 54, 55, 56, 57] : List (UInt8)) x0 (IntKind.i64.wrap (x0 + (1 : Int)))), ()))))) (
  bnd (R_spec_decimal (IntKind.i64.wrap (Int.tdiv x0 (10 : Int)))) fun r2 =>
 bnd (R_spec_decimal (Int.tmod x0 (10 : Int))) fun r3 =>
 gd (decide (((List.length (r2).1) + (List.length (r3).1)) < 68719476736)) (
 some (((r2).1 ++ (r3).1), ()))))

def spec_decimal.R (N : Nat) : Nat → Int → Option ((List UInt8) × Unit)
  | 0, _ => none
  | d + 1, x0 => spec_decimal.B N (spec_decimal.R N d) x0

def spec_decimal (N : Nat) (x0 : Int) : Option ((List UInt8) × Unit) := spec_decimal.R N N x0

def spec_validShown.B0 (N : Nat) (G0 : (List UInt8) × Int × Unit → Option (Bool × Unit)) : (List UInt8) × Int × Unit → Option (Bool × Unit) :=
fun (x3, x4, ()) =>
 br (decide (x4 ≤ (1000 : Int))) (
  bnd (spec_decimal N (IntKind.i64.wrap ((0 : Int) - x4))) fun r6 =>
  br (x3 == (r6).1) (
   some (true, ())) (
   G0 (x3, (IntKind.i64.wrap (x4 + (1 : Int))), ()))) (
  some (false, ()))

def spec_validShown.B (N : Nat) (E0 : (List UInt8) × Int × Unit → Option (Bool × Unit)) (x0 : List UInt8) : Option (Bool × Unit) :=
 br ((((List.length x0) : Nat) : Int) == (0 : Int)) (
  bnd (spec_validWord N x0) fun r1 =>
  some ((r1).1, ())) (
  gd (decide ((0 : Int) < (((List.length x0) : Nat) : Int))) (
 br ((((UInt8.toNat (List.getD x0 (Int.toNat (0 : Int)) 0)) : Nat) : Int) != (45 : Int)) (
  bnd (spec_validWord N x0) fun r2 =>
  some ((r2).1, ())) (
  E0 (x0, (1 : Int), ()))))

def spec_validShown.L0 (N : Nat) : Nat → (List UInt8) × Int × Unit → Option (Bool × Unit)
  | 0, _ => none
  | n + 1, x => spec_validShown.B0 N (spec_validShown.L0 N n) x

def spec_validShown (N : Nat) (x0 : List UInt8) : Option (Bool × Unit) := spec_validShown.B N (spec_validShown.L0 N N) x0

def spec_inRange.B (N : Nat) (x0 : Int) (x1 : Int) (x2 : Int) : Option (Bool × Unit) :=
 br (decide (x0 ≥ x1)) (
  some ((decide (x0 ≤ x2)), ())) (
  some (false, ()))

def spec_inRange (N : Nat) (x0 : Int) (x1 : Int) (x2 : Int) : Option (Bool × Unit) := spec_inRange.B N x0 x1 x2

def spec_validValue.B (N : Nat) (x0 : ImplValue) : Option (Bool × Unit) :=
 br ((ImplValue.kind x0) == (0 : Int)) (
  br ((ImplValue.num x0) == (0 : Int)) (
   some (((ImplValue.text x0) == ([] : List (UInt8))), ())) (
   some (false, ()))) (
  br ((ImplValue.kind x0) == (1 : Int)) (
  bnd (spec_inRange N (ImplValue.num x0) (-(1000 : Int)) (1000 : Int)) fun r1 =>
  br (r1).1 (
   some (((ImplValue.text x0) == ([] : List (UInt8))), ())) (
   some (false, ()))) (
  br ((ImplValue.kind x0) == (2 : Int)) (
  br ((ImplValue.num x0) == (0 : Int)) (
   bnd (spec_validWord N (ImplValue.text x0)) fun r2 =>
   some ((r2).1, ())) (
   some (false, ()))) (
  some (false, ()))))

def spec_validValue (N : Nat) (x0 : ImplValue) : Option (Bool × Unit) := spec_validValue.B N x0

def spec_validPropList.B0 (N : Nat) (G0 : (List (ImplProp)) × Int × Unit → Option (Bool × Unit)) : (List (ImplProp)) × Int × Unit → Option (Bool × Unit) :=
fun (x1, x2, ()) =>
 br (decide (x2 < (((List.length x1) : Nat) : Int))) (
  gd (decide ((0 : Int) ≤ x2)) (
  gd (decide (x2 < (((List.length x1) : Nat) : Int))) (
  bnd (spec_inRange N (ImplProp.name (get x1 x2)) (0 : Int) (3 : Int)) fun r4 =>
  br (!(r4).1) (
   some (false, ())) (
   gd (decide ((0 : Int) ≤ x2)) (
  gd (decide (x2 < (((List.length x1) : Nat) : Int))) (
  bnd (spec_validValue N (ImplValue.mk (ImplProp.val_Kind (get x1 x2)) (ImplProp.val_Num (get x1 x2)) (ImplProp.val_Text (get x1 x2)))) fun r5 =>
  br (!(r5).1) (
   some (false, ())) (
   br (decide (x2 > (0 : Int))) (
   gd (decide ((0 : Int) ≤ x2)) (
   gd (decide (x2 < (((List.length x1) : Nat) : Int))) (
   gd (decide ((0 : Int) ≤ (IntKind.i64.wrap (x2 - (1 : Int))))) (
   gd (decide ((IntKind.i64.wrap (x2 - (1 : Int))) < (((List.length x1) : Nat) : Int))) (
   br (decide ((ImplProp.name (get x1 x2)) ≤ (ImplProp.name (get x1 (IntKind.i64.wrap (x2 - (1 : Int))))))) (
    some (false, ())) (
    G0 (x1, (IntKind.i64.wrap (x2 + (1 : Int))), ()))))))) (
   G0 (x1, (IntKind.i64.wrap (x2 + (1 : Int))), ()))))))))) (
  some (true, ()))

def spec_validPropList.B (N : Nat) (E0 : (List (ImplProp)) × Int × Unit → Option (Bool × Unit)) (x0 : List (ImplProp)) : Option (Bool × Unit) :=
 E0 (x0, (0 : Int), ())

def spec_validPropList.L0 (N : Nat) : Nat → (List (ImplProp)) × Int × Unit → Option (Bool × Unit)
  | 0, _ => none
  | n + 1, x => spec_validPropList.B0 N (spec_validPropList.L0 N n) x

def spec_validPropList (N : Nat) (x0 : List (ImplProp)) : Option (Bool × Unit) := spec_validPropList.B N (spec_validPropList.L0 N N) x0

def spec_keysApart.B2 (N : Nat) (G0 : (List (ImplTree)) × Int × Unit → Option (Bool × Unit)) (G2 : (List (ImplTree)) × Int × Int × Unit → Option (Bool × Unit)) : (List (ImplTree)) × Int × Int × Unit → Option (Bool × Unit) :=
fun (x4, x5, x6, ()) =>
 br (decide (x6 < x5)) (
  gd (decide ((0 : Int) ≤ x5)) (
  gd (decide (x5 < (((List.length x4) : Nat) : Int))) (
  br ((ImplTree.key (get x4 x5)) != (-(1 : Int))) (
   gd (decide ((0 : Int) ≤ x5)) (
   gd (decide (x5 < (((List.length x4) : Nat) : Int))) (
   gd (decide ((0 : Int) ≤ x6)) (
   gd (decide (x6 < (((List.length x4) : Nat) : Int))) (
   br ((ImplTree.key (get x4 x5)) == (ImplTree.key (get x4 x6))) (
    some (false, ())) (
    G2 (x4, x5, (IntKind.i64.wrap (x6 + (1 : Int))), ()))))))) (
   G2 (x4, x5, (IntKind.i64.wrap (x6 + (1 : Int))), ()))))) (
  G0 (x4, (IntKind.i64.wrap (x5 + (1 : Int))), ()))

def spec_keysApart.B0 (N : Nat) (E2 : (List (ImplTree)) × Int × Int × Unit → Option (Bool × Unit)) : (List (ImplTree)) × Int × Unit → Option (Bool × Unit) :=
fun (x1, x2, ()) =>
 br (decide (x2 < (((List.length x1) : Nat) : Int))) (
  E2 (x1, x2, (0 : Int), ())) (
  some (true, ()))

def spec_keysApart.B (N : Nat) (E0 : (List (ImplTree)) × Int × Unit → Option (Bool × Unit)) (x0 : List (ImplTree)) : Option (Bool × Unit) :=
 E0 (x0, (0 : Int), ())

def spec_keysApart.L2 (N : Nat) (G0 : (List (ImplTree)) × Int × Unit → Option (Bool × Unit)) : Nat → (List (ImplTree)) × Int × Int × Unit → Option (Bool × Unit)
  | 0, _ => none
  | n + 1, x => spec_keysApart.B2 N G0 (spec_keysApart.L2 N G0 n) x

def spec_keysApart.L0 (N : Nat) : Nat → (List (ImplTree)) × Int × Unit → Option (Bool × Unit)
  | 0, _ => none
  | n + 1, x => spec_keysApart.B0 N (spec_keysApart.L2 N (spec_keysApart.L0 N n) N) x

def spec_keysApart (N : Nat) (x0 : List (ImplTree)) : Option (Bool × Unit) := spec_keysApart.B N (spec_keysApart.L0 N N) x0

def spec_validPart.B0 (N : Nat) (R_spec_validPart : ImplTree → Option (Bool × Unit)) (G0 : ImplTree × Int × Unit → Option (Bool × Unit)) : ImplTree × Int × Unit → Option (Bool × Unit) :=
fun (x5, x6, ()) =>
 br (decide (x6 < (((List.length (ImplTree.kids x5)) : Nat) : Int))) (
  gd (decide ((0 : Int) ≤ x6)) (
  gd (decide (x6 < (((List.length (ImplTree.kids x5)) : Nat) : Int))) (
  bnd (R_spec_validPart (ImplTree.mk (ImplTree.tag (get (ImplTree.kids x5) x6)) (ImplTree.key (get (ImplTree.kids x5) x6)) (ImplTree.text (get (ImplTree.kids x5) x6)) (ImplTree.props (get (ImplTree.kids x5) x6)) (ImplTree.kids (get (ImplTree.kids x5) x6)))) fun r8 =>
  br (!(r8).1) (
   some (false, ())) (
   G0 ((ImplTree.mk (ImplTree.tag x5) (ImplTree.key x5) (ImplTree.text x5) (ImplTree.props x5) (ImplTree.kids x5)), (IntKind.i64.wrap (x6 + (1 : Int))), ()))))) (
  bnd (spec_keysApart N (ImplTree.kids x5)) fun r9 =>
 some ((r9).1, ()))

def spec_validPart.B (N : Nat) (R_spec_validPart : ImplTree → Option (Bool × Unit)) (E0 : ImplTree × Int × Unit → Option (Bool × Unit)) (x0 : ImplTree) : Option (Bool × Unit) :=
 br ((ImplTree.tag x0) == (-(1 : Int))) (
  br ((ImplTree.key x0) == (-(1 : Int))) (
   br ((((List.length (ImplTree.props x0)) : Nat) : Int) == (0 : Int)) (
    br ((((List.length (ImplTree.kids x0)) : Nat) : Int) == (0 : Int)) (
     bnd (spec_validShown N (ImplTree.text x0)) fun r1 =>
     some ((r1).1, ())) (
     some (false, ()))) (
    some (false, ()))) (
   some (false, ()))) (
  bnd (spec_inRange N (ImplTree.tag x0) (0 : Int) (4 : Int)) fun r2 =>
 br (!(r2).1) (
  some (false, ())) (
  bnd (spec_inRange N (ImplTree.key x0) (-(1 : Int)) (99 : Int)) fun r3 =>
 br (!(r3).1) (
  some (false, ())) (
  br (!((ImplTree.text x0) == ([] : List (UInt8)))) (
  some (false, ())) (
  bnd (spec_validPropList N (ImplTree.props x0)) fun r4 =>
 br (!(r4).1) (
  some (false, ())) (
  E0 ((ImplTree.mk (ImplTree.tag x0) (ImplTree.key x0) (ImplTree.text x0) (ImplTree.props x0) (ImplTree.kids x0)), (0 : Int), ()))))))

def spec_validPart.L0 (N : Nat) (R_spec_validPart : ImplTree → Option (Bool × Unit)) : Nat → ImplTree × Int × Unit → Option (Bool × Unit)
  | 0, _ => none
  | n + 1, x => spec_validPart.B0 N R_spec_validPart (spec_validPart.L0 N R_spec_validPart n) x

def spec_validPart.R (N : Nat) : Nat → ImplTree → Option (Bool × Unit)
  | 0, _ => none
  | d + 1, x0 => spec_validPart.B N (spec_validPart.R N d) (spec_validPart.L0 N (spec_validPart.R N d) N) x0

def spec_validPart (N : Nat) (x0 : ImplTree) : Option (Bool × Unit) := spec_validPart.R N N x0

def spec_validTree.B (N : Nat) (x0 : ImplTree) : Option (Bool × Unit) :=
 bnd (spec_treeSize N (ImplTree.mk (ImplTree.tag x0) (ImplTree.key x0) (ImplTree.text x0) (ImplTree.props x0) (ImplTree.kids x0)) (1 : Int)) fun r1 =>
 br (decide ((r1).1 ≤ (200 : Int))) (
  bnd (spec_validPart N (ImplTree.mk (ImplTree.tag x0) (ImplTree.key x0) (ImplTree.text x0) (ImplTree.props x0) (ImplTree.kids x0))) fun r2 =>
  some ((r2).1, ())) (
  some (false, ()))

def spec_validTree (N : Nat) (x0 : ImplTree) : Option (Bool × Unit) := spec_validTree.B N x0

def spec_validRule.B (N : Nat) (x0 : ImplRule) : Option (Bool × Unit) :=
 bnd (spec_inRange N (ImplRule.tag x0) (-(1 : Int)) (4 : Int)) fun r1 =>
 br (r1).1 (
  bnd (spec_inRange N (ImplRule.above x0) (-(1 : Int)) (4 : Int)) fun r2 =>
  br (r2).1 (
   bnd (spec_inRange N (ImplRule.name x0) (-(1 : Int)) (3 : Int)) fun r3 =>
   br (r3).1 (
    bnd (spec_validValue N (ImplValue.mk (ImplRule.val_Kind x0) (ImplRule.val_Num x0) (ImplRule.val_Text x0))) fun r4 =>
    br (r4).1 (
     br ((ImplRule.name x0) != (-(1 : Int))) (
      bnd (spec_inRange N (ImplRule.look x0) (0 : Int) (4 : Int)) fun r5 =>
      br (r5).1 (
       bnd (spec_inRange N (ImplRule.give x0) (0 : Int) (60 : Int)) fun r6 =>
       some ((r6).1, ())) (
       some (false, ()))) (
      br (((ImplRule.val_Kind x0) == (0 : Int)) && (((ImplRule.val_Num x0) == (0 : Int)) && ((ImplRule.val_Text x0) == ([] : List (UInt8))))) (
      bnd (spec_inRange N (ImplRule.look x0) (0 : Int) (4 : Int)) fun r7 =>
      br (r7).1 (
       bnd (spec_inRange N (ImplRule.give x0) (0 : Int) (60 : Int)) fun r8 =>
       some ((r8).1, ())) (
       some (false, ()))) (
      some (false, ())))) (
     some (false, ()))) (
    some (false, ()))) (
   some (false, ()))) (
  some (false, ()))

def spec_validRule (N : Nat) (x0 : ImplRule) : Option (Bool × Unit) := spec_validRule.B N x0

def spec_validRules.B0 (N : Nat) (G0 : (List (ImplRule)) × Int × Unit → Option (Bool × Unit)) : (List (ImplRule)) × Int × Unit → Option (Bool × Unit) :=
fun (x1, x2, ()) =>
 br (decide (x2 < (((List.length x1) : Nat) : Int))) (
  gd (decide ((0 : Int) ≤ x2)) (
  gd (decide (x2 < (((List.length x1) : Nat) : Int))) (
  bnd (spec_validRule N (get x1 x2)) fun r4 =>
  br (!(r4).1) (
   some (false, ())) (
   G0 (x1, (IntKind.i64.wrap (x2 + (1 : Int))), ()))))) (
  some (true, ()))

def spec_validRules.B (N : Nat) (E0 : (List (ImplRule)) × Int × Unit → Option (Bool × Unit)) (x0 : List (ImplRule)) : Option (Bool × Unit) :=
 br (decide ((((List.length x0) : Nat) : Int) > (12 : Int))) (
  some (false, ())) (
  E0 (x0, (0 : Int), ()))

def spec_validRules.L0 (N : Nat) : Nat → (List (ImplRule)) × Int × Unit → Option (Bool × Unit)
  | 0, _ => none
  | n + 1, x => spec_validRules.B0 N (spec_validRules.L0 N n) x

def spec_validRules (N : Nat) (x0 : List (ImplRule)) : Option (Bool × Unit) := spec_validRules.B N (spec_validRules.L0 N N) x0

def spec_textLooks.B (N : Nat) (x0 : List (Int)) : Option ((List (Int)) × Unit) :=
 gd (decide ((4 : Int) < (((List.length x0) : Nat) : Int))) (
 some ((List.set (List.replicate (Int.toNat (5 : Int)) (0 : Int)) (Int.toNat (4 : Int)) (get x0 (4 : Int))), ()))

def spec_textLooks (N : Nat) (x0 : List (Int)) : Option ((List (Int)) × Unit) := spec_textLooks.B N x0

def spec_hasInt.B0 (N : Nat) (G0 : (List (Int)) × Int × Int × Unit → Option (Bool × Unit)) : (List (Int)) × Int × Int × Unit → Option (Bool × Unit) :=
fun (x2, x3, x4, ()) =>
 br (decide (x4 < (((List.length x2) : Nat) : Int))) (
  gd (decide ((0 : Int) ≤ x4)) (
  gd (decide (x4 < (((List.length x2) : Nat) : Int))) (
  br ((get x2 x4) == x3) (
   some (true, ())) (
   G0 (x2, x3, (IntKind.i64.wrap (x4 + (1 : Int))), ()))))) (
  some (false, ()))

def spec_hasInt.B (N : Nat) (E0 : (List (Int)) × Int × Int × Unit → Option (Bool × Unit)) (x0 : List (Int)) (x1 : Int) : Option (Bool × Unit) :=
 E0 (x0, x1, (0 : Int), ())

def spec_hasInt.L0 (N : Nat) : Nat → (List (Int)) × Int × Int × Unit → Option (Bool × Unit)
  | 0, _ => none
  | n + 1, x => spec_hasInt.B0 N (spec_hasInt.L0 N n) x

def spec_hasInt (N : Nat) (x0 : List (Int)) (x1 : Int) : Option (Bool × Unit) := spec_hasInt.B N (spec_hasInt.L0 N N) x0 x1

def spec_propAt.B0 (N : Nat) (G0 : (List (ImplProp)) × Int × Int × Unit → Option (Int × Unit)) : (List (ImplProp)) × Int × Int × Unit → Option (Int × Unit) :=
fun (x2, x3, x4, ()) =>
 br (decide (x4 < (((List.length x2) : Nat) : Int))) (
  gd (decide ((0 : Int) ≤ x4)) (
  gd (decide (x4 < (((List.length x2) : Nat) : Int))) (
  br ((ImplProp.name (get x2 x4)) == x3) (
   some (x4, ())) (
   G0 (x2, x3, (IntKind.i64.wrap (x4 + (1 : Int))), ()))))) (
  some ((-(1 : Int)), ()))

def spec_propAt.B (N : Nat) (E0 : (List (ImplProp)) × Int × Int × Unit → Option (Int × Unit)) (x0 : List (ImplProp)) (x1 : Int) : Option (Int × Unit) :=
 E0 (x0, x1, (0 : Int), ())

def spec_propAt.L0 (N : Nat) : Nat → (List (ImplProp)) × Int × Int × Unit → Option (Int × Unit)
  | 0, _ => none
  | n + 1, x => spec_propAt.B0 N (spec_propAt.L0 N n) x

def spec_propAt (N : Nat) (x0 : List (ImplProp)) (x1 : Int) : Option (Int × Unit) := spec_propAt.B N (spec_propAt.L0 N N) x0 x1

def spec_meets.B (N : Nat) (x0 : ImplRule) (x1 : ImplTree) (x2 : List (Int)) : Option (Bool × Unit) :=
 br ((ImplRule.tag x0) != (-(1 : Int))) (
  br ((ImplRule.tag x0) != (ImplTree.tag x1)) (
   some (false, ())) (
   br ((ImplRule.above x0) != (-(1 : Int))) (
   bnd (spec_hasInt N x2 (ImplRule.above x0)) fun r3 =>
   br (!(r3).1) (
    some (false, ())) (
    br ((ImplRule.name x0) == (-(1 : Int))) (
    some (true, ())) (
    bnd (spec_propAt N (ImplTree.props x1) (ImplRule.name x0)) fun r4 =>
   br (decide ((r4).1 ≥ (0 : Int))) (
    gd (decide ((0 : Int) ≤ (r4).1)) (
    gd (decide ((r4).1 < (((List.length (ImplTree.props x1)) : Nat) : Int))) (
    some ((((ImplProp.val_Kind (get (ImplTree.props x1) (r4).1)) == (ImplRule.val_Kind x0)) && (((ImplProp.val_Num (get (ImplTree.props x1) (r4).1)) == (ImplRule.val_Num x0)) && ((ImplProp.val_Text (get (ImplTree.props x1) (r4).1)) == (ImplRule.val_Text x0)))), ())))) (
    some (false, ()))))) (
   br ((ImplRule.name x0) == (-(1 : Int))) (
   some (true, ())) (
   bnd (spec_propAt N (ImplTree.props x1) (ImplRule.name x0)) fun r5 =>
  br (decide ((r5).1 ≥ (0 : Int))) (
   gd (decide ((0 : Int) ≤ (r5).1)) (
   gd (decide ((r5).1 < (((List.length (ImplTree.props x1)) : Nat) : Int))) (
   some ((((ImplProp.val_Kind (get (ImplTree.props x1) (r5).1)) == (ImplRule.val_Kind x0)) && (((ImplProp.val_Num (get (ImplTree.props x1) (r5).1)) == (ImplRule.val_Num x0)) && ((ImplProp.val_Text (get (ImplTree.props x1) (r5).1)) == (ImplRule.val_Text x0)))), ())))) (
   some (false, ())))))) (
  br ((ImplRule.above x0) != (-(1 : Int))) (
  bnd (spec_hasInt N x2 (ImplRule.above x0)) fun r6 =>
  br (!(r6).1) (
   some (false, ())) (
   br ((ImplRule.name x0) == (-(1 : Int))) (
   some (true, ())) (
   bnd (spec_propAt N (ImplTree.props x1) (ImplRule.name x0)) fun r7 =>
  br (decide ((r7).1 ≥ (0 : Int))) (
   gd (decide ((0 : Int) ≤ (r7).1)) (
   gd (decide ((r7).1 < (((List.length (ImplTree.props x1)) : Nat) : Int))) (
   some ((((ImplProp.val_Kind (get (ImplTree.props x1) (r7).1)) == (ImplRule.val_Kind x0)) && (((ImplProp.val_Num (get (ImplTree.props x1) (r7).1)) == (ImplRule.val_Num x0)) && ((ImplProp.val_Text (get (ImplTree.props x1) (r7).1)) == (ImplRule.val_Text x0)))), ())))) (
   some (false, ()))))) (
  br ((ImplRule.name x0) == (-(1 : Int))) (
  some (true, ())) (
  bnd (spec_propAt N (ImplTree.props x1) (ImplRule.name x0)) fun r8 =>
 br (decide ((r8).1 ≥ (0 : Int))) (
  gd (decide ((0 : Int) ≤ (r8).1)) (
  gd (decide ((r8).1 < (((List.length (ImplTree.props x1)) : Nat) : Int))) (
  some ((((ImplProp.val_Kind (get (ImplTree.props x1) (r8).1)) == (ImplRule.val_Kind x0)) && (((ImplProp.val_Num (get (ImplTree.props x1) (r8).1)) == (ImplRule.val_Num x0)) && ((ImplProp.val_Text (get (ImplTree.props x1) (r8).1)) == (ImplRule.val_Text x0)))), ())))) (
  some (false, ())))))

def spec_meets (N : Nat) (x0 : ImplRule) (x1 : ImplTree) (x2 : List (Int)) : Option (Bool × Unit) := spec_meets.B N x0 x1 x2

def spec_weight.J6 (N : Nat) : ImplRule × Int × Unit → Option (Int × Unit) :=
fun (x3, x4, ()) =>
 br ((ImplRule.name x3) != (-(1 : Int))) (
  some ((IntKind.i64.wrap (x4 + (10 : Int))), ())) (
  some (x4, ()))

def spec_weight.J4 (N : Nat) : ImplRule × Int × Unit → Option (Int × Unit) :=
fun (x1, x2, ()) =>
 br ((ImplRule.above x1) != (-(1 : Int))) (
  spec_weight.J6 N (x1, (IntKind.i64.wrap (x2 + (1 : Int))), ())) (
  spec_weight.J6 N (x1, x2, ()))

def spec_weight.B (N : Nat) (x0 : ImplRule) : Option (Int × Unit) :=
 br ((ImplRule.tag x0) != (-(1 : Int))) (
  spec_weight.J4 N (x0, (IntKind.i64.wrap ((0 : Int) + (1 : Int))), ())) (
  spec_weight.J4 N (x0, (0 : Int), ()))

def spec_weight (N : Nat) (x0 : ImplRule) : Option (Int × Unit) := spec_weight.B N x0

def spec_looks.B0 (N : Nat) (G0 : (List (ImplRule)) × (List (Int)) × ImplTree × (List (Int)) × (List (Int)) × Int × Unit → Option ((List (Int)) × Unit)) : (List (ImplRule)) × (List (Int)) × ImplTree × (List (Int)) × (List (Int)) × Int × Unit → Option ((List (Int)) × Unit) :=
fun (x4, x5, x6, x7, x8, x9, ()) =>
 br (decide (x9 < (((List.length x4) : Nat) : Int))) (
  gd (decide ((0 : Int) ≤ x9)) (
  gd (decide (x9 < (((List.length x4) : Nat) : Int))) (
  bnd (spec_meets N (get x4 x9) (ImplTree.mk (ImplTree.tag x6) (ImplTree.key x6) (ImplTree.text x6) (ImplTree.props x6) (ImplTree.kids x6)) x5) fun r11 =>
  br (r11).1 (
   bnd (spec_weight N (get x4 x9)) fun r12 =>
   gd (decide ((0 : Int) ≤ (ImplRule.look (get x4 x9)))) (
   gd (decide ((ImplRule.look (get x4 x9)) < (((List.length x8) : Nat) : Int))) (
   br (decide ((IntKind.i64.wrap ((r12).1 + (1 : Int))) ≥ (get x8 (ImplRule.look (get x4 x9))))) (
    bnd (spec_weight N (get x4 x9)) fun r13 =>
    gd (decide ((0 : Int) ≤ (ImplRule.look (get x4 x9)))) (
    gd (decide ((ImplRule.look (get x4 x9)) < (((List.length x8) : Nat) : Int))) (
    gd (decide ((0 : Int) ≤ (ImplRule.look (get x4 x9)))) (
    gd (decide ((ImplRule.look (get x4 x9)) < (((List.length x7) : Nat) : Int))) (
    G0 (x4, x5, (ImplTree.mk (ImplTree.tag x6) (ImplTree.key x6) (ImplTree.text x6) (ImplTree.props x6) (ImplTree.kids x6)), (List.set x7 (Int.toNat (ImplRule.look (get x4 x9))) (ImplRule.give (get x4 x9))), (List.set x8 (Int.toNat (ImplRule.look (get x4 x9))) (IntKind.i64.wrap ((r13).1 + (1 : Int)))), (IntKind.i64.wrap (x9 + (1 : Int))), ())))))) (
    G0 (x4, x5, (ImplTree.mk (ImplTree.tag x6) (ImplTree.key x6) (ImplTree.text x6) (ImplTree.props x6) (ImplTree.kids x6)), x7, x8, (IntKind.i64.wrap (x9 + (1 : Int))), ()))))) (
   G0 (x4, x5, (ImplTree.mk (ImplTree.tag x6) (ImplTree.key x6) (ImplTree.text x6) (ImplTree.props x6) (ImplTree.kids x6)), x7, x8, (IntKind.i64.wrap (x9 + (1 : Int))), ()))))) (
  some (x7, ()))

def spec_looks.B (N : Nat) (E0 : (List (ImplRule)) × (List (Int)) × ImplTree × (List (Int)) × (List (Int)) × Int × Unit → Option ((List (Int)) × Unit)) (x0 : List (ImplRule)) (x1 : ImplTree) (x2 : List (Int)) (x3 : List (Int)) : Option ((List (Int)) × Unit) :=
 gd (decide ((4 : Int) < (((List.length x3) : Nat) : Int))) (
 E0 (x0, x2, (ImplTree.mk (ImplTree.tag x1) (ImplTree.key x1) (ImplTree.text x1) (ImplTree.props x1) (ImplTree.kids x1)), (List.set (List.replicate (Int.toNat (5 : Int)) (0 : Int)) (Int.toNat (4 : Int)) (get x3 (4 : Int))), (List.replicate (Int.toNat (5 : Int)) (0 : Int)), (0 : Int), ()))

def spec_looks.L0 (N : Nat) : Nat → (List (ImplRule)) × (List (Int)) × ImplTree × (List (Int)) × (List (Int)) × Int × Unit → Option ((List (Int)) × Unit)
  | 0, _ => none
  | n + 1, x => spec_looks.B0 N (spec_looks.L0 N n) x

def spec_looks (N : Nat) (x0 : List (ImplRule)) (x1 : ImplTree) (x2 : List (Int)) (x3 : List (Int)) : Option ((List (Int)) × Unit) := spec_looks.B N (spec_looks.L0 N N) x0 x1 x2 x3

def spec_looksOf.B (N : Nat) (x0 : List (ImplRule)) (x1 : ImplTree) (x2 : List (Int)) (x3 : List (Int)) : Option ((List (Int)) × Unit) :=
 br (decide ((ImplTree.tag x1) < (0 : Int))) (
  bnd (spec_textLooks N x3) fun r4 =>
  some ((r4).1, ())) (
  bnd (spec_looks N x0 (ImplTree.mk (ImplTree.tag x1) (ImplTree.key x1) (ImplTree.text x1) (ImplTree.props x1) (ImplTree.kids x1)) x2 x3) fun r5 =>
 some ((r5).1, ()))

def spec_looksOf (N : Nat) (x0 : List (ImplRule)) (x1 : ImplTree) (x2 : List (Int)) (x3 : List (Int)) : Option ((List (Int)) × Unit) := spec_looksOf.B N x0 x1 x2 x3

def spec_textBox.B (N : Nat) (x0 : Int) (x1 : Int) : Option (Int × Int × Unit) :=
 br (decide (x1 ≤ (0 : Int))) (
  some ((0 : Int), (0 : Int), ())) (
  br (x0 == (0 : Int)) (
  some ((0 : Int), (0 : Int), ())) (
  gd (!(decide (x1 = (0 : Int)))) (
 some ((cond (decide (x1 < x0)) x1 x0), (IntKind.i64.wrap (Int.tdiv (IntKind.i64.wrap ((IntKind.i64.wrap (x0 + x1)) - (1 : Int))) x1)), ()))))

def spec_textBox (N : Nat) (x0 : Int) (x1 : Int) : Option (Int × Int × Unit) := spec_textBox.B N x0 x1

def spec_placer_wishes.B2 (N : Nat) (G2 : SpecPlacer × (List (ImplTree)) × (List (Int)) × (List (Int)) × (List (Int)) × Int × Int × Int × Unit → Option (SpecPlacer × (List (Int)) × Unit)) : SpecPlacer × (List (ImplTree)) × (List (Int)) × (List (Int)) × (List (Int)) × Int × Int × Int × Unit → Option (SpecPlacer × (List (Int)) × Unit) :=
fun (x15, x16, x17, x18, x19, x20, x21, x22, ()) =>
 br (decide (x22 < (((List.length x16) : Nat) : Int))) (
  gd (decide ((0 : Int) ≤ x22)) (
  gd (decide (x22 < (((List.length x16) : Nat) : Int))) (
  bnd (spec_looksOf N (SpecPlacer.rules x15) (ImplTree.mk (ImplTree.tag (get x16 x22)) (ImplTree.key (get x16 x22)) (ImplTree.text (get x16 x22)) (ImplTree.props (get x16 x22)) (ImplTree.kids (get x16 x22))) x17 x18) fun r24 =>
  gd (decide ((0 : Int) < (((List.length (r24).1) : Nat) : Int))) (
  br ((get (r24).1 (0 : Int)) == (0 : Int)) (
   gd (!(decide (x21 = (0 : Int)))) (
   gd (decide ((0 : Int) ≤ x22)) (
   gd (decide (x22 < (((List.length x19) : Nat) : Int))) (
   gd (decide ((0 : Int) ≤ x22)) (
   gd (decide (x22 < (((List.length (List.set x19 (Int.toNat x22) (IntKind.i64.wrap (Int.tdiv (IntKind.i64.wrap ((IntKind.i64.wrap (x20 + x21)) - (1 : Int))) x21)))) : Nat) : Int))) (
   G2 (x15, x16, x17, x18, (List.set x19 (Int.toNat x22) (IntKind.i64.wrap (Int.tdiv (IntKind.i64.wrap ((IntKind.i64.wrap (x20 + x21)) - (1 : Int))) x21))), (IntKind.i64.wrap (x20 - (get (List.set x19 (Int.toNat x22) (IntKind.i64.wrap (Int.tdiv (IntKind.i64.wrap ((IntKind.i64.wrap (x20 + x21)) - (1 : Int))) x21))) x22))), (IntKind.i64.wrap (x21 - (1 : Int))), (IntKind.i64.wrap (x22 + (1 : Int))), ()))))))) (
   G2 (x15, x16, x17, x18, x19, x20, x21, (IntKind.i64.wrap (x22 + (1 : Int))), ())))))) (
  some (x15, x19, ()))

def spec_placer_wishes.B0 (N : Nat) (G0 : SpecPlacer × (List (ImplTree)) × (List (Int)) × (List (Int)) × (List (Int)) × Int × Int × Int × Unit → Option (SpecPlacer × (List (Int)) × Unit)) (E2 : SpecPlacer × (List (ImplTree)) × (List (Int)) × (List (Int)) × (List (Int)) × Int × Int × Int × Unit → Option (SpecPlacer × (List (Int)) × Unit)) : SpecPlacer × (List (ImplTree)) × (List (Int)) × (List (Int)) × (List (Int)) × Int × Int × Int × Unit → Option (SpecPlacer × (List (Int)) × Unit) :=
fun (x5, x6, x7, x8, x9, x10, x11, x12, ()) =>
 br (decide (x12 < (((List.length x6) : Nat) : Int))) (
  gd (decide ((0 : Int) ≤ x12)) (
  gd (decide (x12 < (((List.length x6) : Nat) : Int))) (
  bnd (spec_looksOf N (SpecPlacer.rules x5) (ImplTree.mk (ImplTree.tag (get x6 x12)) (ImplTree.key (get x6 x12)) (ImplTree.text (get x6 x12)) (ImplTree.props (get x6 x12)) (ImplTree.kids (get x6 x12))) x7 x8) fun r14 =>
  gd (decide ((0 : Int) < (((List.length (r14).1) : Nat) : Int))) (
  br ((get (r14).1 (0 : Int)) == (0 : Int)) (
   G0 (x5, x6, x7, x8, x9, x10, (IntKind.i64.wrap (x11 + (1 : Int))), (IntKind.i64.wrap (x12 + (1 : Int))), ())) (
   gd (decide ((0 : Int) ≤ x12)) (
  gd (decide (x12 < (((List.length x9) : Nat) : Int))) (
  gd (decide ((0 : Int) ≤ x12)) (
  gd (decide (x12 < (((List.length (List.set x9 (Int.toNat x12) (cond (decide (x10 < (get (r14).1 (0 : Int)))) x10 (get (r14).1 (0 : Int))))) : Nat) : Int))) (
  G0 (x5, x6, x7, x8, (List.set x9 (Int.toNat x12) (cond (decide (x10 < (get (r14).1 (0 : Int)))) x10 (get (r14).1 (0 : Int)))), (IntKind.i64.wrap (x10 - (get (List.set x9 (Int.toNat x12) (cond (decide (x10 < (get (r14).1 (0 : Int)))) x10 (get (r14).1 (0 : Int)))) x12))), x11, (IntKind.i64.wrap (x12 + (1 : Int))), ())))))))))) (
  E2 (x5, x6, x7, x8, x9, x10, x11, (0 : Int), ()))

def spec_placer_wishes.B (N : Nat) (E0 : SpecPlacer × (List (ImplTree)) × (List (Int)) × (List (Int)) × (List (Int)) × Int × Int × Int × Unit → Option (SpecPlacer × (List (Int)) × Unit)) (x0 : SpecPlacer) (x1 : List (ImplTree)) (x2 : List (Int)) (x3 : List (Int)) (x4 : Int) : Option (SpecPlacer × (List (Int)) × Unit) :=
 gd (decide ((((List.length x1) : Nat) : Int) = (((List.length x1) : Nat) : Int))) (
 gd (decide ((0 : Int) ≤ (((List.length x1) : Nat) : Int))) (
 gd (decide ((((List.length x1) : Nat) : Int) < ((68719476736 : Nat) : Int))) (
 E0 (x0, x1, x2, x3, (List.replicate (Int.toNat (((List.length x1) : Nat) : Int)) (0 : Int)), x4, (0 : Int), (0 : Int), ()))))

def spec_placer_wishes.L2 (N : Nat) : Nat → SpecPlacer × (List (ImplTree)) × (List (Int)) × (List (Int)) × (List (Int)) × Int × Int × Int × Unit → Option (SpecPlacer × (List (Int)) × Unit)
  | 0, _ => none
  | n + 1, x => spec_placer_wishes.B2 N (spec_placer_wishes.L2 N n) x

def spec_placer_wishes.L0 (N : Nat) : Nat → SpecPlacer × (List (ImplTree)) × (List (Int)) × (List (Int)) × (List (Int)) × Int × Int × Int × Unit → Option (SpecPlacer × (List (Int)) × Unit)
  | 0, _ => none
  | n + 1, x => spec_placer_wishes.B0 N (spec_placer_wishes.L0 N n) (spec_placer_wishes.L2 N N) x

def spec_placer_wishes (N : Nat) (x0 : SpecPlacer) (x1 : List (ImplTree)) (x2 : List (Int)) (x3 : List (Int)) (x4 : Int) : Option (SpecPlacer × (List (Int)) × Unit) := spec_placer_wishes.B N (spec_placer_wishes.L0 N N) x0 x1 x2 x3 x4

def spec_placer_down.B0 (N : Nat) (R_spec_placer_down : SpecPlacer → List (ImplTree) → List (Int) → List (Int) → Int → Int → Int → Option (SpecPlacer × Int × Unit)) (R_spec_placer_across : SpecPlacer → List (ImplTree) → List (Int) → List (Int) → Int → Int → Int → Option (SpecPlacer × Int × Unit)) (R_spec_placer_part : SpecPlacer → ImplTree → List (Int) → List (Int) → Int → Int → Int → Option (SpecPlacer × ImplBox × Unit)) (G0 : SpecPlacer × (List (ImplTree)) × (List (Int)) × (List (Int)) × Int × Int × Int × Int × Int × Unit → Option (SpecPlacer × Int × Unit)) : SpecPlacer × (List (ImplTree)) × (List (Int)) × (List (Int)) × Int × Int × Int × Int × Int × Unit → Option (SpecPlacer × Int × Unit) :=
fun (x7, x8, x9, x10, x11, x12, x13, x14, x15, ()) =>
 br (decide (x15 < (((List.length x8) : Nat) : Int))) (
  gd (decide ((0 : Int) ≤ x15)) (
  gd (decide (x15 < (((List.length x8) : Nat) : Int))) (
  bnd (R_spec_placer_part x7 (ImplTree.mk (ImplTree.tag (get x8 x15)) (ImplTree.key (get x8 x15)) (ImplTree.text (get x8 x15)) (ImplTree.props (get x8 x15)) (ImplTree.kids (get x8 x15))) x9 x10 x11 (IntKind.i64.wrap (x12 + x14)) x13) fun r17 =>
  G0 ((r17).1, x8, x9, x10, x11, x12, x13, (IntKind.i64.wrap (x14 + (ImplBox.high ((r17).2).1))), (IntKind.i64.wrap (x15 + (1 : Int))), ())))) (
  some (x7, x14, ()))

def spec_placer_down.B (N : Nat) (R_spec_placer_down : SpecPlacer → List (ImplTree) → List (Int) → List (Int) → Int → Int → Int → Option (SpecPlacer × Int × Unit)) (R_spec_placer_across : SpecPlacer → List (ImplTree) → List (Int) → List (Int) → Int → Int → Int → Option (SpecPlacer × Int × Unit)) (R_spec_placer_part : SpecPlacer → ImplTree → List (Int) → List (Int) → Int → Int → Int → Option (SpecPlacer × ImplBox × Unit)) (E0 : SpecPlacer × (List (ImplTree)) × (List (Int)) × (List (Int)) × Int × Int × Int × Int × Int × Unit → Option (SpecPlacer × Int × Unit)) (x0 : SpecPlacer) (x1 : List (ImplTree)) (x2 : List (Int)) (x3 : List (Int)) (x4 : Int) (x5 : Int) (x6 : Int) : Option (SpecPlacer × Int × Unit) :=
 E0 (x0, x1, x2, x3, x4, x5, x6, (0 : Int), (0 : Int), ())

def spec_placer_down.L0 (N : Nat) (R_spec_placer_down : SpecPlacer → List (ImplTree) → List (Int) → List (Int) → Int → Int → Int → Option (SpecPlacer × Int × Unit)) (R_spec_placer_across : SpecPlacer → List (ImplTree) → List (Int) → List (Int) → Int → Int → Int → Option (SpecPlacer × Int × Unit)) (R_spec_placer_part : SpecPlacer → ImplTree → List (Int) → List (Int) → Int → Int → Int → Option (SpecPlacer × ImplBox × Unit)) : Nat → SpecPlacer × (List (ImplTree)) × (List (Int)) × (List (Int)) × Int × Int × Int × Int × Int × Unit → Option (SpecPlacer × Int × Unit)
  | 0, _ => none
  | n + 1, x => spec_placer_down.B0 N R_spec_placer_down R_spec_placer_across R_spec_placer_part (spec_placer_down.L0 N R_spec_placer_down R_spec_placer_across R_spec_placer_part n) x

def spec_placer_across.B0 (N : Nat) (R_spec_placer_down : SpecPlacer → List (ImplTree) → List (Int) → List (Int) → Int → Int → Int → Option (SpecPlacer × Int × Unit)) (R_spec_placer_across : SpecPlacer → List (ImplTree) → List (Int) → List (Int) → Int → Int → Int → Option (SpecPlacer × Int × Unit)) (R_spec_placer_part : SpecPlacer → ImplTree → List (Int) → List (Int) → Int → Int → Int → Option (SpecPlacer × ImplBox × Unit)) (G0 : SpecPlacer × (List (ImplTree)) × (List (Int)) × (List (Int)) × Int × Int × (List (Int)) × Int × Int × Unit → Option (SpecPlacer × Int × Unit)) : SpecPlacer × (List (ImplTree)) × (List (Int)) × (List (Int)) × Int × Int × (List (Int)) × Int × Int × Unit → Option (SpecPlacer × Int × Unit) :=
fun (x8, x9, x10, x11, x12, x13, x14, x15, x16, ()) =>
 br (decide (x16 < (((List.length x9) : Nat) : Int))) (
  gd (decide ((0 : Int) ≤ x16)) (
  gd (decide (x16 < (((List.length x9) : Nat) : Int))) (
  gd (decide ((0 : Int) ≤ x16)) (
  gd (decide (x16 < (((List.length x14) : Nat) : Int))) (
  bnd (R_spec_placer_part x8 (ImplTree.mk (ImplTree.tag (get x9 x16)) (ImplTree.key (get x9 x16)) (ImplTree.text (get x9 x16)) (ImplTree.props (get x9 x16)) (ImplTree.kids (get x9 x16))) x10 x11 x12 x13 (get x14 x16)) fun r18 =>
  gd (decide ((0 : Int) ≤ x16)) (
  gd (decide (x16 < (((List.length x14) : Nat) : Int))) (
  G0 ((r18).1, x9, x10, x11, (IntKind.i64.wrap (x12 + (get x14 x16))), x13, x14, (cond (decide ((ImplBox.high ((r18).2).1) > x15)) (ImplBox.high ((r18).2).1) x15), (IntKind.i64.wrap (x16 + (1 : Int))), ())))))))) (
  some (x8, x15, ()))

def spec_placer_across.B (N : Nat) (R_spec_placer_down : SpecPlacer → List (ImplTree) → List (Int) → List (Int) → Int → Int → Int → Option (SpecPlacer × Int × Unit)) (R_spec_placer_across : SpecPlacer → List (ImplTree) → List (Int) → List (Int) → Int → Int → Int → Option (SpecPlacer × Int × Unit)) (R_spec_placer_part : SpecPlacer → ImplTree → List (Int) → List (Int) → Int → Int → Int → Option (SpecPlacer × ImplBox × Unit)) (E0 : SpecPlacer × (List (ImplTree)) × (List (Int)) × (List (Int)) × Int × Int × (List (Int)) × Int × Int × Unit → Option (SpecPlacer × Int × Unit)) (x0 : SpecPlacer) (x1 : List (ImplTree)) (x2 : List (Int)) (x3 : List (Int)) (x4 : Int) (x5 : Int) (x6 : Int) : Option (SpecPlacer × Int × Unit) :=
 bnd (spec_placer_wishes N x0 x1 x2 x3 x6) fun r7 =>
 E0 ((r7).1, x1, x2, x3, x4, x5, ((r7).2).1, (0 : Int), (0 : Int), ())

def spec_placer_across.L0 (N : Nat) (R_spec_placer_down : SpecPlacer → List (ImplTree) → List (Int) → List (Int) → Int → Int → Int → Option (SpecPlacer × Int × Unit)) (R_spec_placer_across : SpecPlacer → List (ImplTree) → List (Int) → List (Int) → Int → Int → Int → Option (SpecPlacer × Int × Unit)) (R_spec_placer_part : SpecPlacer → ImplTree → List (Int) → List (Int) → Int → Int → Int → Option (SpecPlacer × ImplBox × Unit)) : Nat → SpecPlacer × (List (ImplTree)) × (List (Int)) × (List (Int)) × Int × Int × (List (Int)) × Int × Int × Unit → Option (SpecPlacer × Int × Unit)
  | 0, _ => none
  | n + 1, x => spec_placer_across.B0 N R_spec_placer_down R_spec_placer_across R_spec_placer_part (spec_placer_across.L0 N R_spec_placer_down R_spec_placer_across R_spec_placer_part n) x

def spec_placer_part.J22 (N : Nat) (R_spec_placer_down : SpecPlacer → List (ImplTree) → List (Int) → List (Int) → Int → Int → Int → Option (SpecPlacer × Int × Unit)) (R_spec_placer_across : SpecPlacer → List (ImplTree) → List (Int) → List (Int) → Int → Int → Int → Option (SpecPlacer × Int × Unit)) (R_spec_placer_part : SpecPlacer → ImplTree → List (Int) → List (Int) → Int → Int → Int → Option (SpecPlacer × ImplBox × Unit)) : SpecPlacer × ImplBox × Int × ImplBox × Unit → Option (SpecPlacer × ImplBox × Unit) :=
fun (x26, x27, x28, x29, ()) =>
 gd (decide ((0 : Int) ≤ x28)) (
 gd (decide (x28 < (((List.length (SpecPlacer.out x26)) : Nat) : Int))) (
 some ((SpecPlacer.mk (SpecPlacer.rules x26) (List.set (SpecPlacer.out x26) (Int.toNat x28) x29)), x29, ())))

def spec_placer_part.J19 (N : Nat) (R_spec_placer_down : SpecPlacer → List (ImplTree) → List (Int) → List (Int) → Int → Int → Int → Option (SpecPlacer × Int × Unit)) (R_spec_placer_across : SpecPlacer → List (ImplTree) → List (Int) → List (Int) → Int → Int → Int → Option (SpecPlacer × Int × Unit)) (R_spec_placer_part : SpecPlacer → ImplTree → List (Int) → List (Int) → Int → Int → Int → Option (SpecPlacer × ImplBox × Unit)) : SpecPlacer × ImplBox × (List (Int)) × Int × ImplBox × Int × Int × Unit → Option (SpecPlacer × ImplBox × Unit) :=
fun (x19, x20, x21, x22, x23, x24, x25, ()) =>
 gd (decide ((1 : Int) < (((List.length x21) : Nat) : Int))) (
 br (decide ((get x21 (1 : Int)) > (0 : Int))) (
  gd (decide ((1 : Int) < (((List.length x21) : Nat) : Int))) (
  spec_placer_part.J22 N R_spec_placer_down R_spec_placer_across R_spec_placer_part (x19, x20, x22, (ImplBox.mk (ImplBox.left x23) (ImplBox.top x23) (ImplBox.wide x23) (get x21 (1 : Int))), ()))) (
  spec_placer_part.J22 N R_spec_placer_down R_spec_placer_across R_spec_placer_part (x19, x20, x22, (ImplBox.mk (ImplBox.left x23) (ImplBox.top x23) (ImplBox.wide x23) (IntKind.i64.wrap (x25 + (IntKind.i64.wrap ((2 : Int) * x24))))), ())))

def spec_placer_part.J12 (N : Nat) (R_spec_placer_down : SpecPlacer → List (ImplTree) → List (Int) → List (Int) → Int → Int → Int → Option (SpecPlacer × Int × Unit)) (R_spec_placer_across : SpecPlacer → List (ImplTree) → List (Int) → List (Int) → Int → Int → Int → Option (SpecPlacer × Int × Unit)) (R_spec_placer_part : SpecPlacer → ImplTree → List (Int) → List (Int) → Int → Int → Int → Option (SpecPlacer × ImplBox × Unit)) : SpecPlacer × (List (Int)) × Int × Int × ImplTree × ImplBox × (List (Int)) × Int × ImplBox × Unit → Option (SpecPlacer × ImplBox × Unit) :=
fun (x9, x10, x11, x12, x13, x14, x15, x16, x17, ()) =>
 gd (decide ((2 : Int) < (((List.length x15) : Nat) : Int))) (
 gd (decide (((List.length ([] : List (Int))) + (List.length x10)) < 68719476736)) (
 gd (decide (((List.length (([] : List (Int)) ++ x10)) + (List.length ([(ImplTree.tag x13)] : List (Int)))) < 68719476736)) (
 gd (decide ((3 : Int) < (((List.length x15) : Nat) : Int))) (
 br (decide ((get x15 (3 : Int)) > (0 : Int))) (
  bnd (R_spec_placer_across x9 (ImplTree.kids x13) ((([] : List (Int)) ++ x10) ++ ([(ImplTree.tag x13)] : List (Int))) x15 (IntKind.i64.wrap (x11 + (get x15 (2 : Int)))) (IntKind.i64.wrap (x12 + (get x15 (2 : Int)))) (cond (decide ((IntKind.i64.wrap ((ImplBox.wide x17) - (IntKind.i64.wrap ((2 : Int) * (get x15 (2 : Int)))))) > (0 : Int))) (IntKind.i64.wrap ((ImplBox.wide x17) - (IntKind.i64.wrap ((2 : Int) * (get x15 (2 : Int)))))) (0 : Int))) fun r18 =>
  spec_placer_part.J19 N R_spec_placer_down R_spec_placer_across R_spec_placer_part ((r18).1, x14, x15, x16, x17, (get x15 (2 : Int)), ((r18).2).1, ())) (
  bnd (R_spec_placer_down x9 (ImplTree.kids x13) ((([] : List (Int)) ++ x10) ++ ([(ImplTree.tag x13)] : List (Int))) x15 (IntKind.i64.wrap (x11 + (get x15 (2 : Int)))) (IntKind.i64.wrap (x12 + (get x15 (2 : Int)))) (cond (decide ((IntKind.i64.wrap ((ImplBox.wide x17) - (IntKind.i64.wrap ((2 : Int) * (get x15 (2 : Int)))))) > (0 : Int))) (IntKind.i64.wrap ((ImplBox.wide x17) - (IntKind.i64.wrap ((2 : Int) * (get x15 (2 : Int)))))) (0 : Int))) fun r30 =>
 spec_placer_part.J19 N R_spec_placer_down R_spec_placer_across R_spec_placer_part ((r30).1, x14, x15, x16, x17, (get x15 (2 : Int)), ((r30).2).1, ()))))))

def spec_placer_part.B (N : Nat) (R_spec_placer_down : SpecPlacer → List (ImplTree) → List (Int) → List (Int) → Int → Int → Int → Option (SpecPlacer × Int × Unit)) (R_spec_placer_across : SpecPlacer → List (ImplTree) → List (Int) → List (Int) → Int → Int → Int → Option (SpecPlacer × Int × Unit)) (R_spec_placer_part : SpecPlacer → ImplTree → List (Int) → List (Int) → Int → Int → Int → Option (SpecPlacer × ImplBox × Unit)) (x0 : SpecPlacer) (x1 : ImplTree) (x2 : List (Int)) (x3 : List (Int)) (x4 : Int) (x5 : Int) (x6 : Int) : Option (SpecPlacer × ImplBox × Unit) :=
 bnd (spec_looksOf N (SpecPlacer.rules x0) (ImplTree.mk (ImplTree.tag x1) (ImplTree.key x1) (ImplTree.text x1) (ImplTree.props x1) (ImplTree.kids x1)) x2 x3) fun r7 =>
 gd (decide (((List.length (SpecPlacer.out x0)) + (List.length ([(ImplBox.mk x4 x5 (0 : Int) (0 : Int))] : List (ImplBox)))) < 68719476736)) (
 br (decide ((ImplTree.tag x1) < (0 : Int))) (
  bnd (spec_textBox N (((List.length (ImplTree.text x1)) : Nat) : Int) x6) fun r8 =>
  gd (decide ((0 : Int) ≤ (((List.length (SpecPlacer.out x0)) : Nat) : Int))) (
  gd (decide ((((List.length (SpecPlacer.out x0)) : Nat) : Int) < (((List.length ((SpecPlacer.out x0) ++ ([(ImplBox.mk x4 x5 (0 : Int) (0 : Int))] : List (ImplBox)))) : Nat) : Int))) (
  some ((SpecPlacer.mk (SpecPlacer.rules x0) (List.set ((SpecPlacer.out x0) ++ ([(ImplBox.mk x4 x5 (0 : Int) (0 : Int))] : List (ImplBox))) (Int.toNat (((List.length (SpecPlacer.out x0)) : Nat) : Int)) (ImplBox.mk x4 x5 (r8).1 ((r8).2).1))), (ImplBox.mk x4 x5 (r8).1 ((r8).2).1), ())))) (
  gd (decide ((0 : Int) < (((List.length (r7).1) : Nat) : Int))) (
 br (decide ((get (r7).1 (0 : Int)) > (0 : Int))) (
  gd (decide ((0 : Int) < (((List.length (r7).1) : Nat) : Int))) (
  spec_placer_part.J12 N R_spec_placer_down R_spec_placer_across R_spec_placer_part ((SpecPlacer.mk (SpecPlacer.rules x0) ((SpecPlacer.out x0) ++ ([(ImplBox.mk x4 x5 (0 : Int) (0 : Int))] : List (ImplBox)))), x2, x4, x5, (ImplTree.mk (ImplTree.tag x1) (ImplTree.key x1) (ImplTree.text x1) (ImplTree.props x1) (ImplTree.kids x1)), (ImplBox.mk (0 : Int) (0 : Int) (0 : Int) (0 : Int)), (r7).1, (((List.length (SpecPlacer.out x0)) : Nat) : Int), (ImplBox.mk x4 x5 (cond (decide ((get (r7).1 (0 : Int)) < x6)) (get (r7).1 (0 : Int)) x6) (0 : Int)), ()))) (
  spec_placer_part.J12 N R_spec_placer_down R_spec_placer_across R_spec_placer_part ((SpecPlacer.mk (SpecPlacer.rules x0) ((SpecPlacer.out x0) ++ ([(ImplBox.mk x4 x5 (0 : Int) (0 : Int))] : List (ImplBox)))), x2, x4, x5, (ImplTree.mk (ImplTree.tag x1) (ImplTree.key x1) (ImplTree.text x1) (ImplTree.props x1) (ImplTree.kids x1)), (ImplBox.mk (0 : Int) (0 : Int) (0 : Int) (0 : Int)), (r7).1, (((List.length (SpecPlacer.out x0)) : Nat) : Int), (ImplBox.mk x4 x5 x6 (0 : Int)), ())))))

mutual
def spec_placer_down.R (N : Nat) : Nat → SpecPlacer → List (ImplTree) → List (Int) → List (Int) → Int → Int → Int → Option (SpecPlacer × Int × Unit)
  | 0, _, _, _, _, _, _, _ => none
  | d + 1, x0, x1, x2, x3, x4, x5, x6 => spec_placer_down.B N (spec_placer_down.R N d) (spec_placer_across.R N d) (spec_placer_part.R N d) (spec_placer_down.L0 N (spec_placer_down.R N d) (spec_placer_across.R N d) (spec_placer_part.R N d) N) x0 x1 x2 x3 x4 x5 x6

def spec_placer_across.R (N : Nat) : Nat → SpecPlacer → List (ImplTree) → List (Int) → List (Int) → Int → Int → Int → Option (SpecPlacer × Int × Unit)
  | 0, _, _, _, _, _, _, _ => none
  | d + 1, x0, x1, x2, x3, x4, x5, x6 => spec_placer_across.B N (spec_placer_down.R N d) (spec_placer_across.R N d) (spec_placer_part.R N d) (spec_placer_across.L0 N (spec_placer_down.R N d) (spec_placer_across.R N d) (spec_placer_part.R N d) N) x0 x1 x2 x3 x4 x5 x6

def spec_placer_part.R (N : Nat) : Nat → SpecPlacer → ImplTree → List (Int) → List (Int) → Int → Int → Int → Option (SpecPlacer × ImplBox × Unit)
  | 0, _, _, _, _, _, _, _ => none
  | d + 1, x0, x1, x2, x3, x4, x5, x6 => spec_placer_part.B N (spec_placer_down.R N d) (spec_placer_across.R N d) (spec_placer_part.R N d) x0 x1 x2 x3 x4 x5 x6

end

def spec_placer_down (N : Nat) (x0 : SpecPlacer) (x1 : List (ImplTree)) (x2 : List (Int)) (x3 : List (Int)) (x4 : Int) (x5 : Int) (x6 : Int) : Option (SpecPlacer × Int × Unit) := spec_placer_down.R N N x0 x1 x2 x3 x4 x5 x6

def spec_placer_across (N : Nat) (x0 : SpecPlacer) (x1 : List (ImplTree)) (x2 : List (Int)) (x3 : List (Int)) (x4 : Int) (x5 : Int) (x6 : Int) : Option (SpecPlacer × Int × Unit) := spec_placer_across.R N N x0 x1 x2 x3 x4 x5 x6

def spec_placer_part (N : Nat) (x0 : SpecPlacer) (x1 : ImplTree) (x2 : List (Int)) (x3 : List (Int)) (x4 : Int) (x5 : Int) (x6 : Int) : Option (SpecPlacer × ImplBox × Unit) := spec_placer_part.R N N x0 x1 x2 x3 x4 x5 x6

def spec_boxes.B (N : Nat) (x0 : ImplTree) (x1 : List (ImplRule)) (x2 : Int) : Option ((List (ImplBox)) × Unit) :=
 bnd (spec_placer_part N (SpecPlacer.mk x1 ([] : List (ImplBox))) (ImplTree.mk (ImplTree.tag x0) (ImplTree.key x0) (ImplTree.text x0) (ImplTree.props x0) (ImplTree.kids x0)) ([] : List (Int)) (List.replicate (Int.toNat (5 : Int)) (0 : Int)) (0 : Int) (0 : Int) x2) fun r3 =>
 some ((SpecPlacer.out (r3).1), ())

def spec_boxes (N : Nat) (x0 : ImplTree) (x1 : List (ImplRule)) (x2 : Int) : Option ((List (ImplBox)) × Unit) := spec_boxes.B N x0 x1 x2

def spec_BoxHigh.B (N : Nat) (x0 : ImplTree) (x1 : List (ImplRule)) (x2 : Int) : Option (Int × Unit) :=
 bnd (spec_validTree N (ImplTree.mk (ImplTree.tag x0) (ImplTree.key x0) (ImplTree.text x0) (ImplTree.props x0) (ImplTree.kids x0))) fun r3 =>
 br (!(r3).1) (
  some ((-(1 : Int)), ())) (
  bnd (spec_validRules N x1) fun r4 =>
 br (!(r4).1) (
  some ((-(1 : Int)), ())) (
  bnd (spec_inRange N x2 (0 : Int) (60 : Int)) fun r5 =>
 br (!(r5).1) (
  some ((-(1 : Int)), ())) (
  bnd (spec_boxes N (ImplTree.mk (ImplTree.tag x0) (ImplTree.key x0) (ImplTree.text x0) (ImplTree.props x0) (ImplTree.kids x0)) x1 x2) fun r6 =>
 gd (decide ((0 : Int) < (((List.length (r6).1) : Nat) : Int))) (
 some ((ImplBox.high (get (r6).1 (0 : Int))), ())))))

def spec_BoxHigh (N : Nat) (x0 : ImplTree) (x1 : List (ImplRule)) (x2 : Int) : Option (Int × Unit) := spec_BoxHigh.B N x0 x1 x2

def impl_word.B0 (N : Nat) (G0 : (List UInt8) × Int × Unit → Option (Bool × Unit)) : (List UInt8) × Int × Unit → Option (Bool × Unit) :=
fun (x1, x2, ()) =>
 br (decide (x2 < (((List.length x1) : Nat) : Int))) (
  gd (decide ((0 : Int) ≤ x2)) (
  gd (decide (x2 < (((List.length x1) : Nat) : Int))) (
  br (decide ((((UInt8.toNat (List.getD x1 (Int.toNat x2) 0)) : Nat) : Int) ≥ (97 : Int))) (
   br (decide ((((UInt8.toNat (List.getD x1 (Int.toNat x2) 0)) : Nat) : Int) ≤ (122 : Int))) (
    G0 (x1, (IntKind.i64.wrap (x2 + (1 : Int))), ())) (
    br (decide ((((UInt8.toNat (List.getD x1 (Int.toNat x2) 0)) : Nat) : Int) ≥ (48 : Int))) (
    br (decide ((((UInt8.toNat (List.getD x1 (Int.toNat x2) 0)) : Nat) : Int) ≤ (57 : Int))) (
     G0 (x1, (IntKind.i64.wrap (x2 + (1 : Int))), ())) (
     br (!((((UInt8.toNat (List.getD x1 (Int.toNat x2) 0)) : Nat) : Int) == (32 : Int))) (
     some (false, ())) (
     G0 (x1, (IntKind.i64.wrap (x2 + (1 : Int))), ())))) (
    br (!((((UInt8.toNat (List.getD x1 (Int.toNat x2) 0)) : Nat) : Int) == (32 : Int))) (
    some (false, ())) (
    G0 (x1, (IntKind.i64.wrap (x2 + (1 : Int))), ()))))) (
   br (decide ((((UInt8.toNat (List.getD x1 (Int.toNat x2) 0)) : Nat) : Int) ≥ (48 : Int))) (
   br (decide ((((UInt8.toNat (List.getD x1 (Int.toNat x2) 0)) : Nat) : Int) ≤ (57 : Int))) (
    G0 (x1, (IntKind.i64.wrap (x2 + (1 : Int))), ())) (
    br (!((((UInt8.toNat (List.getD x1 (Int.toNat x2) 0)) : Nat) : Int) == (32 : Int))) (
    some (false, ())) (
    G0 (x1, (IntKind.i64.wrap (x2 + (1 : Int))), ())))) (
   br (!((((UInt8.toNat (List.getD x1 (Int.toNat x2) 0)) : Nat) : Int) == (32 : Int))) (
   some (false, ())) (
   G0 (x1, (IntKind.i64.wrap (x2 + (1 : Int))), ()))))))) (
  some ((decide ((((List.length x1) : Nat) : Int) ≤ (12 : Int))), ()))

def impl_word.B (N : Nat) (E0 : (List UInt8) × Int × Unit → Option (Bool × Unit)) (x0 : List UInt8) : Option (Bool × Unit) :=
 E0 (x0, (0 : Int), ())

def impl_word.L0 (N : Nat) : Nat → (List UInt8) × Int × Unit → Option (Bool × Unit)
  | 0, _ => none
  | n + 1, x => impl_word.B0 N (impl_word.L0 N n) x

def impl_word (N : Nat) (x0 : List UInt8) : Option (Bool × Unit) := impl_word.B N (impl_word.L0 N N) x0

def impl_within.B (N : Nat) (x0 : Int) (x1 : Int) (x2 : Int) : Option (Bool × Unit) :=
 br (decide (x0 ≥ x1)) (
  some ((decide (x0 ≤ x2)), ())) (
  some (false, ()))

def impl_within (N : Nat) (x0 : Int) (x1 : Int) (x2 : Int) : Option (Bool × Unit) := impl_within.B N x0 x1 x2

def impl_shown.B (N : Nat) (x0 : List UInt8) : Option (Bool × Unit) :=
 bnd (impl_word N x0) fun r1 =>
 br (r1).1 (
  some (true, ())) (
  bnd (LibAtoi N x0) fun r2 =>
 br ((r2).2).1 (
  bnd (impl_within N (r2).1 (-(1000 : Int)) (1000 : Int)) fun r3 =>
  br (r3).1 (
   bnd (LibItoa N (r2).1) fun r4 =>
   some (((r4).1 == x0), ())) (
   some (false, ()))) (
  some (false, ())))

def impl_shown (N : Nat) (x0 : List UInt8) : Option (Bool × Unit) := impl_shown.B N x0

def impl_ValOk.B (N : Nat) (x0 : ImplValue) : Option (Bool × Unit) :=
 br ((ImplValue.kind x0) == (0 : Int)) (
  br ((ImplValue.num x0) == (0 : Int)) (
   some (((ImplValue.text x0) == ([] : List (UInt8))), ())) (
   some (false, ()))) (
  br ((ImplValue.kind x0) == (1 : Int)) (
  bnd (impl_within N (ImplValue.num x0) (-(1000 : Int)) (1000 : Int)) fun r1 =>
  br (r1).1 (
   some (((ImplValue.text x0) == ([] : List (UInt8))), ())) (
   some (false, ()))) (
  br ((ImplValue.kind x0) == (2 : Int)) (
  br ((ImplValue.num x0) == (0 : Int)) (
   bnd (impl_word N (ImplValue.text x0)) fun r2 =>
   some ((r2).1, ())) (
   some (false, ()))) (
  some (false, ()))))

def impl_ValOk (N : Nat) (x0 : ImplValue) : Option (Bool × Unit) := impl_ValOk.B N x0

def impl_treeFits.B2 (N : Nat) (R_impl_treeFits : ImplTree → Int → Int → Option (Int × Bool × Unit)) (G2 : Int × Int × (List (Int)) × (List (ImplTree)) × Int × Int × Unit → Option (Int × Bool × Unit)) : Int × Int × (List (Int)) × (List (ImplTree)) × Int × Int × Unit → Option (Int × Bool × Unit) :=
fun (x16, x17, x18, x19, x20, x21, ()) =>
 br (decide (x21 < x20)) (
  gd (decide ((0 : Int) ≤ x21)) (
  gd (decide (x21 < (((List.length x19) : Nat) : Int))) (
  br ((ImplTree.key (get x19 x21)) != (-(1 : Int))) (
   br (mapHas x18 (ImplTree.key (get x19 x21))) (
    some (x17, false, ())) (
    bnd (R_impl_treeFits (ImplTree.mk (ImplTree.tag (get x19 x21)) (ImplTree.key (get x19 x21)) (ImplTree.text (get x19 x21)) (ImplTree.props (get x19 x21)) (ImplTree.kids (get x19 x21))) (IntKind.i64.wrap (x16 + (1 : Int))) x17) fun r23 =>
   br (!((r23).2).1) (
    some ((r23).1, false, ())) (
    G2 (x16, (r23).1, (mapPut x18 (ImplTree.key (get x19 x21))), x19, x20, (IntKind.i64.wrap (x21 + (1 : Int))), ())))) (
   bnd (R_impl_treeFits (ImplTree.mk (ImplTree.tag (get x19 x21)) (ImplTree.key (get x19 x21)) (ImplTree.text (get x19 x21)) (ImplTree.props (get x19 x21)) (ImplTree.kids (get x19 x21))) (IntKind.i64.wrap (x16 + (1 : Int))) x17) fun r24 =>
  br (!((r24).2).1) (
   some ((r24).1, false, ())) (
   G2 (x16, (r24).1, (mapPut x18 (ImplTree.key (get x19 x21))), x19, x20, (IntKind.i64.wrap (x21 + (1 : Int))), ())))))) (
  some (x17, true, ()))

def impl_treeFits.B0 (N : Nat) (R_impl_treeFits : ImplTree → Int → Int → Option (Int × Bool × Unit)) (G0 : Int × Int × ImplTree × (List (ImplProp)) × Int × Int × Unit → Option (Int × Bool × Unit)) (E2 : Int × Int × (List (Int)) × (List (ImplTree)) × Int × Int × Unit → Option (Int × Bool × Unit)) : Int × Int × ImplTree × (List (ImplProp)) × Int × Int × Unit → Option (Int × Bool × Unit) :=
fun (x6, x7, x8, x9, x10, x11, ()) =>
 br (decide (x11 < x10)) (
  gd (decide ((0 : Int) ≤ x11)) (
  gd (decide (x11 < (((List.length x9) : Nat) : Int))) (
  bnd (impl_within N (ImplProp.name (get x9 x11)) (0 : Int) (3 : Int)) fun r13 =>
  br (!(r13).1) (
   some (x7, false, ())) (
   br (decide (x11 > (0 : Int))) (
   gd (decide ((0 : Int) ≤ (IntKind.i64.wrap (x11 - (1 : Int))))) (
   gd (decide ((IntKind.i64.wrap (x11 - (1 : Int))) < (((List.length (ImplTree.props x8)) : Nat) : Int))) (
   br (decide ((ImplProp.name (get x9 x11)) ≤ (ImplProp.name (get (ImplTree.props x8) (IntKind.i64.wrap (x11 - (1 : Int))))))) (
    some (x7, false, ())) (
    bnd (impl_ValOk N (ImplValue.mk (ImplProp.val_Kind (get x9 x11)) (ImplProp.val_Num (get x9 x11)) (ImplProp.val_Text (get x9 x11)))) fun r14 =>
   br (!(r14).1) (
    some (x7, false, ())) (
    G0 (x6, x7, (ImplTree.mk (ImplTree.tag x8) (ImplTree.key x8) (ImplTree.text x8) (ImplTree.props x8) (ImplTree.kids x8)), x9, x10, (IntKind.i64.wrap (x11 + (1 : Int))), ())))))) (
   bnd (impl_ValOk N (ImplValue.mk (ImplProp.val_Kind (get x9 x11)) (ImplProp.val_Num (get x9 x11)) (ImplProp.val_Text (get x9 x11)))) fun r15 =>
  br (!(r15).1) (
   some (x7, false, ())) (
   G0 (x6, x7, (ImplTree.mk (ImplTree.tag x8) (ImplTree.key x8) (ImplTree.text x8) (ImplTree.props x8) (ImplTree.kids x8)), x9, x10, (IntKind.i64.wrap (x11 + (1 : Int))), ()))))))) (
  E2 (x6, x7, ([] : List (Int)), (ImplTree.kids x8), (((List.length (ImplTree.kids x8)) : Nat) : Int), (0 : Int), ()))

def impl_treeFits.B (N : Nat) (R_impl_treeFits : ImplTree → Int → Int → Option (Int × Bool × Unit)) (E0 : Int × Int × ImplTree × (List (ImplProp)) × Int × Int × Unit → Option (Int × Bool × Unit)) (x0 : ImplTree) (x1 : Int) (x2 : Int) : Option (Int × Bool × Unit) :=
 br (decide (x1 > (24 : Int))) (
  some ((IntKind.i64.wrap (x2 - (1 : Int))), false, ())) (
  br (decide ((IntKind.i64.wrap (x2 - (1 : Int))) < (0 : Int))) (
  some ((IntKind.i64.wrap (x2 - (1 : Int))), false, ())) (
  br ((ImplTree.tag x0) == (-(1 : Int))) (
  br ((ImplTree.key x0) == (-(1 : Int))) (
   bnd (impl_shown N (ImplTree.text x0)) fun r3 =>
   br (r3).1 (
    br ((((List.length (ImplTree.props x0)) : Nat) : Int) == (0 : Int)) (
     some ((IntKind.i64.wrap (x2 - (1 : Int))), ((((List.length (ImplTree.kids x0)) : Nat) : Int) == (0 : Int)), ())) (
     some ((IntKind.i64.wrap (x2 - (1 : Int))), false, ()))) (
    some ((IntKind.i64.wrap (x2 - (1 : Int))), false, ()))) (
   some ((IntKind.i64.wrap (x2 - (1 : Int))), false, ()))) (
  bnd (impl_within N (ImplTree.tag x0) (0 : Int) (4 : Int)) fun r4 =>
 br (!(r4).1) (
  some ((IntKind.i64.wrap (x2 - (1 : Int))), false, ())) (
  bnd (impl_within N (ImplTree.key x0) (-(1 : Int)) (99 : Int)) fun r5 =>
 br (!(r5).1) (
  some ((IntKind.i64.wrap (x2 - (1 : Int))), false, ())) (
  br (!((ImplTree.text x0) == ([] : List (UInt8)))) (
  some ((IntKind.i64.wrap (x2 - (1 : Int))), false, ())) (
  E0 (x1, (IntKind.i64.wrap (x2 - (1 : Int))), (ImplTree.mk (ImplTree.tag x0) (ImplTree.key x0) (ImplTree.text x0) (ImplTree.props x0) (ImplTree.kids x0)), (ImplTree.props x0), (((List.length (ImplTree.props x0)) : Nat) : Int), (0 : Int), ())))))))

def impl_treeFits.L2 (N : Nat) (R_impl_treeFits : ImplTree → Int → Int → Option (Int × Bool × Unit)) : Nat → Int × Int × (List (Int)) × (List (ImplTree)) × Int × Int × Unit → Option (Int × Bool × Unit)
  | 0, _ => none
  | n + 1, x => impl_treeFits.B2 N R_impl_treeFits (impl_treeFits.L2 N R_impl_treeFits n) x

def impl_treeFits.L0 (N : Nat) (R_impl_treeFits : ImplTree → Int → Int → Option (Int × Bool × Unit)) : Nat → Int × Int × ImplTree × (List (ImplProp)) × Int × Int × Unit → Option (Int × Bool × Unit)
  | 0, _ => none
  | n + 1, x => impl_treeFits.B0 N R_impl_treeFits (impl_treeFits.L0 N R_impl_treeFits n) (impl_treeFits.L2 N R_impl_treeFits N) x

def impl_treeFits.R (N : Nat) : Nat → ImplTree → Int → Int → Option (Int × Bool × Unit)
  | 0, _, _, _ => none
  | d + 1, x0, x1, x2 => impl_treeFits.B N (impl_treeFits.R N d) (impl_treeFits.L0 N (impl_treeFits.R N d) N) x0 x1 x2

def impl_treeFits (N : Nat) (x0 : ImplTree) (x1 : Int) (x2 : Int) : Option (Int × Bool × Unit) := impl_treeFits.R N N x0 x1 x2

def impl_TreeOk.B (N : Nat) (x0 : ImplTree) : Option (Bool × Unit) :=
 bnd (impl_treeFits N (ImplTree.mk (ImplTree.tag x0) (ImplTree.key x0) (ImplTree.text x0) (ImplTree.props x0) (ImplTree.kids x0)) (1 : Int) (200 : Int)) fun r1 =>
 some (((r1).2).1, ())

def impl_TreeOk (N : Nat) (x0 : ImplTree) : Option (Bool × Unit) := impl_TreeOk.B N x0

def impl_RulesOk.B0 (N : Nat) (G0 : (List (ImplRule)) × (List (ImplRule)) × Int × Int × Unit → Option (Bool × Unit)) : (List (ImplRule)) × (List (ImplRule)) × Int × Int × Unit → Option (Bool × Unit) :=
fun (x1, x2, x3, x4, ()) =>
 br (decide (x4 < x3)) (
  gd (decide ((0 : Int) ≤ x4)) (
  gd (decide (x4 < (((List.length x2) : Nat) : Int))) (
  bnd (impl_within N (ImplRule.tag (get x2 x4)) (-(1 : Int)) (4 : Int)) fun r6 =>
  br (!(r6).1) (
   some (false, ())) (
   bnd (impl_within N (ImplRule.above (get x2 x4)) (-(1 : Int)) (4 : Int)) fun r7 =>
  br (!(r7).1) (
   some (false, ())) (
   bnd (impl_within N (ImplRule.name (get x2 x4)) (-(1 : Int)) (3 : Int)) fun r8 =>
  br (!(r8).1) (
   some (false, ())) (
   bnd (impl_within N (ImplRule.look (get x2 x4)) (0 : Int) (4 : Int)) fun r9 =>
  br (!(r9).1) (
   some (false, ())) (
   bnd (impl_within N (ImplRule.give (get x2 x4)) (0 : Int) (60 : Int)) fun r10 =>
  br (!(r10).1) (
   some (false, ())) (
   br ((ImplRule.name (get x2 x4)) == (-(1 : Int))) (
   br (!(((ImplRule.val_Kind (get x2 x4)) == (0 : Int)) && (((ImplRule.val_Num (get x2 x4)) == (0 : Int)) && ((ImplRule.val_Text (get x2 x4)) == ([] : List (UInt8)))))) (
    some (false, ())) (
    bnd (impl_ValOk N (ImplValue.mk (ImplRule.val_Kind (get x2 x4)) (ImplRule.val_Num (get x2 x4)) (ImplRule.val_Text (get x2 x4)))) fun r11 =>
   br (!(r11).1) (
    some (false, ())) (
    G0 (x1, x2, x3, (IntKind.i64.wrap (x4 + (1 : Int))), ())))) (
   bnd (impl_ValOk N (ImplValue.mk (ImplRule.val_Kind (get x2 x4)) (ImplRule.val_Num (get x2 x4)) (ImplRule.val_Text (get x2 x4)))) fun r12 =>
  br (!(r12).1) (
   some (false, ())) (
   G0 (x1, x2, x3, (IntKind.i64.wrap (x4 + (1 : Int))), ()))))))))))) (
  some ((decide ((((List.length x1) : Nat) : Int) ≤ (12 : Int))), ()))

def impl_RulesOk.B (N : Nat) (E0 : (List (ImplRule)) × (List (ImplRule)) × Int × Int × Unit → Option (Bool × Unit)) (x0 : List (ImplRule)) : Option (Bool × Unit) :=
 E0 (x0, x0, (((List.length x0) : Nat) : Int), (0 : Int), ())

def impl_RulesOk.L0 (N : Nat) : Nat → (List (ImplRule)) × (List (ImplRule)) × Int × Int × Unit → Option (Bool × Unit)
  | 0, _ => none
  | n + 1, x => impl_RulesOk.B0 N (impl_RulesOk.L0 N n) x

def impl_RulesOk (N : Nat) (x0 : List (ImplRule)) : Option (Bool × Unit) := impl_RulesOk.B N (impl_RulesOk.L0 N N) x0

def impl_weight.J6 (N : Nat) : ImplRule × Int × Unit → Option (Int × Unit) :=
fun (x3, x4, ()) =>
 br ((ImplRule.name x3) != (-(1 : Int))) (
  some ((IntKind.i64.wrap (x4 + (10 : Int))), ())) (
  some (x4, ()))

def impl_weight.J4 (N : Nat) : ImplRule × Int × Unit → Option (Int × Unit) :=
fun (x1, x2, ()) =>
 br ((ImplRule.above x1) != (-(1 : Int))) (
  impl_weight.J6 N (x1, (IntKind.i64.wrap (x2 + (1 : Int))), ())) (
  impl_weight.J6 N (x1, x2, ()))

def impl_weight.B (N : Nat) (x0 : ImplRule) : Option (Int × Unit) :=
 br ((ImplRule.tag x0) != (-(1 : Int))) (
  impl_weight.J4 N (x0, (IntKind.i64.wrap ((0 : Int) + (1 : Int))), ())) (
  impl_weight.J4 N (x0, (0 : Int), ()))

def impl_weight (N : Nat) (x0 : ImplRule) : Option (Int × Unit) := impl_weight.B N x0

def impl_meets.B2 (N : Nat) (G2 : ImplRule × (List (ImplProp)) × Int × Int × Unit → Option (Bool × Unit)) : ImplRule × (List (ImplProp)) × Int × Int × Unit → Option (Bool × Unit) :=
fun (x12, x13, x14, x15, ()) =>
 br (decide (x15 < x14)) (
  gd (decide ((0 : Int) ≤ x15)) (
  gd (decide (x15 < (((List.length x13) : Nat) : Int))) (
  br ((ImplProp.name (get x13 x15)) == (ImplRule.name x12)) (
   br (((ImplProp.val_Kind (get x13 x15)) == (ImplRule.val_Kind x12)) && (((ImplProp.val_Num (get x13 x15)) == (ImplRule.val_Num x12)) && ((ImplProp.val_Text (get x13 x15)) == (ImplRule.val_Text x12)))) (
    some (true, ())) (
    G2 (x12, x13, x14, (IntKind.i64.wrap (x15 + (1 : Int))), ()))) (
   G2 (x12, x13, x14, (IntKind.i64.wrap (x15 + (1 : Int))), ()))))) (
  some (false, ()))

def impl_meets.J12 (N : Nat) (E2 : ImplRule × (List (ImplProp)) × Int × Int × Unit → Option (Bool × Unit)) : ImplRule × ImplTree × Unit → Option (Bool × Unit) :=
fun (x10, x11, ()) =>
 br ((ImplRule.name x10) == (-(1 : Int))) (
  some (true, ())) (
  E2 (x10, (ImplTree.props x11), (((List.length (ImplTree.props x11)) : Nat) : Int), (0 : Int), ()))

def impl_meets.B0 (N : Nat) (G0 : ImplRule × ImplTree × Bool × (List (Int)) × Int × Int × Unit → Option (Bool × Unit)) (E2 : ImplRule × (List (ImplProp)) × Int × Int × Unit → Option (Bool × Unit)) : ImplRule × ImplTree × Bool × (List (Int)) × Int × Int × Unit → Option (Bool × Unit) :=
fun (x3, x4, x5, x6, x7, x8, ()) =>
 br (decide (x8 < x7)) (
  gd (decide ((0 : Int) ≤ x8)) (
  gd (decide (x8 < (((List.length x6) : Nat) : Int))) (
  br x5 (
   G0 (x3, (ImplTree.mk (ImplTree.tag x4) (ImplTree.key x4) (ImplTree.text x4) (ImplTree.props x4) (ImplTree.kids x4)), true, x6, x7, (IntKind.i64.wrap (x8 + (1 : Int))), ())) (
   G0 (x3, (ImplTree.mk (ImplTree.tag x4) (ImplTree.key x4) (ImplTree.text x4) (ImplTree.props x4) (ImplTree.kids x4)), ((get x6 x8) == (ImplRule.above x3)), x6, x7, (IntKind.i64.wrap (x8 + (1 : Int))), ()))))) (
  br (!x5) (
  some (false, ())) (
  impl_meets.J12 N E2 (x3, (ImplTree.mk (ImplTree.tag x4) (ImplTree.key x4) (ImplTree.text x4) (ImplTree.props x4) (ImplTree.kids x4)), ())))

def impl_meets.B (N : Nat) (E0 : ImplRule × ImplTree × Bool × (List (Int)) × Int × Int × Unit → Option (Bool × Unit)) (E2 : ImplRule × (List (ImplProp)) × Int × Int × Unit → Option (Bool × Unit)) (x0 : ImplRule) (x1 : ImplTree) (x2 : List (Int)) : Option (Bool × Unit) :=
 br ((ImplRule.tag x0) != (-(1 : Int))) (
  br ((ImplRule.tag x0) != (ImplTree.tag x1)) (
   some (false, ())) (
   br ((ImplRule.above x0) != (-(1 : Int))) (
   E0 (x0, (ImplTree.mk (ImplTree.tag x1) (ImplTree.key x1) (ImplTree.text x1) (ImplTree.props x1) (ImplTree.kids x1)), false, x2, (((List.length x2) : Nat) : Int), (0 : Int), ())) (
   impl_meets.J12 N E2 (x0, (ImplTree.mk (ImplTree.tag x1) (ImplTree.key x1) (ImplTree.text x1) (ImplTree.props x1) (ImplTree.kids x1)), ())))) (
  br ((ImplRule.above x0) != (-(1 : Int))) (
  E0 (x0, (ImplTree.mk (ImplTree.tag x1) (ImplTree.key x1) (ImplTree.text x1) (ImplTree.props x1) (ImplTree.kids x1)), false, x2, (((List.length x2) : Nat) : Int), (0 : Int), ())) (
  impl_meets.J12 N E2 (x0, (ImplTree.mk (ImplTree.tag x1) (ImplTree.key x1) (ImplTree.text x1) (ImplTree.props x1) (ImplTree.kids x1)), ())))

def impl_meets.L2 (N : Nat) : Nat → ImplRule × (List (ImplProp)) × Int × Int × Unit → Option (Bool × Unit)
  | 0, _ => none
  | n + 1, x => impl_meets.B2 N (impl_meets.L2 N n) x

def impl_meets.L0 (N : Nat) : Nat → ImplRule × ImplTree × Bool × (List (Int)) × Int × Int × Unit → Option (Bool × Unit)
  | 0, _ => none
  | n + 1, x => impl_meets.B0 N (impl_meets.L0 N n) (impl_meets.L2 N N) x

def impl_meets (N : Nat) (x0 : ImplRule) (x1 : ImplTree) (x2 : List (Int)) : Option (Bool × Unit) := impl_meets.B N (impl_meets.L0 N N) (impl_meets.L2 N N) x0 x1 x2

def impl_looks.B2 (N : Nat) (R_impl_looks : ImplTree → List (ImplRule) → List (Int) → Int → Option ((List (List (Int))) × Unit)) (G0 : (List (Int)) × (List (ImplRule)) × (List (Int)) × ImplTree × Int × Unit → Option ((List (List (Int))) × Unit)) (G2 : (List (Int)) × (List (ImplRule)) × (List (Int)) × ImplTree × Int × Int × Int × (List (ImplRule)) × Int × Int × Unit → Option ((List (List (Int))) × Unit)) : (List (Int)) × (List (ImplRule)) × (List (Int)) × ImplTree × Int × Int × Int × (List (ImplRule)) × Int × Int × Unit → Option ((List (List (Int))) × Unit) :=
fun (x10, x11, x12, x13, x14, x15, x16, x17, x18, x19, ()) =>
 br (decide (x19 < x18)) (
  gd (decide ((0 : Int) ≤ x19)) (
  gd (decide (x19 < (((List.length x17) : Nat) : Int))) (
  br ((ImplRule.look (get x17 x19)) == x14) (
   bnd (impl_weight N (get x17 x19)) fun r21 =>
   br (decide ((r21).1 ≥ x15)) (
    bnd (impl_meets N (get x17 x19) (ImplTree.mk (ImplTree.tag x13) (ImplTree.key x13) (ImplTree.text x13) (ImplTree.props x13) (ImplTree.kids x13)) x12) fun r22 =>
    br (r22).1 (
     bnd (impl_weight N (get x17 x19)) fun r23 =>
     gd (decide ((0 : Int) ≤ x14)) (
     gd (decide (x14 < (((List.length x10) : Nat) : Int))) (
     G2 ((List.set x10 (Int.toNat x14) (ImplRule.give (get x17 x19))), x11, x12, (ImplTree.mk (ImplTree.tag x13) (ImplTree.key x13) (ImplTree.text x13) (ImplTree.props x13) (ImplTree.kids x13)), x14, (r23).1, x16, x17, x18, (IntKind.i64.wrap (x19 + (1 : Int))), ())))) (
     G2 (x10, x11, x12, (ImplTree.mk (ImplTree.tag x13) (ImplTree.key x13) (ImplTree.text x13) (ImplTree.props x13) (ImplTree.kids x13)), x14, x15, x16, x17, x18, (IntKind.i64.wrap (x19 + (1 : Int))), ()))) (
    G2 (x10, x11, x12, (ImplTree.mk (ImplTree.tag x13) (ImplTree.key x13) (ImplTree.text x13) (ImplTree.props x13) (ImplTree.kids x13)), x14, x15, x16, x17, x18, (IntKind.i64.wrap (x19 + (1 : Int))), ()))) (
   G2 (x10, x11, x12, (ImplTree.mk (ImplTree.tag x13) (ImplTree.key x13) (ImplTree.text x13) (ImplTree.props x13) (ImplTree.kids x13)), x14, x15, x16, x17, x18, (IntKind.i64.wrap (x19 + (1 : Int))), ()))))) (
  G0 (x10, x11, x12, (ImplTree.mk (ImplTree.tag x13) (ImplTree.key x13) (ImplTree.text x13) (ImplTree.props x13) (ImplTree.kids x13)), (IntKind.i64.wrap (x16 + (1 : Int))), ()))

def impl_looks.B4 (N : Nat) (R_impl_looks : ImplTree → List (ImplRule) → List (Int) → Int → Option ((List (List (Int))) × Unit)) (G4 : (List (List (Int))) × (List (ImplRule)) × (List (Int)) × (List (Int)) × (List (ImplTree)) × Int × Int × Unit → Option ((List (List (Int))) × Unit)) : (List (List (Int))) × (List (ImplRule)) × (List (Int)) × (List (Int)) × (List (ImplTree)) × Int × Int × Unit → Option ((List (List (Int))) × Unit) :=
fun (x24, x25, x26, x27, x28, x29, x30, ()) =>
 br (decide (x30 < x29)) (
  gd (decide ((0 : Int) ≤ x30)) (
  gd (decide (x30 < (((List.length x28) : Nat) : Int))) (
  gd (decide ((4 : Int) < (((List.length x26) : Nat) : Int))) (
  bnd (R_impl_looks (ImplTree.mk (ImplTree.tag (get x28 x30)) (ImplTree.key (get x28 x30)) (ImplTree.text (get x28 x30)) (ImplTree.props (get x28 x30)) (ImplTree.kids (get x28 x30))) x25 x27 (get x26 (4 : Int))) fun r32 =>
  gd (decide (((List.length x24) + (List.length (r32).1)) < 68719476736)) (
  G4 ((x24 ++ (r32).1), x25, x26, x27, x28, x29, (IntKind.i64.wrap (x30 + (1 : Int))), ())))))) (
  some (x24, ()))

def impl_looks.B0 (N : Nat) (R_impl_looks : ImplTree → List (ImplRule) → List (Int) → Int → Option ((List (List (Int))) × Unit)) (E2 : (List (Int)) × (List (ImplRule)) × (List (Int)) × ImplTree × Int × Int × Int × (List (ImplRule)) × Int × Int × Unit → Option ((List (List (Int))) × Unit)) (E4 : (List (List (Int))) × (List (ImplRule)) × (List (Int)) × (List (Int)) × (List (ImplTree)) × Int × Int × Unit → Option ((List (List (Int))) × Unit)) : (List (Int)) × (List (ImplRule)) × (List (Int)) × ImplTree × Int × Unit → Option ((List (List (Int))) × Unit) :=
fun (x4, x5, x6, x7, x8, ()) =>
 br (decide (x8 < (5 : Int))) (
  E2 (x4, x5, x6, (ImplTree.mk (ImplTree.tag x7) (ImplTree.key x7) (ImplTree.text x7) (ImplTree.props x7) (ImplTree.kids x7)), x8, (-(1 : Int)), x8, x5, (((List.length x5) : Nat) : Int), (0 : Int), ())) (
  gd (decide (((List.length ([] : List (Int))) + (List.length x6)) < 68719476736)) (
 gd (decide (((List.length (([] : List (Int)) ++ x6)) + (List.length ([(ImplTree.tag x7)] : List (Int)))) < 68719476736)) (
 E4 (([x4] : List (List (Int))), x5, x4, ((([] : List (Int)) ++ x6) ++ ([(ImplTree.tag x7)] : List (Int))), (ImplTree.kids x7), (((List.length (ImplTree.kids x7)) : Nat) : Int), (0 : Int), ()))))

def impl_looks.B (N : Nat) (R_impl_looks : ImplTree → List (ImplRule) → List (Int) → Int → Option ((List (List (Int))) × Unit)) (E0 : (List (Int)) × (List (ImplRule)) × (List (Int)) × ImplTree × Int × Unit → Option ((List (List (Int))) × Unit)) (x0 : ImplTree) (x1 : List (ImplRule)) (x2 : List (Int)) (x3 : Int) : Option ((List (List (Int))) × Unit) :=
 br ((ImplTree.tag x0) == (-(1 : Int))) (
  some (([(List.set (List.replicate (Int.toNat (5 : Int)) (0 : Int)) (Int.toNat (4 : Int)) x3)] : List (List (Int))), ())) (
  E0 ((List.set (List.replicate (Int.toNat (5 : Int)) (0 : Int)) (Int.toNat (4 : Int)) x3), x1, x2, (ImplTree.mk (ImplTree.tag x0) (ImplTree.key x0) (ImplTree.text x0) (ImplTree.props x0) (ImplTree.kids x0)), (0 : Int), ()))

def impl_looks.L2 (N : Nat) (R_impl_looks : ImplTree → List (ImplRule) → List (Int) → Int → Option ((List (List (Int))) × Unit)) (G0 : (List (Int)) × (List (ImplRule)) × (List (Int)) × ImplTree × Int × Unit → Option ((List (List (Int))) × Unit)) : Nat → (List (Int)) × (List (ImplRule)) × (List (Int)) × ImplTree × Int × Int × Int × (List (ImplRule)) × Int × Int × Unit → Option ((List (List (Int))) × Unit)
  | 0, _ => none
  | n + 1, x => impl_looks.B2 N R_impl_looks G0 (impl_looks.L2 N R_impl_looks G0 n) x

def impl_looks.L4 (N : Nat) (R_impl_looks : ImplTree → List (ImplRule) → List (Int) → Int → Option ((List (List (Int))) × Unit)) : Nat → (List (List (Int))) × (List (ImplRule)) × (List (Int)) × (List (Int)) × (List (ImplTree)) × Int × Int × Unit → Option ((List (List (Int))) × Unit)
  | 0, _ => none
  | n + 1, x => impl_looks.B4 N R_impl_looks (impl_looks.L4 N R_impl_looks n) x

def impl_looks.L0 (N : Nat) (R_impl_looks : ImplTree → List (ImplRule) → List (Int) → Int → Option ((List (List (Int))) × Unit)) : Nat → (List (Int)) × (List (ImplRule)) × (List (Int)) × ImplTree × Int × Unit → Option ((List (List (Int))) × Unit)
  | 0, _ => none
  | n + 1, x => impl_looks.B0 N R_impl_looks (impl_looks.L2 N R_impl_looks (impl_looks.L0 N R_impl_looks n) N) (impl_looks.L4 N R_impl_looks N) x

def impl_looks.R (N : Nat) : Nat → ImplTree → List (ImplRule) → List (Int) → Int → Option ((List (List (Int))) × Unit)
  | 0, _, _, _, _ => none
  | d + 1, x0, x1, x2, x3 => impl_looks.B N (impl_looks.R N d) (impl_looks.L0 N (impl_looks.R N d) N) x0 x1 x2 x3

def impl_looks (N : Nat) (x0 : ImplTree) (x1 : List (ImplRule)) (x2 : List (Int)) (x3 : Int) : Option ((List (List (Int))) × Unit) := impl_looks.R N N x0 x1 x2 x3

def impl_treeCount.B0 (N : Nat) (R_impl_treeCount : ImplTree → Option (Int × Unit)) (G0 : Int × (List (ImplTree)) × Int × Int × Unit → Option (Int × Unit)) : Int × (List (ImplTree)) × Int × Int × Unit → Option (Int × Unit) :=
fun (x1, x2, x3, x4, ()) =>
 br (decide (x4 < x3)) (
  gd (decide ((0 : Int) ≤ x4)) (
  gd (decide (x4 < (((List.length x2) : Nat) : Int))) (
  bnd (R_impl_treeCount (ImplTree.mk (ImplTree.tag (get x2 x4)) (ImplTree.key (get x2 x4)) (ImplTree.text (get x2 x4)) (ImplTree.props (get x2 x4)) (ImplTree.kids (get x2 x4)))) fun r6 =>
  G0 ((IntKind.i64.wrap (x1 + (r6).1)), x2, x3, (IntKind.i64.wrap (x4 + (1 : Int))), ())))) (
  some (x1, ()))

def impl_treeCount.B (N : Nat) (R_impl_treeCount : ImplTree → Option (Int × Unit)) (E0 : Int × (List (ImplTree)) × Int × Int × Unit → Option (Int × Unit)) (x0 : ImplTree) : Option (Int × Unit) :=
 E0 ((1 : Int), (ImplTree.kids x0), (((List.length (ImplTree.kids x0)) : Nat) : Int), (0 : Int), ())

def impl_treeCount.L0 (N : Nat) (R_impl_treeCount : ImplTree → Option (Int × Unit)) : Nat → Int × (List (ImplTree)) × Int × Int × Unit → Option (Int × Unit)
  | 0, _ => none
  | n + 1, x => impl_treeCount.B0 N R_impl_treeCount (impl_treeCount.L0 N R_impl_treeCount n) x

def impl_treeCount.R (N : Nat) : Nat → ImplTree → Option (Int × Unit)
  | 0, _ => none
  | d + 1, x0 => impl_treeCount.B N (impl_treeCount.R N d) (impl_treeCount.L0 N (impl_treeCount.R N d) N) x0

def impl_treeCount (N : Nat) (x0 : ImplTree) : Option (Int × Unit) := impl_treeCount.R N N x0

def impl_boxer_lay.J10 (N : Nat) (R_impl_boxer_lay : ImplBoxer → ImplTree → Int → Int → Int → Option (ImplBoxer × ImplBox × Unit)) : ImplBoxer × ImplBox × Int × ImplBox × Unit → Option (ImplBoxer × ImplBox × Unit) :=
fun (x5, x6, x7, x8, ()) =>
 gd (decide ((0 : Int) ≤ x7)) (
 gd (decide (x7 < (((List.length (ImplBoxer.out x5)) : Nat) : Int))) (
 some ((ImplBoxer.mk (ImplBoxer.looks x5) (ImplBoxer.at_ x5) (List.set (ImplBoxer.out x5) (Int.toNat x7) x8)), x8, ())))

def impl_boxer_lay.J53 (N : Nat) (R_impl_boxer_lay : ImplBoxer → ImplTree → Int → Int → Int → Option (ImplBoxer × ImplBox × Unit)) : ImplBoxer × ImplBox × Int × ImplBox × Unit → Option (ImplBoxer × ImplBox × Unit) :=
fun (x39, x40, x41, x42, ()) =>
 gd (decide ((0 : Int) ≤ x41)) (
 gd (decide (x41 < (((List.length (ImplBoxer.out x39)) : Nat) : Int))) (
 some ((ImplBoxer.mk (ImplBoxer.looks x39) (ImplBoxer.at_ x39) (List.set (ImplBoxer.out x39) (Int.toNat x41) x42)), x42, ())))

def impl_boxer_lay.J50 (N : Nat) (R_impl_boxer_lay : ImplBoxer → ImplTree → Int → Int → Int → Option (ImplBoxer × ImplBox × Unit)) : ImplBoxer × ImplBox × (List (Int)) × Int × ImplBox × Int × Int × Unit → Option (ImplBoxer × ImplBox × Unit) :=
fun (x32, x33, x34, x35, x36, x37, x38, ()) =>
 gd (decide ((1 : Int) < (((List.length x34) : Nat) : Int))) (
 br ((get x34 (1 : Int)) != (0 : Int)) (
  gd (decide ((1 : Int) < (((List.length x34) : Nat) : Int))) (
  impl_boxer_lay.J53 N R_impl_boxer_lay (x32, x33, x35, (ImplBox.mk (ImplBox.left x36) (ImplBox.top x36) (ImplBox.wide x36) (get x34 (1 : Int))), ()))) (
  impl_boxer_lay.J53 N R_impl_boxer_lay (x32, x33, x35, (ImplBox.mk (ImplBox.left x36) (ImplBox.top x36) (ImplBox.wide x36) (IntKind.i64.wrap (x38 + (IntKind.i64.wrap ((2 : Int) * x37))))), ())))

def impl_boxer_lay.B0 (N : Nat) (R_impl_boxer_lay : ImplBoxer → ImplTree → Int → Int → Int → Option (ImplBoxer × ImplBox × Unit)) (G0 : ImplBoxer × Int × Int × ImplBox × (List (Int)) × Int × ImplBox × Int × Int × Int × (List (ImplTree)) × Int × Int × Unit → Option (ImplBoxer × ImplBox × Unit)) : ImplBoxer × Int × Int × ImplBox × (List (Int)) × Int × ImplBox × Int × Int × Int × (List (ImplTree)) × Int × Int × Unit → Option (ImplBoxer × ImplBox × Unit) :=
fun (x17, x18, x19, x20, x21, x22, x23, x24, x25, x26, x27, x28, x29, ()) =>
 br (decide (x29 < x28)) (
  gd (decide ((0 : Int) ≤ x29)) (
  gd (decide (x29 < (((List.length x27) : Nat) : Int))) (
  bnd (R_impl_boxer_lay x17 (ImplTree.mk (ImplTree.tag (get x27 x29)) (ImplTree.key (get x27 x29)) (ImplTree.text (get x27 x29)) (ImplTree.props (get x27 x29)) (ImplTree.kids (get x27 x29))) (IntKind.i64.wrap (x18 + x24)) (IntKind.i64.wrap ((IntKind.i64.wrap (x19 + x24)) + x26)) x25) fun r31 =>
  G0 ((r31).1, x18, x19, x20, x21, x22, x23, x24, x25, (IntKind.i64.wrap (x26 + (ImplBox.high ((r31).2).1))), x27, x28, (IntKind.i64.wrap (x29 + (1 : Int))), ())))) (
  impl_boxer_lay.J50 N R_impl_boxer_lay (x17, x20, x21, x22, x23, x24, x26, ()))

def impl_boxer_lay.J37 (N : Nat) (R_impl_boxer_lay : ImplBoxer → ImplTree → Int → Int → Int → Option (ImplBoxer × ImplBox × Unit)) (G2 : ImplBoxer × Int × Int × ImplTree × ImplBox × (List (Int)) × Int × ImplBox × Int × Int × Int × (List (Int)) × Int × Int × (List (ImplTree)) × Int × Int × Unit → Option (ImplBoxer × ImplBox × Unit)) : ImplBoxer × Int × Int × ImplTree × ImplBox × (List (Int)) × Int × ImplBox × Int × Int × Int × (List (Int)) × Int × Int × ImplTree × (List (ImplTree)) × Int × Int × Unit → Option (ImplBoxer × ImplBox × Unit) :=
fun (x61, x62, x63, x64, x65, x66, x67, x68, x69, x70, x71, x72, x73, x74, x75, x76, x77, x78, ()) =>
 bnd (impl_treeCount N (ImplTree.mk (ImplTree.tag x75) (ImplTree.key x75) (ImplTree.text x75) (ImplTree.props x75) (ImplTree.kids x75))) fun r79 =>
 G2 (x61, x62, x63, (ImplTree.mk (ImplTree.tag x64) (ImplTree.key x64) (ImplTree.text x64) (ImplTree.props x64) (ImplTree.kids x64)), x65, x66, x67, x68, x69, x70, x71, x72, x73, (IntKind.i64.wrap (x74 + (r79).1)), x76, x77, (IntKind.i64.wrap (x78 + (1 : Int))), ())

def impl_boxer_lay.J47 (N : Nat) (R_impl_boxer_lay : ImplBoxer → ImplTree → Int → Int → Int → Option (ImplBoxer × ImplBox × Unit)) (G4 : ImplBoxer × Int × ImplBox × (List (Int)) × Int × ImplBox × Int × Int × Int × (List (Int)) × Int × Int × (List (ImplTree)) × Int × Int × Unit → Option (ImplBoxer × ImplBox × Unit)) : ImplBoxer × Int × ImplBox × (List (Int)) × Int × ImplBox × Int × Int × Int × (List (Int)) × Int × Int × Int × ImplTree × (List (ImplTree)) × Int × Int × Unit → Option (ImplBoxer × ImplBox × Unit) :=
fun (x96, x97, x98, x99, x100, x101, x102, x103, x104, x105, x106, x107, x108, x109, x110, x111, x112, ()) =>
 gd (decide ((0 : Int) ≤ x108)) (
 gd (decide (x108 < (((List.length x105) : Nat) : Int))) (
 bnd (R_impl_boxer_lay x96 (ImplTree.mk (ImplTree.tag x109) (ImplTree.key x109) (ImplTree.text x109) (ImplTree.props x109) (ImplTree.kids x109)) x107 (IntKind.i64.wrap (x97 + x102)) (get x105 x108)) fun r113 =>
 gd (decide ((0 : Int) ≤ x108)) (
 gd (decide (x108 < (((List.length x105) : Nat) : Int))) (
 G4 ((r113).1, x97, x98, x99, x100, x101, x102, (cond (decide ((ImplBox.high ((r113).2).1) > x103)) (ImplBox.high ((r113).2).1) x103), x104, x105, x106, (IntKind.i64.wrap (x107 + (get x105 x108))), x110, x111, (IntKind.i64.wrap (x112 + (1 : Int))), ())))))

def impl_boxer_lay.B4 (N : Nat) (R_impl_boxer_lay : ImplBoxer → ImplTree → Int → Int → Int → Option (ImplBoxer × ImplBox × Unit)) (G4 : ImplBoxer × Int × ImplBox × (List (Int)) × Int × ImplBox × Int × Int × Int × (List (Int)) × Int × Int × (List (ImplTree)) × Int × Int × Unit → Option (ImplBoxer × ImplBox × Unit)) : ImplBoxer × Int × ImplBox × (List (Int)) × Int × ImplBox × Int × Int × Int × (List (Int)) × Int × Int × (List (ImplTree)) × Int × Int × Unit → Option (ImplBoxer × ImplBox × Unit) :=
fun (x80, x81, x82, x83, x84, x85, x86, x87, x88, x89, x90, x91, x92, x93, x94, ()) =>
 br (decide (x94 < x93)) (
  gd (decide ((0 : Int) ≤ x94)) (
  gd (decide (x94 < (((List.length x92) : Nat) : Int))) (
  gd (decide ((0 : Int) ≤ x94)) (
  gd (decide (x94 < (((List.length x89) : Nat) : Int))) (
  br (decide ((get x89 x94) < (0 : Int))) (
   gd (!(decide (x90 = (0 : Int)))) (
   gd (decide ((0 : Int) ≤ x94)) (
   gd (decide (x94 < (((List.length x89) : Nat) : Int))) (
   gd (decide ((0 : Int) ≤ x94)) (
   gd (decide (x94 < (((List.length (List.set x89 (Int.toNat x94) (IntKind.i64.wrap (Int.tdiv (IntKind.i64.wrap ((IntKind.i64.wrap (x88 + x90)) - (1 : Int))) x90)))) : Nat) : Int))) (
   impl_boxer_lay.J47 N R_impl_boxer_lay G4 (x80, x81, x82, x83, x84, x85, x86, x87, (IntKind.i64.wrap (x88 - (get (List.set x89 (Int.toNat x94) (IntKind.i64.wrap (Int.tdiv (IntKind.i64.wrap ((IntKind.i64.wrap (x88 + x90)) - (1 : Int))) x90))) x94))), (List.set x89 (Int.toNat x94) (IntKind.i64.wrap (Int.tdiv (IntKind.i64.wrap ((IntKind.i64.wrap (x88 + x90)) - (1 : Int))) x90))), (IntKind.i64.wrap (x90 - (1 : Int))), x91, x94, (ImplTree.mk (ImplTree.tag (get x92 x94)) (ImplTree.key (get x92 x94)) (ImplTree.text (get x92 x94)) (ImplTree.props (get x92 x94)) (ImplTree.kids (get x92 x94))), x92, x93, x94, ()))))))) (
   impl_boxer_lay.J47 N R_impl_boxer_lay G4 (x80, x81, x82, x83, x84, x85, x86, x87, x88, x89, x90, x91, x94, (ImplTree.mk (ImplTree.tag (get x92 x94)) (ImplTree.key (get x92 x94)) (ImplTree.text (get x92 x94)) (ImplTree.props (get x92 x94)) (ImplTree.kids (get x92 x94))), x92, x93, x94, ()))))))) (
  impl_boxer_lay.J50 N R_impl_boxer_lay (x80, x82, x83, x84, x85, x86, x87, ()))

def impl_boxer_lay.B2 (N : Nat) (R_impl_boxer_lay : ImplBoxer → ImplTree → Int → Int → Int → Option (ImplBoxer × ImplBox × Unit)) (G2 : ImplBoxer × Int × Int × ImplTree × ImplBox × (List (Int)) × Int × ImplBox × Int × Int × Int × (List (Int)) × Int × Int × (List (ImplTree)) × Int × Int × Unit → Option (ImplBoxer × ImplBox × Unit)) (E4 : ImplBoxer × Int × ImplBox × (List (Int)) × Int × ImplBox × Int × Int × Int × (List (Int)) × Int × Int × (List (ImplTree)) × Int × Int × Unit → Option (ImplBoxer × ImplBox × Unit)) : ImplBoxer × Int × Int × ImplTree × ImplBox × (List (Int)) × Int × ImplBox × Int × Int × Int × (List (Int)) × Int × Int × (List (ImplTree)) × Int × Int × Unit → Option (ImplBoxer × ImplBox × Unit) :=
fun (x43, x44, x45, x46, x47, x48, x49, x50, x51, x52, x53, x54, x55, x56, x57, x58, x59, ()) =>
 br (decide (x59 < x58)) (
  gd (decide ((0 : Int) ≤ x59)) (
  gd (decide (x59 < (((List.length x57) : Nat) : Int))) (
  gd (decide ((0 : Int) ≤ x56)) (
  gd (decide (x56 < (((List.length (ImplBoxer.looks x43)) : Nat) : Int))) (
  gd (decide ((0 : Int) < (((List.length (get (ImplBoxer.looks x43) x56)) : Nat) : Int))) (
  br ((ImplTree.tag (get x57 x59)) != (-(1 : Int))) (
   br ((get (get (ImplBoxer.looks x43) x56) (0 : Int)) != (0 : Int)) (
    gd (decide ((0 : Int) ≤ x59)) (
    gd (decide (x59 < (((List.length x54) : Nat) : Int))) (
    gd (decide ((0 : Int) ≤ x59)) (
    gd (decide (x59 < (((List.length (List.set x54 (Int.toNat x59) (cond (decide (x53 < (get (get (ImplBoxer.looks x43) x56) (0 : Int)))) x53 (get (get (ImplBoxer.looks x43) x56) (0 : Int))))) : Nat) : Int))) (
    impl_boxer_lay.J37 N R_impl_boxer_lay G2 (x43, x44, x45, (ImplTree.mk (ImplTree.tag x46) (ImplTree.key x46) (ImplTree.text x46) (ImplTree.props x46) (ImplTree.kids x46)), x47, x48, x49, x50, x51, x52, (IntKind.i64.wrap (x53 - (get (List.set x54 (Int.toNat x59) (cond (decide (x53 < (get (get (ImplBoxer.looks x43) x56) (0 : Int)))) x53 (get (get (ImplBoxer.looks x43) x56) (0 : Int)))) x59))), (List.set x54 (Int.toNat x59) (cond (decide (x53 < (get (get (ImplBoxer.looks x43) x56) (0 : Int)))) x53 (get (get (ImplBoxer.looks x43) x56) (0 : Int)))), x55, x56, (ImplTree.mk (ImplTree.tag (get x57 x59)) (ImplTree.key (get x57 x59)) (ImplTree.text (get x57 x59)) (ImplTree.props (get x57 x59)) (ImplTree.kids (get x57 x59))), x57, x58, x59, ())))))) (
    gd (decide ((0 : Int) ≤ x59)) (
   gd (decide (x59 < (((List.length x54) : Nat) : Int))) (
   impl_boxer_lay.J37 N R_impl_boxer_lay G2 (x43, x44, x45, (ImplTree.mk (ImplTree.tag x46) (ImplTree.key x46) (ImplTree.text x46) (ImplTree.props x46) (ImplTree.kids x46)), x47, x48, x49, x50, x51, x52, x53, (List.set x54 (Int.toNat x59) (-(1 : Int))), (IntKind.i64.wrap (x55 + (1 : Int))), x56, (ImplTree.mk (ImplTree.tag (get x57 x59)) (ImplTree.key (get x57 x59)) (ImplTree.text (get x57 x59)) (ImplTree.props (get x57 x59)) (ImplTree.kids (get x57 x59))), x57, x58, x59, ()))))) (
   gd (decide ((0 : Int) ≤ x59)) (
  gd (decide (x59 < (((List.length x54) : Nat) : Int))) (
  impl_boxer_lay.J37 N R_impl_boxer_lay G2 (x43, x44, x45, (ImplTree.mk (ImplTree.tag x46) (ImplTree.key x46) (ImplTree.text x46) (ImplTree.props x46) (ImplTree.kids x46)), x47, x48, x49, x50, x51, x52, x53, (List.set x54 (Int.toNat x59) (-(1 : Int))), (IntKind.i64.wrap (x55 + (1 : Int))), x56, (ImplTree.mk (ImplTree.tag (get x57 x59)) (ImplTree.key (get x57 x59)) (ImplTree.text (get x57 x59)) (ImplTree.props (get x57 x59)) (ImplTree.kids (get x57 x59))), x57, x58, x59, ())))))))))) (
  E4 (x43, x45, x47, x48, x49, x50, x51, x52, x53, x54, x55, (IntKind.i64.wrap (x44 + x51)), (ImplTree.kids x46), (((List.length (ImplTree.kids x46)) : Nat) : Int), (0 : Int), ()))

def impl_boxer_lay.J15 (N : Nat) (R_impl_boxer_lay : ImplBoxer → ImplTree → Int → Int → Int → Option (ImplBoxer × ImplBox × Unit)) (E0 : ImplBoxer × Int × Int × ImplBox × (List (Int)) × Int × ImplBox × Int × Int × Int × (List (ImplTree)) × Int × Int × Unit → Option (ImplBoxer × ImplBox × Unit)) (E2 : ImplBoxer × Int × Int × ImplTree × ImplBox × (List (Int)) × Int × ImplBox × Int × Int × Int × (List (Int)) × Int × Int × (List (ImplTree)) × Int × Int × Unit → Option (ImplBoxer × ImplBox × Unit)) : ImplBoxer × Int × Int × ImplTree × ImplBox × (List (Int)) × Int × ImplBox × Unit → Option (ImplBoxer × ImplBox × Unit) :=
fun (x9, x10, x11, x12, x13, x14, x15, x16, ()) =>
 gd (decide ((2 : Int) < (((List.length x14) : Nat) : Int))) (
 gd (decide ((3 : Int) < (((List.length x14) : Nat) : Int))) (
 br ((get x14 (3 : Int)) == (0 : Int)) (
  E0 (x9, x10, x11, x13, x14, x15, x16, (get x14 (2 : Int)), (cond (decide ((0 : Int) > (IntKind.i64.wrap ((ImplBox.wide x16) - (IntKind.i64.wrap ((2 : Int) * (get x14 (2 : Int)))))))) (0 : Int) (IntKind.i64.wrap ((ImplBox.wide x16) - (IntKind.i64.wrap ((2 : Int) * (get x14 (2 : Int))))))), (0 : Int), (ImplTree.kids x12), (((List.length (ImplTree.kids x12)) : Nat) : Int), (0 : Int), ())) (
  gd (decide ((((List.length (ImplTree.kids x12)) : Nat) : Int) = (((List.length (ImplTree.kids x12)) : Nat) : Int))) (
 gd (decide ((0 : Int) ≤ (((List.length (ImplTree.kids x12)) : Nat) : Int))) (
 gd (decide ((((List.length (ImplTree.kids x12)) : Nat) : Int) < ((68719476736 : Nat) : Int))) (
 E2 (x9, x10, x11, (ImplTree.mk (ImplTree.tag x12) (ImplTree.key x12) (ImplTree.text x12) (ImplTree.props x12) (ImplTree.kids x12)), x13, x14, x15, x16, (get x14 (2 : Int)), (0 : Int), (cond (decide ((0 : Int) > (IntKind.i64.wrap ((ImplBox.wide x16) - (IntKind.i64.wrap ((2 : Int) * (get x14 (2 : Int)))))))) (0 : Int) (IntKind.i64.wrap ((ImplBox.wide x16) - (IntKind.i64.wrap ((2 : Int) * (get x14 (2 : Int))))))), (List.replicate (Int.toNat (((List.length (ImplTree.kids x12)) : Nat) : Int)) (0 : Int)), (0 : Int), (ImplBoxer.at_ x9), (ImplTree.kids x12), (((List.length (ImplTree.kids x12)) : Nat) : Int), (0 : Int), ())))))))

def impl_boxer_lay.B (N : Nat) (R_impl_boxer_lay : ImplBoxer → ImplTree → Int → Int → Int → Option (ImplBoxer × ImplBox × Unit)) (E0 : ImplBoxer × Int × Int × ImplBox × (List (Int)) × Int × ImplBox × Int × Int × Int × (List (ImplTree)) × Int × Int × Unit → Option (ImplBoxer × ImplBox × Unit)) (E2 : ImplBoxer × Int × Int × ImplTree × ImplBox × (List (Int)) × Int × ImplBox × Int × Int × Int × (List (Int)) × Int × Int × (List (ImplTree)) × Int × Int × Unit → Option (ImplBoxer × ImplBox × Unit)) (x0 : ImplBoxer) (x1 : ImplTree) (x2 : Int) (x3 : Int) (x4 : Int) : Option (ImplBoxer × ImplBox × Unit) :=
 gd (decide ((0 : Int) ≤ (ImplBoxer.at_ x0))) (
 gd (decide ((ImplBoxer.at_ x0) < (((List.length (ImplBoxer.looks x0)) : Nat) : Int))) (
 gd (decide (((List.length (ImplBoxer.out x0)) + (List.length ([(ImplBox.mk (0 : Int) (0 : Int) (0 : Int) (0 : Int))] : List (ImplBox)))) < 68719476736)) (
 br ((ImplTree.tag x1) == (-(1 : Int))) (
  br (decide ((((List.length (ImplTree.text x1)) : Nat) : Int) > (0 : Int))) (
   br (decide (x4 > (0 : Int))) (
    gd (!(decide (x4 = (0 : Int)))) (
    impl_boxer_lay.J10 N R_impl_boxer_lay ((ImplBoxer.mk (ImplBoxer.looks x0) (IntKind.i64.wrap ((ImplBoxer.at_ x0) + (1 : Int))) ((ImplBoxer.out x0) ++ ([(ImplBox.mk (0 : Int) (0 : Int) (0 : Int) (0 : Int))] : List (ImplBox)))), (ImplBox.mk (0 : Int) (0 : Int) (0 : Int) (0 : Int)), (((List.length (ImplBoxer.out x0)) : Nat) : Int), (ImplBox.mk x2 x3 (cond (decide (x4 < (((List.length (ImplTree.text x1)) : Nat) : Int))) x4 (((List.length (ImplTree.text x1)) : Nat) : Int)) (IntKind.i64.wrap (Int.tdiv (IntKind.i64.wrap ((IntKind.i64.wrap ((((List.length (ImplTree.text x1)) : Nat) : Int) + x4)) - (1 : Int))) x4))), ()))) (
    impl_boxer_lay.J10 N R_impl_boxer_lay ((ImplBoxer.mk (ImplBoxer.looks x0) (IntKind.i64.wrap ((ImplBoxer.at_ x0) + (1 : Int))) ((ImplBoxer.out x0) ++ ([(ImplBox.mk (0 : Int) (0 : Int) (0 : Int) (0 : Int))] : List (ImplBox)))), (ImplBox.mk (0 : Int) (0 : Int) (0 : Int) (0 : Int)), (((List.length (ImplBoxer.out x0)) : Nat) : Int), (ImplBox.mk x2 x3 (0 : Int) (0 : Int)), ()))) (
   impl_boxer_lay.J10 N R_impl_boxer_lay ((ImplBoxer.mk (ImplBoxer.looks x0) (IntKind.i64.wrap ((ImplBoxer.at_ x0) + (1 : Int))) ((ImplBoxer.out x0) ++ ([(ImplBox.mk (0 : Int) (0 : Int) (0 : Int) (0 : Int))] : List (ImplBox)))), (ImplBox.mk (0 : Int) (0 : Int) (0 : Int) (0 : Int)), (((List.length (ImplBoxer.out x0)) : Nat) : Int), (ImplBox.mk x2 x3 (0 : Int) (0 : Int)), ()))) (
  gd (decide ((0 : Int) < (((List.length (get (ImplBoxer.looks x0) (ImplBoxer.at_ x0))) : Nat) : Int))) (
 br ((get (get (ImplBoxer.looks x0) (ImplBoxer.at_ x0)) (0 : Int)) != (0 : Int)) (
  gd (decide ((0 : Int) < (((List.length (get (ImplBoxer.looks x0) (ImplBoxer.at_ x0))) : Nat) : Int))) (
  impl_boxer_lay.J15 N R_impl_boxer_lay E0 E2 ((ImplBoxer.mk (ImplBoxer.looks x0) (IntKind.i64.wrap ((ImplBoxer.at_ x0) + (1 : Int))) ((ImplBoxer.out x0) ++ ([(ImplBox.mk (0 : Int) (0 : Int) (0 : Int) (0 : Int))] : List (ImplBox)))), x2, x3, (ImplTree.mk (ImplTree.tag x1) (ImplTree.key x1) (ImplTree.text x1) (ImplTree.props x1) (ImplTree.kids x1)), (ImplBox.mk (0 : Int) (0 : Int) (0 : Int) (0 : Int)), (get (ImplBoxer.looks x0) (ImplBoxer.at_ x0)), (((List.length (ImplBoxer.out x0)) : Nat) : Int), (ImplBox.mk x2 x3 (cond (decide (x4 < (get (get (ImplBoxer.looks x0) (ImplBoxer.at_ x0)) (0 : Int)))) x4 (get (get (ImplBoxer.looks x0) (ImplBoxer.at_ x0)) (0 : Int))) (0 : Int)), ()))) (
  impl_boxer_lay.J15 N R_impl_boxer_lay E0 E2 ((ImplBoxer.mk (ImplBoxer.looks x0) (IntKind.i64.wrap ((ImplBoxer.at_ x0) + (1 : Int))) ((ImplBoxer.out x0) ++ ([(ImplBox.mk (0 : Int) (0 : Int) (0 : Int) (0 : Int))] : List (ImplBox)))), x2, x3, (ImplTree.mk (ImplTree.tag x1) (ImplTree.key x1) (ImplTree.text x1) (ImplTree.props x1) (ImplTree.kids x1)), (ImplBox.mk (0 : Int) (0 : Int) (0 : Int) (0 : Int)), (get (ImplBoxer.looks x0) (ImplBoxer.at_ x0)), (((List.length (ImplBoxer.out x0)) : Nat) : Int), (ImplBox.mk x2 x3 x4 (0 : Int)), ())))))))

def impl_boxer_lay.L0 (N : Nat) (R_impl_boxer_lay : ImplBoxer → ImplTree → Int → Int → Int → Option (ImplBoxer × ImplBox × Unit)) : Nat → ImplBoxer × Int × Int × ImplBox × (List (Int)) × Int × ImplBox × Int × Int × Int × (List (ImplTree)) × Int × Int × Unit → Option (ImplBoxer × ImplBox × Unit)
  | 0, _ => none
  | n + 1, x => impl_boxer_lay.B0 N R_impl_boxer_lay (impl_boxer_lay.L0 N R_impl_boxer_lay n) x

def impl_boxer_lay.L4 (N : Nat) (R_impl_boxer_lay : ImplBoxer → ImplTree → Int → Int → Int → Option (ImplBoxer × ImplBox × Unit)) : Nat → ImplBoxer × Int × ImplBox × (List (Int)) × Int × ImplBox × Int × Int × Int × (List (Int)) × Int × Int × (List (ImplTree)) × Int × Int × Unit → Option (ImplBoxer × ImplBox × Unit)
  | 0, _ => none
  | n + 1, x => impl_boxer_lay.B4 N R_impl_boxer_lay (impl_boxer_lay.L4 N R_impl_boxer_lay n) x

def impl_boxer_lay.L2 (N : Nat) (R_impl_boxer_lay : ImplBoxer → ImplTree → Int → Int → Int → Option (ImplBoxer × ImplBox × Unit)) : Nat → ImplBoxer × Int × Int × ImplTree × ImplBox × (List (Int)) × Int × ImplBox × Int × Int × Int × (List (Int)) × Int × Int × (List (ImplTree)) × Int × Int × Unit → Option (ImplBoxer × ImplBox × Unit)
  | 0, _ => none
  | n + 1, x => impl_boxer_lay.B2 N R_impl_boxer_lay (impl_boxer_lay.L2 N R_impl_boxer_lay n) (impl_boxer_lay.L4 N R_impl_boxer_lay N) x

def impl_boxer_lay.R (N : Nat) : Nat → ImplBoxer → ImplTree → Int → Int → Int → Option (ImplBoxer × ImplBox × Unit)
  | 0, _, _, _, _, _ => none
  | d + 1, x0, x1, x2, x3, x4 => impl_boxer_lay.B N (impl_boxer_lay.R N d) (impl_boxer_lay.L0 N (impl_boxer_lay.R N d) N) (impl_boxer_lay.L2 N (impl_boxer_lay.R N d) N) x0 x1 x2 x3 x4

def impl_boxer_lay (N : Nat) (x0 : ImplBoxer) (x1 : ImplTree) (x2 : Int) (x3 : Int) (x4 : Int) : Option (ImplBoxer × ImplBox × Unit) := impl_boxer_lay.R N N x0 x1 x2 x3 x4

def impl_boxes.B (N : Nat) (x0 : ImplTree) (x1 : List (ImplRule)) (x2 : Int) : Option ((List (ImplBox)) × Unit) :=
 bnd (impl_looks N (ImplTree.mk (ImplTree.tag x0) (ImplTree.key x0) (ImplTree.text x0) (ImplTree.props x0) (ImplTree.kids x0)) x1 ([] : List (Int)) (0 : Int)) fun r3 =>
 bnd (impl_boxer_lay N (ImplBoxer.mk (r3).1 (0 : Int) ([] : List (ImplBox))) (ImplTree.mk (ImplTree.tag x0) (ImplTree.key x0) (ImplTree.text x0) (ImplTree.props x0) (ImplTree.kids x0)) (0 : Int) (0 : Int) x2) fun r4 =>
 some ((ImplBoxer.out (r4).1), ())

def impl_boxes (N : Nat) (x0 : ImplTree) (x1 : List (ImplRule)) (x2 : Int) : Option ((List (ImplBox)) × Unit) := impl_boxes.B N x0 x1 x2

def impl_BoxesOf.B (N : Nat) (x0 : ImplTree) (x1 : List (ImplRule)) (x2 : Int) : Option ((List (ImplBox)) × Unit) :=
 bnd (impl_TreeOk N (ImplTree.mk (ImplTree.tag x0) (ImplTree.key x0) (ImplTree.text x0) (ImplTree.props x0) (ImplTree.kids x0))) fun r3 =>
 br (!(r3).1) (
  some (([] : List (ImplBox)), ())) (
  bnd (impl_RulesOk N x1) fun r4 =>
 br (!(r4).1) (
  some (([] : List (ImplBox)), ())) (
  bnd (impl_within N x2 (0 : Int) (60 : Int)) fun r5 =>
 br (!(r5).1) (
  some (([] : List (ImplBox)), ())) (
  bnd (impl_boxes N (ImplTree.mk (ImplTree.tag x0) (ImplTree.key x0) (ImplTree.text x0) (ImplTree.props x0) (ImplTree.kids x0)) x1 x2) fun r6 =>
 some ((r6).1, ()))))

def impl_BoxesOf (N : Nat) (x0 : ImplTree) (x1 : List (ImplRule)) (x2 : Int) : Option ((List (ImplBox)) × Unit) := impl_BoxesOf.B N x0 x1 x2

def impl_BoxHigh.B (N : Nat) (x0 : ImplTree) (x1 : List (ImplRule)) (x2 : Int) : Option (Int × Unit) :=
 bnd (impl_BoxesOf N (ImplTree.mk (ImplTree.tag x0) (ImplTree.key x0) (ImplTree.text x0) (ImplTree.props x0) (ImplTree.kids x0)) x1 x2) fun r3 =>
 br ((((List.length (r3).1) : Nat) : Int) == (0 : Int)) (
  some ((-(1 : Int)), ())) (
  gd (decide ((0 : Int) < (((List.length (r3).1) : Nat) : Int))) (
 some ((ImplBox.high (get (r3).1 (0 : Int))), ())))

def impl_BoxHigh (N : Nat) (x0 : ImplTree) (x1 : List (ImplRule)) (x2 : Int) : Option (Int × Unit) := impl_BoxHigh.B N x0 x1 x2

def laws_eqValue.B (N : Nat) (x0 : ImplValue) (x1 : ImplValue) : Option (Bool × Unit) :=
 br ((ImplValue.kind x0) != (ImplValue.kind x1)) (
  some (false, ())) (
  br ((ImplValue.num x0) != (ImplValue.num x1)) (
  some (false, ())) (
  br (!((ImplValue.text x0) == (ImplValue.text x1))) (
  some (false, ())) (
  some (true, ()))))

def laws_eqValue (N : Nat) (x0 : ImplValue) (x1 : ImplValue) : Option (Bool × Unit) := laws_eqValue.B N x0 x1

def laws_eqProp.B (N : Nat) (x0 : ImplProp) (x1 : ImplProp) : Option (Bool × Unit) :=
 br ((ImplProp.name x0) != (ImplProp.name x1)) (
  some (false, ())) (
  bnd (laws_eqValue N (ImplValue.mk (ImplProp.val_Kind x0) (ImplProp.val_Num x0) (ImplProp.val_Text x0)) (ImplValue.mk (ImplProp.val_Kind x1) (ImplProp.val_Num x1) (ImplProp.val_Text x1))) fun r2 =>
 br (!(r2).1) (
  some (false, ())) (
  some (true, ())))

def laws_eqProp (N : Nat) (x0 : ImplProp) (x1 : ImplProp) : Option (Bool × Unit) := laws_eqProp.B N x0 x1

def laws_eqPropS.B0 (N : Nat) (G0 : (List (ImplProp)) × (List (ImplProp)) × Int × Unit → Option (Bool × Unit)) : (List (ImplProp)) × (List (ImplProp)) × Int × Unit → Option (Bool × Unit) :=
fun (x2, x3, x4, ()) =>
 br (decide (x4 < (((List.length x2) : Nat) : Int))) (
  gd (decide ((0 : Int) ≤ x4)) (
  gd (decide (x4 < (((List.length x2) : Nat) : Int))) (
  gd (decide ((0 : Int) ≤ x4)) (
  gd (decide (x4 < (((List.length x3) : Nat) : Int))) (
  bnd (laws_eqProp N (get x2 x4) (get x3 x4)) fun r6 =>
  br (!(r6).1) (
   some (false, ())) (
   G0 (x2, x3, (IntKind.i64.wrap (x4 + (1 : Int))), ()))))))) (
  some (true, ()))

def laws_eqPropS.B (N : Nat) (E0 : (List (ImplProp)) × (List (ImplProp)) × Int × Unit → Option (Bool × Unit)) (x0 : List (ImplProp)) (x1 : List (ImplProp)) : Option (Bool × Unit) :=
 br ((((List.length x0) : Nat) : Int) != (((List.length x1) : Nat) : Int)) (
  some (false, ())) (
  E0 (x0, x1, (0 : Int), ()))

def laws_eqPropS.L0 (N : Nat) : Nat → (List (ImplProp)) × (List (ImplProp)) × Int × Unit → Option (Bool × Unit)
  | 0, _ => none
  | n + 1, x => laws_eqPropS.B0 N (laws_eqPropS.L0 N n) x

def laws_eqPropS (N : Nat) (x0 : List (ImplProp)) (x1 : List (ImplProp)) : Option (Bool × Unit) := laws_eqPropS.B N (laws_eqPropS.L0 N N) x0 x1

def laws_eqTreeS.B0 (N : Nat) (R_laws_eqTreeS : List (ImplTree) → List (ImplTree) → Option (Bool × Unit)) (R_laws_eqTree : ImplTree → ImplTree → Option (Bool × Unit)) (G0 : (List (ImplTree)) × (List (ImplTree)) × Int × Unit → Option (Bool × Unit)) : (List (ImplTree)) × (List (ImplTree)) × Int × Unit → Option (Bool × Unit) :=
fun (x2, x3, x4, ()) =>
 br (decide (x4 < (((List.length x2) : Nat) : Int))) (
  gd (decide ((0 : Int) ≤ x4)) (
  gd (decide (x4 < (((List.length x2) : Nat) : Int))) (
  gd (decide ((0 : Int) ≤ x4)) (
  gd (decide (x4 < (((List.length x3) : Nat) : Int))) (
  bnd (R_laws_eqTree (ImplTree.mk (ImplTree.tag (get x2 x4)) (ImplTree.key (get x2 x4)) (ImplTree.text (get x2 x4)) (ImplTree.props (get x2 x4)) (ImplTree.kids (get x2 x4))) (ImplTree.mk (ImplTree.tag (get x3 x4)) (ImplTree.key (get x3 x4)) (ImplTree.text (get x3 x4)) (ImplTree.props (get x3 x4)) (ImplTree.kids (get x3 x4)))) fun r6 =>
  br (!(r6).1) (
   some (false, ())) (
   G0 (x2, x3, (IntKind.i64.wrap (x4 + (1 : Int))), ()))))))) (
  some (true, ()))

def laws_eqTreeS.B (N : Nat) (R_laws_eqTreeS : List (ImplTree) → List (ImplTree) → Option (Bool × Unit)) (R_laws_eqTree : ImplTree → ImplTree → Option (Bool × Unit)) (E0 : (List (ImplTree)) × (List (ImplTree)) × Int × Unit → Option (Bool × Unit)) (x0 : List (ImplTree)) (x1 : List (ImplTree)) : Option (Bool × Unit) :=
 br ((((List.length x0) : Nat) : Int) != (((List.length x1) : Nat) : Int)) (
  some (false, ())) (
  E0 (x0, x1, (0 : Int), ()))

def laws_eqTreeS.L0 (N : Nat) (R_laws_eqTreeS : List (ImplTree) → List (ImplTree) → Option (Bool × Unit)) (R_laws_eqTree : ImplTree → ImplTree → Option (Bool × Unit)) : Nat → (List (ImplTree)) × (List (ImplTree)) × Int × Unit → Option (Bool × Unit)
  | 0, _ => none
  | n + 1, x => laws_eqTreeS.B0 N R_laws_eqTreeS R_laws_eqTree (laws_eqTreeS.L0 N R_laws_eqTreeS R_laws_eqTree n) x

def laws_eqTree.B (N : Nat) (R_laws_eqTreeS : List (ImplTree) → List (ImplTree) → Option (Bool × Unit)) (R_laws_eqTree : ImplTree → ImplTree → Option (Bool × Unit)) (x0 : ImplTree) (x1 : ImplTree) : Option (Bool × Unit) :=
 br ((ImplTree.tag x0) != (ImplTree.tag x1)) (
  some (false, ())) (
  br ((ImplTree.key x0) != (ImplTree.key x1)) (
  some (false, ())) (
  br (!((ImplTree.text x0) == (ImplTree.text x1))) (
  some (false, ())) (
  bnd (laws_eqPropS N (ImplTree.props x0) (ImplTree.props x1)) fun r2 =>
 br (!(r2).1) (
  some (false, ())) (
  bnd (R_laws_eqTreeS (ImplTree.kids x0) (ImplTree.kids x1)) fun r3 =>
 br (!(r3).1) (
  some (false, ())) (
  some (true, ()))))))

mutual
def laws_eqTreeS.R (N : Nat) : Nat → List (ImplTree) → List (ImplTree) → Option (Bool × Unit)
  | 0, _, _ => none
  | d + 1, x0, x1 => laws_eqTreeS.B N (laws_eqTreeS.R N d) (laws_eqTree.R N d) (laws_eqTreeS.L0 N (laws_eqTreeS.R N d) (laws_eqTree.R N d) N) x0 x1

def laws_eqTree.R (N : Nat) : Nat → ImplTree → ImplTree → Option (Bool × Unit)
  | 0, _, _ => none
  | d + 1, x0, x1 => laws_eqTree.B N (laws_eqTreeS.R N d) (laws_eqTree.R N d) x0 x1

end

def laws_eqTreeS (N : Nat) (x0 : List (ImplTree)) (x1 : List (ImplTree)) : Option (Bool × Unit) := laws_eqTreeS.R N N x0 x1

def laws_eqTree (N : Nat) (x0 : ImplTree) (x1 : ImplTree) : Option (Bool × Unit) := laws_eqTree.R N N x0 x1

def laws_eqRule.B (N : Nat) (x0 : ImplRule) (x1 : ImplRule) : Option (Bool × Unit) :=
 br ((ImplRule.tag x0) != (ImplRule.tag x1)) (
  some (false, ())) (
  br ((ImplRule.above x0) != (ImplRule.above x1)) (
  some (false, ())) (
  br ((ImplRule.name x0) != (ImplRule.name x1)) (
  some (false, ())) (
  bnd (laws_eqValue N (ImplValue.mk (ImplRule.val_Kind x0) (ImplRule.val_Num x0) (ImplRule.val_Text x0)) (ImplValue.mk (ImplRule.val_Kind x1) (ImplRule.val_Num x1) (ImplRule.val_Text x1))) fun r2 =>
 br (!(r2).1) (
  some (false, ())) (
  br ((ImplRule.look x0) != (ImplRule.look x1)) (
  some (false, ())) (
  br ((ImplRule.give x0) != (ImplRule.give x1)) (
  some (false, ())) (
  some (true, ())))))))

def laws_eqRule (N : Nat) (x0 : ImplRule) (x1 : ImplRule) : Option (Bool × Unit) := laws_eqRule.B N x0 x1

def laws_eqRuleS.B0 (N : Nat) (G0 : (List (ImplRule)) × (List (ImplRule)) × Int × Unit → Option (Bool × Unit)) : (List (ImplRule)) × (List (ImplRule)) × Int × Unit → Option (Bool × Unit) :=
fun (x2, x3, x4, ()) =>
 br (decide (x4 < (((List.length x2) : Nat) : Int))) (
  gd (decide ((0 : Int) ≤ x4)) (
  gd (decide (x4 < (((List.length x2) : Nat) : Int))) (
  gd (decide ((0 : Int) ≤ x4)) (
  gd (decide (x4 < (((List.length x3) : Nat) : Int))) (
  bnd (laws_eqRule N (get x2 x4) (get x3 x4)) fun r6 =>
  br (!(r6).1) (
   some (false, ())) (
   G0 (x2, x3, (IntKind.i64.wrap (x4 + (1 : Int))), ()))))))) (
  some (true, ()))

def laws_eqRuleS.B (N : Nat) (E0 : (List (ImplRule)) × (List (ImplRule)) × Int × Unit → Option (Bool × Unit)) (x0 : List (ImplRule)) (x1 : List (ImplRule)) : Option (Bool × Unit) :=
 br ((((List.length x0) : Nat) : Int) != (((List.length x1) : Nat) : Int)) (
  some (false, ())) (
  E0 (x0, x1, (0 : Int), ()))

def laws_eqRuleS.L0 (N : Nat) : Nat → (List (ImplRule)) × (List (ImplRule)) × Int × Unit → Option (Bool × Unit)
  | 0, _ => none
  | n + 1, x => laws_eqRuleS.B0 N (laws_eqRuleS.L0 N n) x

def laws_eqRuleS (N : Nat) (x0 : List (ImplRule)) (x1 : List (ImplRule)) : Option (Bool × Unit) := laws_eqRuleS.B N (laws_eqRuleS.L0 N N) x0 x1

def laws_FnExactBoxHigh.B (N : Nat) (x0 : LawsTree) (x1 : List (LawsRule)) (x2 : Int) : Option (Bool × Unit) :=
 bnd (laws_szTree N (LawsTree.mk (LawsTree.tag x0) (LawsTree.key x0) (LawsTree.text x0) (LawsTree.props x0) (LawsTree.kids x0)) (1048576 : Int)) fun r3 =>
 br (decide ((r3).1 < (0 : Int))) (
  some (true, ())) (
  bnd (laws_szRuleS N x1 (r3).1) fun r4 =>
 br (decide ((r4).1 < (0 : Int))) (
  some (true, ())) (
  bnd (laws_toTree N (LawsTree.mk (LawsTree.tag x0) (LawsTree.key x0) (LawsTree.text x0) (LawsTree.props x0) (LawsTree.kids x0))) fun r5 =>
 bnd (laws_toRuleS N x1) fun r6 =>
 bnd (spec_BoxHigh N (ImplTree.mk (ImplTree.tag (r5).1) (ImplTree.key (r5).1) (ImplTree.text (r5).1) (ImplTree.props (r5).1) (ImplTree.kids (r5).1)) (r6).1 x2) fun r7 =>
 bnd (laws_toTree N (LawsTree.mk (LawsTree.tag x0) (LawsTree.key x0) (LawsTree.text x0) (LawsTree.props x0) (LawsTree.kids x0))) fun r8 =>
 bnd (laws_toRuleS N x1) fun r9 =>
 bnd (impl_BoxHigh N (ImplTree.mk (ImplTree.tag (r8).1) (ImplTree.key (r8).1) (ImplTree.text (r8).1) (ImplTree.props (r8).1) (ImplTree.kids (r8).1)) (r9).1 x2) fun r10 =>
 br ((r10).1 != (r7).1) (
  some (false, ())) (
  bnd (laws_toTree N (LawsTree.mk (LawsTree.tag x0) (LawsTree.key x0) (LawsTree.text x0) (LawsTree.props x0) (LawsTree.kids x0))) fun r11 =>
 bnd (laws_eqTree N (ImplTree.mk (ImplTree.tag (r8).1) (ImplTree.key (r8).1) (ImplTree.text (r8).1) (ImplTree.props (r8).1) (ImplTree.kids (r8).1)) (ImplTree.mk (ImplTree.tag (r11).1) (ImplTree.key (r11).1) (ImplTree.text (r11).1) (ImplTree.props (r11).1) (ImplTree.kids (r11).1))) fun r12 =>
 br (!(r12).1) (
  some (false, ())) (
  bnd (laws_toRuleS N x1) fun r13 =>
 bnd (laws_eqRuleS N (r9).1 (r13).1) fun r14 =>
 br (!(r14).1) (
  some (false, ())) (
  some (true, ()))))))

def laws_FnExactBoxHigh (N : Nat) (x0 : LawsTree) (x1 : List (LawsRule)) (x2 : Int) : Option (Bool × Unit) := laws_FnExactBoxHigh.B N x0 x1 x2

end
end Go.Ev
