/- The functions that the law reaches, written as plain functions; nothing is claimed here. -/
import Derived.Test.YtafaffmjaknljaaDoorEvE
set_option linter.all false
set_option linter.unusedVariables false
set_option linter.unusedSimpArgs false
/- F -/
set_option maxRecDepth 10000
namespace Go.Ev
noncomputable section
def laws_szValue.B (N : Nat) (x0 : ImplValue) (x1 : Int) : Option (Int × Unit) :=
 br (decide ((IntKind.i64.wrap (x1 - (((List.length (ImplValue.text x0)) : Nat) : Int))) < (0 : Int))) (
  some ((-(1 : Int)), ())) (
  some ((IntKind.i64.wrap (x1 - (((List.length (ImplValue.text x0)) : Nat) : Int))), ()))

def laws_szValue (N : Nat) (x0 : ImplValue) (x1 : Int) : Option (Int × Unit) := laws_szValue.B N x0 x1

def laws_szProp.B (N : Nat) (x0 : LawsProp) (x1 : Int) : Option (Int × Unit) :=
 bnd (laws_szValue N (ImplValue.mk (LawsProp.val_Kind x0) (LawsProp.val_Num x0) (LawsProp.val_Text x0)) x1) fun r2 =>
 br (decide ((r2).1 < (0 : Int))) (
  some ((-(1 : Int)), ())) (
  some ((r2).1, ()))

def laws_szProp (N : Nat) (x0 : LawsProp) (x1 : Int) : Option (Int × Unit) := laws_szProp.B N x0 x1

def laws_szPropS.B0 (N : Nat) (G0 : (List (LawsProp)) × Int × Int × Unit → Option (Int × Unit)) : (List (LawsProp)) × Int × Int × Unit → Option (Int × Unit) :=
fun (x2, x3, x4, ()) =>
 br (decide (x4 < (((List.length x2) : Nat) : Int))) (
  gd (decide ((0 : Int) ≤ x4)) (
  gd (decide (x4 < (((List.length x2) : Nat) : Int))) (
  bnd (laws_szProp N (get x2 x4) x3) fun r6 =>
  br (decide ((r6).1 < (0 : Int))) (
   some ((-(1 : Int)), ())) (
   G0 (x2, (r6).1, (IntKind.i64.wrap (x4 + (1 : Int))), ()))))) (
  some (x3, ()))

def laws_szPropS.B (N : Nat) (E0 : (List (LawsProp)) × Int × Int × Unit → Option (Int × Unit)) (x0 : List (LawsProp)) (x1 : Int) : Option (Int × Unit) :=
 br (decide ((IntKind.i64.wrap (x1 - (((List.length x0) : Nat) : Int))) < (0 : Int))) (
  some ((-(1 : Int)), ())) (
  E0 (x0, (IntKind.i64.wrap (x1 - (((List.length x0) : Nat) : Int))), (0 : Int), ()))

def laws_szPropS.L0 (N : Nat) : Nat → (List (LawsProp)) × Int × Int × Unit → Option (Int × Unit)
  | 0, _ => none
  | n + 1, x => laws_szPropS.B0 N (laws_szPropS.L0 N n) x

def laws_szPropS (N : Nat) (x0 : List (LawsProp)) (x1 : Int) : Option (Int × Unit) := laws_szPropS.B N (laws_szPropS.L0 N N) x0 x1

def laws_szTreeS.B0 (N : Nat) (R_laws_szTreeS : List (LawsTree) → Int → Option (Int × Unit)) (R_laws_szTree : LawsTree → Int → Option (Int × Unit)) (G0 : (List (LawsTree)) × Int × Int × Unit → Option (Int × Unit)) : (List (LawsTree)) × Int × Int × Unit → Option (Int × Unit) :=
fun (x2, x3, x4, ()) =>
 br (decide (x4 < (((List.length x2) : Nat) : Int))) (
  gd (decide ((0 : Int) ≤ x4)) (
  gd (decide (x4 < (((List.length x2) : Nat) : Int))) (
  bnd (R_laws_szTree (LawsTree.mk (LawsTree.tag (get x2 x4)) (LawsTree.key (get x2 x4)) (LawsTree.text (get x2 x4)) (LawsTree.props (get x2 x4)) (LawsTree.kids (get x2 x4))) x3) fun r6 =>
  br (decide ((r6).1 < (0 : Int))) (
   some ((-(1 : Int)), ())) (
   G0 (x2, (r6).1, (IntKind.i64.wrap (x4 + (1 : Int))), ()))))) (
  some (x3, ()))

def laws_szTreeS.B (N : Nat) (R_laws_szTreeS : List (LawsTree) → Int → Option (Int × Unit)) (R_laws_szTree : LawsTree → Int → Option (Int × Unit)) (E0 : (List (LawsTree)) × Int × Int × Unit → Option (Int × Unit)) (x0 : List (LawsTree)) (x1 : Int) : Option (Int × Unit) :=
 br (decide ((IntKind.i64.wrap (x1 - (((List.length x0) : Nat) : Int))) < (0 : Int))) (
  some ((-(1 : Int)), ())) (
  E0 (x0, (IntKind.i64.wrap (x1 - (((List.length x0) : Nat) : Int))), (0 : Int), ()))

def laws_szTreeS.L0 (N : Nat) (R_laws_szTreeS : List (LawsTree) → Int → Option (Int × Unit)) (R_laws_szTree : LawsTree → Int → Option (Int × Unit)) : Nat → (List (LawsTree)) × Int × Int × Unit → Option (Int × Unit)
  | 0, _ => none
  | n + 1, x => laws_szTreeS.B0 N R_laws_szTreeS R_laws_szTree (laws_szTreeS.L0 N R_laws_szTreeS R_laws_szTree n) x

def laws_szTree.B (N : Nat) (R_laws_szTreeS : List (LawsTree) → Int → Option (Int × Unit)) (R_laws_szTree : LawsTree → Int → Option (Int × Unit)) (x0 : LawsTree) (x1 : Int) : Option (Int × Unit) :=
 br (decide ((IntKind.i64.wrap (x1 - (((List.length (LawsTree.text x0)) : Nat) : Int))) < (0 : Int))) (
  some ((-(1 : Int)), ())) (
  bnd (laws_szPropS N (LawsTree.props x0) (IntKind.i64.wrap (x1 - (((List.length (LawsTree.text x0)) : Nat) : Int)))) fun r2 =>
 br (decide ((r2).1 < (0 : Int))) (
  some ((-(1 : Int)), ())) (
  bnd (R_laws_szTreeS (LawsTree.kids x0) (r2).1) fun r3 =>
 br (decide ((r3).1 < (0 : Int))) (
  some ((-(1 : Int)), ())) (
  some ((r3).1, ()))))

mutual
def laws_szTreeS.R (N : Nat) : Nat → List (LawsTree) → Int → Option (Int × Unit)
  | 0, _, _ => none
  | d + 1, x0, x1 => laws_szTreeS.B N (laws_szTreeS.R N d) (laws_szTree.R N d) (laws_szTreeS.L0 N (laws_szTreeS.R N d) (laws_szTree.R N d) N) x0 x1

def laws_szTree.R (N : Nat) : Nat → LawsTree → Int → Option (Int × Unit)
  | 0, _, _ => none
  | d + 1, x0, x1 => laws_szTree.B N (laws_szTreeS.R N d) (laws_szTree.R N d) x0 x1

end

def laws_szTreeS (N : Nat) (x0 : List (LawsTree)) (x1 : Int) : Option (Int × Unit) := laws_szTreeS.R N N x0 x1

def laws_szTree (N : Nat) (x0 : LawsTree) (x1 : Int) : Option (Int × Unit) := laws_szTree.R N N x0 x1

def laws_toValue.B (N : Nat) (x0 : ImplValue) : Option (ImplValue × Unit) :=
 some (x0, ())

def laws_toValue (N : Nat) (x0 : ImplValue) : Option (ImplValue × Unit) := laws_toValue.B N x0

def laws_toProp.B (N : Nat) (x0 : LawsProp) : Option (ImplProp × Unit) :=
 bnd (laws_toValue N (ImplValue.mk (LawsProp.val_Kind x0) (LawsProp.val_Num x0) (LawsProp.val_Text x0))) fun r1 =>
 some ((ImplProp.mk (LawsProp.name x0) (ImplValue.kind (r1).1) (ImplValue.num (r1).1) (ImplValue.text (r1).1)), ())

def laws_toProp (N : Nat) (x0 : LawsProp) : Option (ImplProp × Unit) := laws_toProp.B N x0

def laws_toPropS.B0 (N : Nat) (G0 : (List (LawsProp)) × (List (ImplProp)) × Int × Unit → Option ((List (ImplProp)) × Unit)) : (List (LawsProp)) × (List (ImplProp)) × Int × Unit → Option ((List (ImplProp)) × Unit) :=
fun (x1, x2, x3, ()) =>
 br (decide (x3 < (((List.length x1) : Nat) : Int))) (
  gd (decide ((0 : Int) ≤ x3)) (
  gd (decide (x3 < (((List.length x1) : Nat) : Int))) (
  bnd (laws_toProp N (get x1 x3)) fun r5 =>
  gd (decide ((0 : Int) ≤ x3)) (
  gd (decide (x3 < (((List.length x2) : Nat) : Int))) (
  G0 (x1, (List.set x2 (Int.toNat x3) (r5).1), (IntKind.i64.wrap (x3 + (1 : Int))), ())))))) (
  some (x2, ()))

def laws_toPropS.B (N : Nat) (E0 : (List (LawsProp)) × (List (ImplProp)) × Int × Unit → Option ((List (ImplProp)) × Unit)) (x0 : List (LawsProp)) : Option ((List (ImplProp)) × Unit) :=
 gd (decide ((((List.length x0) : Nat) : Int) = (((List.length x0) : Nat) : Int))) (
 gd (decide ((0 : Int) ≤ (((List.length x0) : Nat) : Int))) (
 gd (decide ((((List.length x0) : Nat) : Int) < ((68719476736 : Nat) : Int))) (
 E0 (x0, (List.replicate (Int.toNat (((List.length x0) : Nat) : Int)) (ImplProp.mk (0 : Int) (0 : Int) (0 : Int) ([] : List (UInt8)))), (0 : Int), ()))))

def laws_toPropS.L0 (N : Nat) : Nat → (List (LawsProp)) × (List (ImplProp)) × Int × Unit → Option ((List (ImplProp)) × Unit)
  | 0, _ => none
  | n + 1, x => laws_toPropS.B0 N (laws_toPropS.L0 N n) x

def laws_toPropS (N : Nat) (x0 : List (LawsProp)) : Option ((List (ImplProp)) × Unit) := laws_toPropS.B N (laws_toPropS.L0 N N) x0

def laws_toTreeS.B0 (N : Nat) (R_laws_toTreeS : List (LawsTree) → Option ((List (ImplTree)) × Unit)) (R_laws_toTree : LawsTree → Option (ImplTree × Unit)) (G0 : (List (LawsTree)) × (List (ImplTree)) × Int × Unit → Option ((List (ImplTree)) × Unit)) : (List (LawsTree)) × (List (ImplTree)) × Int × Unit → Option ((List (ImplTree)) × Unit) :=
fun (x1, x2, x3, ()) =>
 br (decide (x3 < (((List.length x1) : Nat) : Int))) (
  gd (decide ((0 : Int) ≤ x3)) (
  gd (decide (x3 < (((List.length x1) : Nat) : Int))) (
  bnd (R_laws_toTree (LawsTree.mk (LawsTree.tag (get x1 x3)) (LawsTree.key (get x1 x3)) (LawsTree.text (get x1 x3)) (LawsTree.props (get x1 x3)) (LawsTree.kids (get x1 x3)))) fun r5 =>
  gd (decide ((0 : Int) ≤ x3)) (
  gd (decide (x3 < (((List.length x2) : Nat) : Int))) (
  G0 (x1, (List.set x2 (Int.toNat x3) (ImplTree.mk (ImplTree.tag (r5).1) (ImplTree.key (r5).1) (ImplTree.text (r5).1) (ImplTree.props (r5).1) (ImplTree.kids (r5).1))), (IntKind.i64.wrap (x3 + (1 : Int))), ())))))) (
  some (x2, ()))

def laws_toTreeS.B (N : Nat) (R_laws_toTreeS : List (LawsTree) → Option ((List (ImplTree)) × Unit)) (R_laws_toTree : LawsTree → Option (ImplTree × Unit)) (E0 : (List (LawsTree)) × (List (ImplTree)) × Int × Unit → Option ((List (ImplTree)) × Unit)) (x0 : List (LawsTree)) : Option ((List (ImplTree)) × Unit) :=
 gd (decide ((((List.length x0) : Nat) : Int) = (((List.length x0) : Nat) : Int))) (
 gd (decide ((0 : Int) ≤ (((List.length x0) : Nat) : Int))) (
 gd (decide ((((List.length x0) : Nat) : Int) < ((68719476736 : Nat) : Int))) (
 E0 (x0, (List.replicate (Int.toNat (((List.length x0) : Nat) : Int)) (ImplTree.mk (0 : Int) (0 : Int) ([] : List (UInt8)) ([] : List (ImplProp)) ([] : List (ImplTree)))), (0 : Int), ()))))

def laws_toTreeS.L0 (N : Nat) (R_laws_toTreeS : List (LawsTree) → Option ((List (ImplTree)) × Unit)) (R_laws_toTree : LawsTree → Option (ImplTree × Unit)) : Nat → (List (LawsTree)) × (List (ImplTree)) × Int × Unit → Option ((List (ImplTree)) × Unit)
  | 0, _ => none
  | n + 1, x => laws_toTreeS.B0 N R_laws_toTreeS R_laws_toTree (laws_toTreeS.L0 N R_laws_toTreeS R_laws_toTree n) x

def laws_toTree.B (N : Nat) (R_laws_toTreeS : List (LawsTree) → Option ((List (ImplTree)) × Unit)) (R_laws_toTree : LawsTree → Option (ImplTree × Unit)) (x0 : LawsTree) : Option (ImplTree × Unit) :=
 bnd (laws_toPropS N (LawsTree.props x0)) fun r1 =>
 bnd (R_laws_toTreeS (LawsTree.kids x0)) fun r2 =>
 some ((ImplTree.mk (LawsTree.tag x0) (LawsTree.key x0) (LawsTree.text x0) (r1).1 (r2).1), ())

mutual
def laws_toTreeS.R (N : Nat) : Nat → List (LawsTree) → Option ((List (ImplTree)) × Unit)
  | 0, _ => none
  | d + 1, x0 => laws_toTreeS.B N (laws_toTreeS.R N d) (laws_toTree.R N d) (laws_toTreeS.L0 N (laws_toTreeS.R N d) (laws_toTree.R N d) N) x0

def laws_toTree.R (N : Nat) : Nat → LawsTree → Option (ImplTree × Unit)
  | 0, _ => none
  | d + 1, x0 => laws_toTree.B N (laws_toTreeS.R N d) (laws_toTree.R N d) x0

end

def laws_toTreeS (N : Nat) (x0 : List (LawsTree)) : Option ((List (ImplTree)) × Unit) := laws_toTreeS.R N N x0

def laws_toTree (N : Nat) (x0 : LawsTree) : Option (ImplTree × Unit) := laws_toTree.R N N x0

def spec_treeSize.B0 (N : Nat) (R_spec_treeSize : ImplTree → Int → Option (Int × Unit)) (G0 : Int × ImplTree × Int × Int × Unit → Option (Int × Unit)) : Int × ImplTree × Int × Int × Unit → Option (Int × Unit) :=
fun (x2, x3, x4, x5, ()) =>
 br (decide (x5 < (((List.length (ImplTree.kids x3)) : Nat) : Int))) (
  br (decide (x4 ≤ (200 : Int))) (
   gd (decide ((0 : Int) ≤ x5)) (
   gd (decide (x5 < (((List.length (ImplTree.kids x3)) : Nat) : Int))) (
   bnd (R_spec_treeSize (ImplTree.mk (ImplTree.tag (get (ImplTree.kids x3) x5)) (ImplTree.key (get (ImplTree.kids x3) x5)) (ImplTree.text (get (ImplTree.kids x3) x5)) (ImplTree.props (get (ImplTree.kids x3) x5)) (ImplTree.kids (get (ImplTree.kids x3) x5))) (IntKind.i64.wrap (x2 + (1 : Int)))) fun r7 =>
   G0 (x2, (ImplTree.mk (ImplTree.tag x3) (ImplTree.key x3) (ImplTree.text x3) (ImplTree.props x3) (ImplTree.kids x3)), (IntKind.i64.wrap (x4 + (r7).1)), (IntKind.i64.wrap (x5 + (1 : Int))), ())))) (
   some ((cond (decide ((201 : Int) < x4)) (201 : Int) x4), ()))) (
  some ((cond (decide ((201 : Int) < x4)) (201 : Int) x4), ()))

def spec_treeSize.B (N : Nat) (R_spec_treeSize : ImplTree → Int → Option (Int × Unit)) (E0 : Int × ImplTree × Int × Int × Unit → Option (Int × Unit)) (x0 : ImplTree) (x1 : Int) : Option (Int × Unit) :=
 br (decide (x1 > (24 : Int))) (
  some ((201 : Int), ())) (
  E0 (x1, (ImplTree.mk (ImplTree.tag x0) (ImplTree.key x0) (ImplTree.text x0) (ImplTree.props x0) (ImplTree.kids x0)), (1 : Int), (0 : Int), ()))

def spec_treeSize.L0 (N : Nat) (R_spec_treeSize : ImplTree → Int → Option (Int × Unit)) : Nat → Int × ImplTree × Int × Int × Unit → Option (Int × Unit)
  | 0, _ => none
  | n + 1, x => spec_treeSize.B0 N R_spec_treeSize (spec_treeSize.L0 N R_spec_treeSize n) x

def spec_treeSize.R (N : Nat) : Nat → ImplTree → Int → Option (Int × Unit)
  | 0, _, _ => none
  | d + 1, x0, x1 => spec_treeSize.B N (spec_treeSize.R N d) (spec_treeSize.L0 N (spec_treeSize.R N d) N) x0 x1

def spec_treeSize (N : Nat) (x0 : ImplTree) (x1 : Int) : Option (Int × Unit) := spec_treeSize.R N N x0 x1

def spec_plainByte.B (N : Nat) (x0 : Int) : Option (Bool × Unit) :=
 br (decide (x0 ≥ (97 : Int))) (
  br (decide (x0 ≤ (122 : Int))) (
   some (true, ())) (
   br (decide (x0 ≥ (48 : Int))) (
   br (decide (x0 ≤ (57 : Int))) (
    some (true, ())) (
    some ((x0 == (32 : Int)), ()))) (
   some ((x0 == (32 : Int)), ())))) (
  br (decide (x0 ≥ (48 : Int))) (
  br (decide (x0 ≤ (57 : Int))) (
   some (true, ())) (
   some ((x0 == (32 : Int)), ()))) (
  some ((x0 == (32 : Int)), ())))

def spec_plainByte (N : Nat) (x0 : Int) : Option (Bool × Unit) := spec_plainByte.B N x0

def spec_validWord.B0 (N : Nat) (G0 : (List UInt8) × Int × Unit → Option (Bool × Unit)) : (List UInt8) × Int × Unit → Option (Bool × Unit) :=
fun (x1, x2, ()) =>
 br (decide (x2 < (((List.length x1) : Nat) : Int))) (
  gd (decide ((0 : Int) ≤ x2)) (
  gd (decide (x2 < (((List.length x1) : Nat) : Int))) (
  bnd (spec_plainByte N (((UInt8.toNat (List.getD x1 (Int.toNat x2) 0)) : Nat) : Int)) fun r4 =>
  br (!(r4).1) (
   some (false, ())) (
   G0 (x1, (IntKind.i64.wrap (x2 + (1 : Int))), ()))))) (
  some (true, ()))

def spec_validWord.B (N : Nat) (E0 : (List UInt8) × Int × Unit → Option (Bool × Unit)) (x0 : List UInt8) : Option (Bool × Unit) :=
 br (decide ((((List.length x0) : Nat) : Int) > (12 : Int))) (
  some (false, ())) (
  E0 (x0, (0 : Int), ()))

def spec_validWord.L0 (N : Nat) : Nat → (List UInt8) × Int × Unit → Option (Bool × Unit)
  | 0, _ => none
  | n + 1, x => spec_validWord.B0 N (spec_validWord.L0 N n) x

def spec_validWord (N : Nat) (x0 : List UInt8) : Option (Bool × Unit) := spec_validWord.B N (spec_validWord.L0 N N) x0

def spec_decimal.B (N : Nat) (R_spec_decimal : Int → Option ((List UInt8) × Unit)) (x0 : Int) : Option ((List UInt8) × Unit) :=
 br (decide (x0 < (0 : Int))) (
  bnd (R_spec_decimal (IntKind.i64.wrap ((0 : Int) - x0))) fun r1 =>
  gd (decide (((List.length ([45] : List (UInt8))) + (List.length (r1).1)) < 68719476736)) (
  some ((([45] : List (UInt8)) ++ (r1).1), ()))) (
  br (decide (x0 < (10 : Int))) (
  gd (decide ((0 : Int) ≤ x0)) (
  gd (decide (x0 ≤ (IntKind.i64.wrap (x0 + (1 : Int))))) (
  gd (decide ((IntKind.i64.wrap (x0 + (1 : Int))) ≤ (((List.length ([48, 49, 50, 51, 52, 53, 54, 55, 56, 57] : List (UInt8))) : Nat) : Int))) (
  some ((sub ([48, 49, 50, 51, 52, 53, 54, 55, 56, 57] : List (UInt8)) x0 (IntKind.i64.wrap (x0 + (1 : Int)))), ()))))) (
  bnd (R_spec_decimal (IntKind.i64.wrap (Int.tdiv x0 (10 : Int)))) fun r2 =>
 bnd (R_spec_decimal (Int.tmod x0 (10 : Int))) fun r3 =>
 gd (decide (((List.length (r2).1) + (List.length (r3).1)) < 68719476736)) (
 some (((r2).1 ++ (r3).1), ()))))

def spec_decimal.R (N : Nat) : Nat → Int → Option ((List UInt8) × Unit)
  | 0, _ => none
  | d + 1, x0 => spec_decimal.B N (spec_decimal.R N d) x0

def spec_decimal (N : Nat) (x0 : Int) : Option ((List UInt8) × Unit) := spec_decimal.R N N x0

def spec_validShown.B0 (N : Nat) (G0 : (List UInt8) × Int × Unit → Option (Bool × Unit)) : (List UInt8) × Int × Unit → Option (Bool × Unit) :=
fun (x3, x4, ()) =>
 br (decide (x4 ≤ (1000 : Int))) (
  bnd (spec_decimal N (IntKind.i64.wrap ((0 : Int) - x4))) fun r6 =>
  br (x3 == (r6).1) (
   some (true, ())) (
   G0 (x3, (IntKind.i64.wrap (x4 + (1 : Int))), ()))) (
  some (false, ()))

def spec_validShown.B (N : Nat) (E0 : (List UInt8) × Int × Unit → Option (Bool × Unit)) (x0 : List UInt8) : Option (Bool × Unit) :=
 br ((((List.length x0) : Nat) : Int) == (0 : Int)) (
  bnd (spec_validWord N x0) fun r1 =>
  some ((r1).1, ())) (
  gd (decide ((0 : Int) < (((List.length x0) : Nat) : Int))) (
 br ((((UInt8.toNat (List.getD x0 (Int.toNat (0 : Int)) 0)) : Nat) : Int) != (45 : Int)) (
  bnd (spec_validWord N x0) fun r2 =>
  some ((r2).1, ())) (
  E0 (x0, (1 : Int), ()))))

def spec_validShown.L0 (N : Nat) : Nat → (List UInt8) × Int × Unit → Option (Bool × Unit)
  | 0, _ => none
  | n + 1, x => spec_validShown.B0 N (spec_validShown.L0 N n) x

def spec_validShown (N : Nat) (x0 : List UInt8) : Option (Bool × Unit) := spec_validShown.B N (spec_validShown.L0 N N) x0

def spec_inRange.B (N : Nat) (x0 : Int) (x1 : Int) (x2 : Int) : Option (Bool × Unit) :=
 br (decide (x0 ≥ x1)) (
  some ((decide (x0 ≤ x2)), ())) (
  some (false, ()))

def spec_inRange (N : Nat) (x0 : Int) (x1 : Int) (x2 : Int) : Option (Bool × Unit) := spec_inRange.B N x0 x1 x2

def spec_validValue.B (N : Nat) (x0 : ImplValue) : Option (Bool × Unit) :=
 br ((ImplValue.kind x0) == (0 : Int)) (
  br ((ImplValue.num x0) == (0 : Int)) (
   some (((ImplValue.text x0) == ([] : List (UInt8))), ())) (
   some (false, ()))) (
  br ((ImplValue.kind x0) == (1 : Int)) (
  bnd (spec_inRange N (ImplValue.num x0) (-(1000 : Int)) (1000 : Int)) fun r1 =>
  br (r1).1 (
   some (((ImplValue.text x0) == ([] : List (UInt8))), ())) (
   some (false, ()))) (
  br ((ImplValue.kind x0) == (2 : Int)) (
  br ((ImplValue.num x0) == (0 : Int)) (
   bnd (spec_validWord N (ImplValue.text x0)) fun r2 =>
   some ((r2).1, ())) (
   some (false, ()))) (
  some (false, ()))))

def spec_validValue (N : Nat) (x0 : ImplValue) : Option (Bool × Unit) := spec_validValue.B N x0

def spec_validPropList.B0 (N : Nat) (G0 : (List (ImplProp)) × Int × Unit → Option (Bool × Unit)) : (List (ImplProp)) × Int × Unit → Option (Bool × Unit) :=
fun (x1, x2, ()) =>
 br (decide (x2 < (((List.length x1) : Nat) : Int))) (
  gd (decide ((0 : Int) ≤ x2)) (
  gd (decide (x2 < (((List.length x1) : Nat) : Int))) (
  bnd (spec_inRange N (ImplProp.name (get x1 x2)) (0 : Int) (3 : Int)) fun r4 =>
  br (!(r4).1) (
   some (false, ())) (
   gd (decide ((0 : Int) ≤ x2)) (
  gd (decide (x2 < (((List.length x1) : Nat) : Int))) (
  bnd (spec_validValue N (ImplValue.mk (ImplProp.val_Kind (get x1 x2)) (ImplProp.val_Num (get x1 x2)) (ImplProp.val_Text (get x1 x2)))) fun r5 =>
  br (!(r5).1) (
   some (false, ())) (
   br (decide (x2 > (0 : Int))) (
   gd (decide ((0 : Int) ≤ x2)) (
   gd (decide (x2 < (((List.length x1) : Nat) : Int))) (
   gd (decide ((0 : Int) ≤ (IntKind.i64.wrap (x2 - (1 : Int))))) (
   gd (decide ((IntKind.i64.wrap (x2 - (1 : Int))) < (((List.length x1) : Nat) : Int))) (
   br (decide ((ImplProp.name (get x1 x2)) ≤ (ImplProp.name (get x1 (IntKind.i64.wrap (x2 - (1 : Int))))))) (
    some (false, ())) (
    G0 (x1, (IntKind.i64.wrap (x2 + (1 : Int))), ()))))))) (
   G0 (x1, (IntKind.i64.wrap (x2 + (1 : Int))), ()))))))))) (
  some (true, ()))

def spec_validPropList.B (N : Nat) (E0 : (List (ImplProp)) × Int × Unit → Option (Bool × Unit)) (x0 : List (ImplProp)) : Option (Bool × Unit) :=
 E0 (x0, (0 : Int), ())

def spec_validPropList.L0 (N : Nat) : Nat → (List (ImplProp)) × Int × Unit → Option (Bool × Unit)
  | 0, _ => none
  | n + 1, x => spec_validPropList.B0 N (spec_validPropList.L0 N n) x

def spec_validPropList (N : Nat) (x0 : List (ImplProp)) : Option (Bool × Unit) := spec_validPropList.B N (spec_validPropList.L0 N N) x0

def spec_keysApart.B2 (N : Nat) (G0 : (List (ImplTree)) × Int × Unit → Option (Bool × Unit)) (G2 : (List (ImplTree)) × Int × Int × Unit → Option (Bool × Unit)) : (List (ImplTree)) × Int × Int × Unit → Option (Bool × Unit) :=
fun (x4, x5, x6, ()) =>
 br (decide (x6 < x5)) (
  gd (decide ((0 : Int) ≤ x5)) (
  gd (decide (x5 < (((List.length x4) : Nat) : Int))) (
  br ((ImplTree.key (get x4 x5)) != (-(1 : Int))) (
   gd (decide ((0 : Int) ≤ x5)) (
   gd (decide (x5 < (((List.length x4) : Nat) : Int))) (
   gd (decide ((0 : Int) ≤ x6)) (
   gd (decide (x6 < (((List.length x4) : Nat) : Int))) (
   br ((ImplTree.key (get x4 x5)) == (ImplTree.key (get x4 x6))) (
    some (false, ())) (
    G2 (x4, x5, (IntKind.i64.wrap (x6 + (1 : Int))), ()))))))) (
   G2 (x4, x5, (IntKind.i64.wrap (x6 + (1 : Int))), ()))))) (
  G0 (x4, (IntKind.i64.wrap (x5 + (1 : Int))), ()))

def spec_keysApart.B0 (N : Nat) (E2 : (List (ImplTree)) × Int × Int × Unit → Option (Bool × Unit)) : (List (ImplTree)) × Int × Unit → Option (Bool × Unit) :=
fun (x1, x2, ()) =>
 br (decide (x2 < (((List.length x1) : Nat) : Int))) (
  E2 (x1, x2, (0 : Int), ())) (
  some (true, ()))

def spec_keysApart.B (N : Nat) (E0 : (List (ImplTree)) × Int × Unit → Option (Bool × Unit)) (x0 : List (ImplTree)) : Option (Bool × Unit) :=
 E0 (x0, (0 : Int), ())

def spec_keysApart.L2 (N : Nat) (G0 : (List (ImplTree)) × Int × Unit → Option (Bool × Unit)) : Nat → (List (ImplTree)) × Int × Int × Unit → Option (Bool × Unit)
  | 0, _ => none
  | n + 1, x => spec_keysApart.B2 N G0 (spec_keysApart.L2 N G0 n) x

def spec_keysApart.L0 (N : Nat) : Nat → (List (ImplTree)) × Int × Unit → Option (Bool × Unit)
  | 0, _ => none
  | n + 1, x => spec_keysApart.B0 N (spec_keysApart.L2 N (spec_keysApart.L0 N n) N) x

def spec_keysApart (N : Nat) (x0 : List (ImplTree)) : Option (Bool × Unit) := spec_keysApart.B N (spec_keysApart.L0 N N) x0

def spec_validPart.B0 (N : Nat) (R_spec_validPart : ImplTree → Option (Bool × Unit)) (G0 : ImplTree × Int × Unit → Option (Bool × Unit)) : ImplTree × Int × Unit → Option (Bool × Unit) :=
fun (x5, x6, ()) =>
 br (decide (x6 < (((List.length (ImplTree.kids x5)) : Nat) : Int))) (
  gd (decide ((0 : Int) ≤ x6)) (
  gd (decide (x6 < (((List.length (ImplTree.kids x5)) : Nat) : Int))) (
  bnd (R_spec_validPart (ImplTree.mk (ImplTree.tag (get (ImplTree.kids x5) x6)) (ImplTree.key (get (ImplTree.kids x5) x6)) (ImplTree.text (get (ImplTree.kids x5) x6)) (ImplTree.props (get (ImplTree.kids x5) x6)) (ImplTree.kids (get (ImplTree.kids x5) x6)))) fun r8 =>
  br (!(r8).1) (
   some (false, ())) (
   G0 ((ImplTree.mk (ImplTree.tag x5) (ImplTree.key x5) (ImplTree.text x5) (ImplTree.props x5) (ImplTree.kids x5)), (IntKind.i64.wrap (x6 + (1 : Int))), ()))))) (
  bnd (spec_keysApart N (ImplTree.kids x5)) fun r9 =>
 some ((r9).1, ()))

def spec_validPart.B (N : Nat) (R_spec_validPart : ImplTree → Option (Bool × Unit)) (E0 : ImplTree × Int × Unit → Option (Bool × Unit)) (x0 : ImplTree) : Option (Bool × Unit) :=
 br ((ImplTree.tag x0) == (-(1 : Int))) (
  br ((ImplTree.key x0) == (-(1 : Int))) (
   br ((((List.length (ImplTree.props x0)) : Nat) : Int) == (0 : Int)) (
    br ((((List.length (ImplTree.kids x0)) : Nat) : Int) == (0 : Int)) (
     bnd (spec_validShown N (ImplTree.text x0)) fun r1 =>
     some ((r1).1, ())) (
     some (false, ()))) (
    some (false, ()))) (
   some (false, ()))) (
  bnd (spec_inRange N (ImplTree.tag x0) (0 : Int) (4 : Int)) fun r2 =>
 br (!(r2).1) (
  some (false, ())) (
  bnd (spec_inRange N (ImplTree.key x0) (-(1 : Int)) (99 : Int)) fun r3 =>
 br (!(r3).1) (
  some (false, ())) (
  br (!((ImplTree.text x0) == ([] : List (UInt8)))) (
  some (false, ())) (
  bnd (spec_validPropList N (ImplTree.props x0)) fun r4 =>
 br (!(r4).1) (
  some (false, ())) (
  E0 ((ImplTree.mk (ImplTree.tag x0) (ImplTree.key x0) (ImplTree.text x0) (ImplTree.props x0) (ImplTree.kids x0)), (0 : Int), ()))))))

def spec_validPart.L0 (N : Nat) (R_spec_validPart : ImplTree → Option (Bool × Unit)) : Nat → ImplTree × Int × Unit → Option (Bool × Unit)
  | 0, _ => none
  | n + 1, x => spec_validPart.B0 N R_spec_validPart (spec_validPart.L0 N R_spec_validPart n) x

def spec_validPart.R (N : Nat) : Nat → ImplTree → Option (Bool × Unit)
  | 0, _ => none
  | d + 1, x0 => spec_validPart.B N (spec_validPart.R N d) (spec_validPart.L0 N (spec_validPart.R N d) N) x0

def spec_validPart (N : Nat) (x0 : ImplTree) : Option (Bool × Unit) := spec_validPart.R N N x0

def spec_validTree.B (N : Nat) (x0 : ImplTree) : Option (Bool × Unit) :=
 bnd (spec_treeSize N (ImplTree.mk (ImplTree.tag x0) (ImplTree.key x0) (ImplTree.text x0) (ImplTree.props x0) (ImplTree.kids x0)) (1 : Int)) fun r1 =>
 br (decide ((r1).1 ≤ (200 : Int))) (
  bnd (spec_validPart N (ImplTree.mk (ImplTree.tag x0) (ImplTree.key x0) (ImplTree.text x0) (ImplTree.props x0) (ImplTree.kids x0))) fun r2 =>
  some ((r2).1, ())) (
  some (false, ()))

def spec_validTree (N : Nat) (x0 : ImplTree) : Option (Bool × Unit) := spec_validTree.B N x0

def spec_quoted.B (N : Nat) (x0 : ImplValue) : Option ((List UInt8) × Unit) :=
 br ((ImplValue.kind x0) == (1 : Int)) (
  bnd (spec_decimal N (ImplValue.num x0)) fun r1 =>
  some ((r1).1, ())) (
  br ((ImplValue.kind x0) == (2 : Int)) (
  gd (decide (((List.length ([39] : List (UInt8))) + (List.length (ImplValue.text x0))) < 68719476736)) (
  gd (decide (((List.length (([39] : List (UInt8)) ++ (ImplValue.text x0))) + (List.length ([39] : List (UInt8)))) < 68719476736)) (
  some (((([39] : List (UInt8)) ++ (ImplValue.text x0)) ++ ([39] : List (UInt8))), ())))) (
  some (([45] : List (UInt8)), ())))

def spec_quoted (N : Nat) (x0 : ImplValue) : Option ((List UInt8) × Unit) := spec_quoted.B N x0

def spec_treeWords.B2 (N : Nat) (R_spec_treeWords : ImplTree → Option ((List UInt8) × Unit)) (G2 : ImplTree × (List UInt8) × Int × Unit → Option ((List UInt8) × Unit)) : ImplTree × (List UInt8) × Int × Unit → Option ((List UInt8) × Unit) :=
fun (x11, x12, x13, ()) =>
 br (decide (x13 < (((List.length (ImplTree.kids x11)) : Nat) : Int))) (
  gd (decide (((List.length x12) + (List.length ([32] : List (UInt8)))) < 68719476736)) (
  gd (decide ((0 : Int) ≤ x13)) (
  gd (decide (x13 < (((List.length (ImplTree.kids x11)) : Nat) : Int))) (
  bnd (R_spec_treeWords (ImplTree.mk (ImplTree.tag (get (ImplTree.kids x11) x13)) (ImplTree.key (get (ImplTree.kids x11) x13)) (ImplTree.text (get (ImplTree.kids x11) x13)) (ImplTree.props (get (ImplTree.kids x11) x13)) (ImplTree.kids (get (ImplTree.kids x11) x13)))) fun r15 =>
  gd (decide (((List.length (x12 ++ ([32] : List (UInt8)))) + (List.length (r15).1)) < 68719476736)) (
  G2 ((ImplTree.mk (ImplTree.tag x11) (ImplTree.key x11) (ImplTree.text x11) (ImplTree.props x11) (ImplTree.kids x11)), ((x12 ++ ([32] : List (UInt8))) ++ (r15).1), (IntKind.i64.wrap (x13 + (1 : Int))), ())))))) (
  gd (decide (((List.length x12) + (List.length ([41] : List (UInt8)))) < 68719476736)) (
 some ((x12 ++ ([41] : List (UInt8))), ())))

def spec_treeWords.B0 (N : Nat) (R_spec_treeWords : ImplTree → Option ((List UInt8) × Unit)) (G0 : ImplTree × (List UInt8) × Int × Unit → Option ((List UInt8) × Unit)) (E2 : ImplTree × (List UInt8) × Int × Unit → Option ((List UInt8) × Unit)) : ImplTree × (List UInt8) × Int × Unit → Option ((List UInt8) × Unit) :=
fun (x5, x6, x7, ()) =>
 br (decide (x7 < (((List.length (ImplTree.props x5)) : Nat) : Int))) (
  gd (decide (((List.length x6) + (List.length ([32, 112] : List (UInt8)))) < 68719476736)) (
  gd (decide ((0 : Int) ≤ x7)) (
  gd (decide (x7 < (((List.length (ImplTree.props x5)) : Nat) : Int))) (
  bnd (spec_decimal N (ImplProp.name (get (ImplTree.props x5) x7))) fun r9 =>
  gd (decide (((List.length (x6 ++ ([32, 112] : List (UInt8)))) + (List.length (r9).1)) < 68719476736)) (
  gd (decide (((List.length ((x6 ++ ([32, 112] : List (UInt8))) ++ (r9).1)) + (List.length ([61] : List (UInt8)))) < 68719476736)) (
  gd (decide ((0 : Int) ≤ x7)) (
  gd (decide (x7 < (((List.length (ImplTree.props x5)) : Nat) : Int))) (
  bnd (spec_quoted N (ImplValue.mk (ImplProp.val_Kind (get (ImplTree.props x5) x7)) (ImplProp.val_Num (get (ImplTree.props x5) x7)) (ImplProp.val_Text (get (ImplTree.props x5) x7)))) fun r10 =>
  gd (decide (((List.length (((x6 ++ ([32, 112] : List (UInt8))) ++ (r9).1) ++ ([61] : List (UInt8)))) + (List.length (r10).1)) < 68719476736)) (
  G0 ((ImplTree.mk (ImplTree.tag x5) (ImplTree.key x5) (ImplTree.text x5) (ImplTree.props x5) (ImplTree.kids x5)), ((((x6 ++ ([32, 112] : List (UInt8))) ++ (r9).1) ++ ([61] : List (UInt8))) ++ (r10).1), (IntKind.i64.wrap (x7 + (1 : Int))), ())))))))))) (
  E2 ((ImplTree.mk (ImplTree.tag x5) (ImplTree.key x5) (ImplTree.text x5) (ImplTree.props x5) (ImplTree.kids x5)), x6, (0 : Int), ()))

def spec_treeWords.J6 (N : Nat) (R_spec_treeWords : ImplTree → Option ((List UInt8) × Unit)) (E0 : ImplTree × (List UInt8) × Int × Unit → Option ((List UInt8) × Unit)) : ImplTree × (List UInt8) × Unit → Option ((List UInt8) × Unit) :=
fun (x3, x4, ()) =>
 E0 ((ImplTree.mk (ImplTree.tag x3) (ImplTree.key x3) (ImplTree.text x3) (ImplTree.props x3) (ImplTree.kids x3)), x4, (0 : Int), ())

def spec_treeWords.B (N : Nat) (R_spec_treeWords : ImplTree → Option ((List UInt8) × Unit)) (E0 : ImplTree × (List UInt8) × Int × Unit → Option ((List UInt8) × Unit)) (x0 : ImplTree) : Option ((List UInt8) × Unit) :=
 br ((ImplTree.tag x0) == (-(1 : Int))) (
  gd (decide (((List.length ([39] : List (UInt8))) + (List.length (ImplTree.text x0))) < 68719476736)) (
  gd (decide (((List.length (([39] : List (UInt8)) ++ (ImplTree.text x0))) + (List.length ([39] : List (UInt8)))) < 68719476736)) (
  some (((([39] : List (UInt8)) ++ (ImplTree.text x0)) ++ ([39] : List (UInt8))), ())))) (
  bnd (spec_decimal N (ImplTree.tag x0)) fun r1 =>
 gd (decide (((List.length ([40, 116] : List (UInt8))) + (List.length (r1).1)) < 68719476736)) (
 br ((ImplTree.key x0) != (-(1 : Int))) (
  gd (decide (((List.length (([40, 116] : List (UInt8)) ++ (r1).1)) + (List.length ([32, 107] : List (UInt8)))) < 68719476736)) (
  bnd (spec_decimal N (ImplTree.key x0)) fun r2 =>
  gd (decide (((List.length ((([40, 116] : List (UInt8)) ++ (r1).1) ++ ([32, 107] : List (UInt8)))) + (List.length (r2).1)) < 68719476736)) (
  spec_treeWords.J6 N R_spec_treeWords E0 ((ImplTree.mk (ImplTree.tag x0) (ImplTree.key x0) (ImplTree.text x0) (ImplTree.props x0) (ImplTree.kids x0)), (((([40, 116] : List (UInt8)) ++ (r1).1) ++ ([32, 107] : List (UInt8))) ++ (r2).1), ())))) (
  spec_treeWords.J6 N R_spec_treeWords E0 ((ImplTree.mk (ImplTree.tag x0) (ImplTree.key x0) (ImplTree.text x0) (ImplTree.props x0) (ImplTree.kids x0)), (([40, 116] : List (UInt8)) ++ (r1).1), ()))))

def spec_treeWords.L2 (N : Nat) (R_spec_treeWords : ImplTree → Option ((List UInt8) × Unit)) : Nat → ImplTree × (List UInt8) × Int × Unit → Option ((List UInt8) × Unit)
  | 0, _ => none
  | n + 1, x => spec_treeWords.B2 N R_spec_treeWords (spec_treeWords.L2 N R_spec_treeWords n) x

def spec_treeWords.L0 (N : Nat) (R_spec_treeWords : ImplTree → Option ((List UInt8) × Unit)) : Nat → ImplTree × (List UInt8) × Int × Unit → Option ((List UInt8) × Unit)
  | 0, _ => none
  | n + 1, x => spec_treeWords.B0 N R_spec_treeWords (spec_treeWords.L0 N R_spec_treeWords n) (spec_treeWords.L2 N R_spec_treeWords N) x

def spec_treeWords.R (N : Nat) : Nat → ImplTree → Option ((List UInt8) × Unit)
  | 0, _ => none
  | d + 1, x0 => spec_treeWords.B N (spec_treeWords.R N d) (spec_treeWords.L0 N (spec_treeWords.R N d) N) x0

def spec_treeWords (N : Nat) (x0 : ImplTree) : Option ((List UInt8) × Unit) := spec_treeWords.R N N x0

def spec_headWords.B (N : Nat) (x0 : ImplTree) : Option ((List UInt8) × Unit) :=
 bnd (spec_treeWords N (ImplTree.mk (ImplTree.tag x0) (ImplTree.key x0) (ImplTree.text x0) (ImplTree.props x0) ([] : List (ImplTree)))) fun r1 =>
 some ((r1).1, ())

def spec_headWords (N : Nat) (x0 : ImplTree) : Option ((List UInt8) × Unit) := spec_headWords.B N x0

def spec_outlined.B2 (N : Nat) (R_spec_outlined : ImplTree → Int → List (List UInt8) → Option ((List (List UInt8)) × Unit)) (G2 : Int × (List (List UInt8)) × ImplTree × Int × Unit → Option ((List (List UInt8)) × Unit)) : Int × (List (List UInt8)) × ImplTree × Int × Unit → Option ((List (List UInt8)) × Unit) :=
fun (x10, x11, x12, x13, ()) =>
 br (decide (x13 < (((List.length (ImplTree.kids x12)) : Nat) : Int))) (
  gd (decide ((0 : Int) ≤ x13)) (
  gd (decide (x13 < (((List.length (ImplTree.kids x12)) : Nat) : Int))) (
  bnd (R_spec_outlined (ImplTree.mk (ImplTree.tag (get (ImplTree.kids x12) x13)) (ImplTree.key (get (ImplTree.kids x12) x13)) (ImplTree.text (get (ImplTree.kids x12) x13)) (ImplTree.props (get (ImplTree.kids x12) x13)) (ImplTree.kids (get (ImplTree.kids x12) x13))) (IntKind.i64.wrap (x10 + (1 : Int))) x11) fun r15 =>
  G2 (x10, (r15).1, (ImplTree.mk (ImplTree.tag x12) (ImplTree.key x12) (ImplTree.text x12) (ImplTree.props x12) (ImplTree.kids x12)), (IntKind.i64.wrap (x13 + (1 : Int))), ())))) (
  some (x11, ()))

def spec_outlined.B0 (N : Nat) (R_spec_outlined : ImplTree → Int → List (List UInt8) → Option ((List (List UInt8)) × Unit)) (G0 : Int × (List (List UInt8)) × ImplTree × (List UInt8) × Int × Unit → Option ((List (List UInt8)) × Unit)) (E2 : Int × (List (List UInt8)) × ImplTree × Int × Unit → Option ((List (List UInt8)) × Unit)) : Int × (List (List UInt8)) × ImplTree × (List UInt8) × Int × Unit → Option ((List (List UInt8)) × Unit) :=
fun (x3, x4, x5, x6, x7, ()) =>
 br (decide (x7 < x3)) (
  gd (decide (((List.length x6) + (List.length ([45] : List (UInt8)))) < 68719476736)) (
  G0 (x3, x4, (ImplTree.mk (ImplTree.tag x5) (ImplTree.key x5) (ImplTree.text x5) (ImplTree.props x5) (ImplTree.kids x5)), (x6 ++ ([45] : List (UInt8))), (IntKind.i64.wrap (x7 + (1 : Int))), ()))) (
  bnd (spec_headWords N (ImplTree.mk (ImplTree.tag x5) (ImplTree.key x5) (ImplTree.text x5) (ImplTree.props x5) (ImplTree.kids x5))) fun r9 =>
 gd (decide (((List.length x6) + (List.length (r9).1)) < 68719476736)) (
 gd (decide (((List.length x4) + (List.length ([(x6 ++ (r9).1)] : List (List (UInt8))))) < 68719476736)) (
 E2 (x3, (x4 ++ ([(x6 ++ (r9).1)] : List (List (UInt8)))), (ImplTree.mk (ImplTree.tag x5) (ImplTree.key x5) (ImplTree.text x5) (ImplTree.props x5) (ImplTree.kids x5)), (0 : Int), ()))))

def spec_outlined.B (N : Nat) (R_spec_outlined : ImplTree → Int → List (List UInt8) → Option ((List (List UInt8)) × Unit)) (E0 : Int × (List (List UInt8)) × ImplTree × (List UInt8) × Int × Unit → Option ((List (List UInt8)) × Unit)) (x0 : ImplTree) (x1 : Int) (x2 : List (List UInt8)) : Option ((List (List UInt8)) × Unit) :=
 E0 (x1, x2, (ImplTree.mk (ImplTree.tag x0) (ImplTree.key x0) (ImplTree.text x0) (ImplTree.props x0) (ImplTree.kids x0)), ([] : List (UInt8)), (0 : Int), ())

def spec_outlined.L2 (N : Nat) (R_spec_outlined : ImplTree → Int → List (List UInt8) → Option ((List (List UInt8)) × Unit)) : Nat → Int × (List (List UInt8)) × ImplTree × Int × Unit → Option ((List (List UInt8)) × Unit)
  | 0, _ => none
  | n + 1, x => spec_outlined.B2 N R_spec_outlined (spec_outlined.L2 N R_spec_outlined n) x

def spec_outlined.L0 (N : Nat) (R_spec_outlined : ImplTree → Int → List (List UInt8) → Option ((List (List UInt8)) × Unit)) : Nat → Int × (List (List UInt8)) × ImplTree × (List UInt8) × Int × Unit → Option ((List (List UInt8)) × Unit)
  | 0, _ => none
  | n + 1, x => spec_outlined.B0 N R_spec_outlined (spec_outlined.L0 N R_spec_outlined n) (spec_outlined.L2 N R_spec_outlined N) x

def spec_outlined.R (N : Nat) : Nat → ImplTree → Int → List (List UInt8) → Option ((List (List UInt8)) × Unit)
  | 0, _, _, _ => none
  | d + 1, x0, x1, x2 => spec_outlined.B N (spec_outlined.R N d) (spec_outlined.L0 N (spec_outlined.R N d) N) x0 x1 x2

def spec_outlined (N : Nat) (x0 : ImplTree) (x1 : Int) (x2 : List (List UInt8)) : Option ((List (List UInt8)) × Unit) := spec_outlined.R N N x0 x1 x2

def spec_Outline.B (N : Nat) (x0 : ImplTree) : Option ((List (List UInt8)) × Unit) :=
 bnd (spec_validTree N (ImplTree.mk (ImplTree.tag x0) (ImplTree.key x0) (ImplTree.text x0) (ImplTree.props x0) (ImplTree.kids x0))) fun r1 =>
 br (!(r1).1) (
  some (([] : List (List (UInt8))), ())) (
  bnd (spec_outlined N (ImplTree.mk (ImplTree.tag x0) (ImplTree.key x0) (ImplTree.text x0) (ImplTree.props x0) (ImplTree.kids x0)) (0 : Int) ([] : List (List (UInt8)))) fun r2 =>
 some ((r2).1, ()))

def spec_Outline (N : Nat) (x0 : ImplTree) : Option ((List (List UInt8)) × Unit) := spec_Outline.B N x0

def impl_word.B0 (N : Nat) (G0 : (List UInt8) × Int × Unit → Option (Bool × Unit)) : (List UInt8) × Int × Unit → Option (Bool × Unit) :=
fun (x1, x2, ()) =>
 br (decide (x2 < (((List.length x1) : Nat) : Int))) (
  gd (decide ((0 : Int) ≤ x2)) (
  gd (decide (x2 < (((List.length x1) : Nat) : Int))) (
  br (decide ((((UInt8.toNat (List.getD x1 (Int.toNat x2) 0)) : Nat) : Int) ≥ (97 : Int))) (
   br (decide ((((UInt8.toNat (List.getD x1 (Int.toNat x2) 0)) : Nat) : Int) ≤ (122 : Int))) (
    G0 (x1, (IntKind.i64.wrap (x2 + (1 : Int))), ())) (
    br (decide ((((UInt8.toNat (List.getD x1 (Int.toNat x2) 0)) : Nat) : Int) ≥ (48 : Int))) (
    br (decide ((((UInt8.toNat (List.getD x1 (Int.toNat x2) 0)) : Nat) : Int) ≤ (57 : Int))) (
     G0 (x1, (IntKind.i64.wrap (x2 + (1 : Int))), ())) (
     br (!((((UInt8.toNat (List.getD x1 (Int.toNat x2) 0)) : Nat) : Int) == (32 : Int))) (
     some (false, ())) (
     G0 (x1, (IntKind.i64.wrap (x2 + (1 : Int))), ())))) (
    br (!((((UInt8.toNat (List.getD x1 (Int.toNat x2) 0)) : Nat) : Int) == (32 : Int))) (
    some (false, ())) (
    G0 (x1, (IntKind.i64.wrap (x2 + (1 : Int))), ()))))) (
   br (decide ((((UInt8.toNat (List.getD x1 (Int.toNat x2) 0)) : Nat) : Int) ≥ (48 : Int))) (
   br (decide ((((UInt8.toNat (List.getD x1 (Int.toNat x2) 0)) : Nat) : Int) ≤ (57 : Int))) (
    G0 (x1, (IntKind.i64.wrap (x2 + (1 : Int))), ())) (
    br (!((((UInt8.toNat (List.getD x1 (Int.toNat x2) 0)) : Nat) : Int) == (32 : Int))) (
    some (false, ())) (
    G0 (x1, (IntKind.i64.wrap (x2 + (1 : Int))), ())))) (
   br (!((((UInt8.toNat (List.getD x1 (Int.toNat x2) 0)) : Nat) : Int) == (32 : Int))) (
   some (false, ())) (
   G0 (x1, (IntKind.i64.wrap (x2 + (1 : Int))), ()))))))) (
  some ((decide ((((List.length x1) : Nat) : Int) ≤ (12 : Int))), ()))

def impl_word.B (N : Nat) (E0 : (List UInt8) × Int × Unit → Option (Bool × Unit)) (x0 : List UInt8) : Option (Bool × Unit) :=
 E0 (x0, (0 : Int), ())

def impl_word.L0 (N : Nat) : Nat → (List UInt8) × Int × Unit → Option (Bool × Unit)
  | 0, _ => none
  | n + 1, x => impl_word.B0 N (impl_word.L0 N n) x

def impl_word (N : Nat) (x0 : List UInt8) : Option (Bool × Unit) := impl_word.B N (impl_word.L0 N N) x0

def impl_within.B (N : Nat) (x0 : Int) (x1 : Int) (x2 : Int) : Option (Bool × Unit) :=
 br (decide (x0 ≥ x1)) (
  some ((decide (x0 ≤ x2)), ())) (
  some (false, ()))

def impl_within (N : Nat) (x0 : Int) (x1 : Int) (x2 : Int) : Option (Bool × Unit) := impl_within.B N x0 x1 x2

def impl_shown.B (N : Nat) (x0 : List UInt8) : Option (Bool × Unit) :=
 bnd (impl_word N x0) fun r1 =>
 br (r1).1 (
  some (true, ())) (
  bnd (LibAtoi N x0) fun r2 =>
 br ((r2).2).1 (
  bnd (impl_within N (r2).1 (-(1000 : Int)) (1000 : Int)) fun r3 =>
  br (r3).1 (
   bnd (LibItoa N (r2).1) fun r4 =>
   some (((r4).1 == x0), ())) (
   some (false, ()))) (
  some (false, ())))

def impl_shown (N : Nat) (x0 : List UInt8) : Option (Bool × Unit) := impl_shown.B N x0

def impl_ValOk.B (N : Nat) (x0 : ImplValue) : Option (Bool × Unit) :=
 br ((ImplValue.kind x0) == (0 : Int)) (
  br ((ImplValue.num x0) == (0 : Int)) (
   some (((ImplValue.text x0) == ([] : List (UInt8))), ())) (
   some (false, ()))) (
  br ((ImplValue.kind x0) == (1 : Int)) (
  bnd (impl_within N (ImplValue.num x0) (-(1000 : Int)) (1000 : Int)) fun r1 =>
  br (r1).1 (
   some (((ImplValue.text x0) == ([] : List (UInt8))), ())) (
   some (false, ()))) (
  br ((ImplValue.kind x0) == (2 : Int)) (
  br ((ImplValue.num x0) == (0 : Int)) (
   bnd (impl_word N (ImplValue.text x0)) fun r2 =>
   some ((r2).1, ())) (
   some (false, ()))) (
  some (false, ()))))

def impl_ValOk (N : Nat) (x0 : ImplValue) : Option (Bool × Unit) := impl_ValOk.B N x0

def impl_treeFits.B2 (N : Nat) (R_impl_treeFits : ImplTree → Int → Int → Option (Int × Bool × Unit)) (G2 : Int × Int × (List (Int)) × (List (ImplTree)) × Int × Int × Unit → Option (Int × Bool × Unit)) : Int × Int × (List (Int)) × (List (ImplTree)) × Int × Int × Unit → Option (Int × Bool × Unit) :=
fun (x16, x17, x18, x19, x20, x21, ()) =>
 br (decide (x21 < x20)) (
  gd (decide ((0 : Int) ≤ x21)) (
  gd (decide (x21 < (((List.length x19) : Nat) : Int))) (
  br ((ImplTree.key (get x19 x21)) != (-(1 : Int))) (
   br (mapHas x18 (ImplTree.key (get x19 x21))) (
    some (x17, false, ())) (
    bnd (R_impl_treeFits (ImplTree.mk (ImplTree.tag (get x19 x21)) (ImplTree.key (get x19 x21)) (ImplTree.text (get x19 x21)) (ImplTree.props (get x19 x21)) (ImplTree.kids (get x19 x21))) (IntKind.i64.wrap (x16 + (1 : Int))) x17) fun r23 =>
   br (!((r23).2).1) (
    some ((r23).1, false, ())) (
    G2 (x16, (r23).1, (mapPut x18 (ImplTree.key (get x19 x21))), x19, x20, (IntKind.i64.wrap (x21 + (1 : Int))), ())))) (
   bnd (R_impl_treeFits (ImplTree.mk (ImplTree.tag (get x19 x21)) (ImplTree.key (get x19 x21)) (ImplTree.text (get x19 x21)) (ImplTree.props (get x19 x21)) (ImplTree.kids (get x19 x21))) (IntKind.i64.wrap (x16 + (1 : Int))) x17) fun r24 =>
  br (!((r24).2).1) (
   some ((r24).1, false, ())) (
   G2 (x16, (r24).1, (mapPut x18 (ImplTree.key (get x19 x21))), x19, x20, (IntKind.i64.wrap (x21 + (1 : Int))), ())))))) (
  some (x17, true, ()))

def impl_treeFits.B0 (N : Nat) (R_impl_treeFits : ImplTree → Int → Int → Option (Int × Bool × Unit)) (G0 : Int × Int × ImplTree × (List (ImplProp)) × Int × Int × Unit → Option (Int × Bool × Unit)) (E2 : Int × Int × (List (Int)) × (List (ImplTree)) × Int × Int × Unit → Option (Int × Bool × Unit)) : Int × Int × ImplTree × (List (ImplProp)) × Int × Int × Unit → Option (Int × Bool × Unit) :=
fun (x6, x7, x8, x9, x10, x11, ()) =>
 br (decide (x11 < x10)) (
  gd (decide ((0 : Int) ≤ x11)) (
  gd (decide (x11 < (((List.length x9) : Nat) : Int))) (
  bnd (impl_within N (ImplProp.name (get x9 x11)) (0 : Int) (3 : Int)) fun r13 =>
  br (!(r13).1) (
   some (x7, false, ())) (
   br (decide (x11 > (0 : Int))) (
   gd (decide ((0 : Int) ≤ (IntKind.i64.wrap (x11 - (1 : Int))))) (
   gd (decide ((IntKind.i64.wrap (x11 - (1 : Int))) < (((List.length (ImplTree.props x8)) : Nat) : Int))) (
   br (decide ((ImplProp.name (get x9 x11)) ≤ (ImplProp.name (get (ImplTree.props x8) (IntKind.i64.wrap (x11 - (1 : Int))))))) (
    some (x7, false, ())) (
    bnd (impl_ValOk N (ImplValue.mk (ImplProp.val_Kind (get x9 x11)) (ImplProp.val_Num (get x9 x11)) (ImplProp.val_Text (get x9 x11)))) fun r14 =>
   br (!(r14).1) (
    some (x7, false, ())) (
    G0 (x6, x7, (ImplTree.mk (ImplTree.tag x8) (ImplTree.key x8) (ImplTree.text x8) (ImplTree.props x8) (ImplTree.kids x8)), x9, x10, (IntKind.i64.wrap (x11 + (1 : Int))), ())))))) (
   bnd (impl_ValOk N (ImplValue.mk (ImplProp.val_Kind (get x9 x11)) (ImplProp.val_Num (get x9 x11)) (ImplProp.val_Text (get x9 x11)))) fun r15 =>
  br (!(r15).1) (
   some (x7, false, ())) (
   G0 (x6, x7, (ImplTree.mk (ImplTree.tag x8) (ImplTree.key x8) (ImplTree.text x8) (ImplTree.props x8) (ImplTree.kids x8)), x9, x10, (IntKind.i64.wrap (x11 + (1 : Int))), ()))))))) (
  E2 (x6, x7, ([] : List (Int)), (ImplTree.kids x8), (((List.length (ImplTree.kids x8)) : Nat) : Int), (0 : Int), ()))

def impl_treeFits.B (N : Nat) (R_impl_treeFits : ImplTree → Int → Int → Option (Int × Bool × Unit)) (E0 : Int × Int × ImplTree × (List (ImplProp)) × Int × Int × Unit → Option (Int × Bool × Unit)) (x0 : ImplTree) (x1 : Int) (x2 : Int) : Option (Int × Bool × Unit) :=
 br (decide (x1 > (24 : Int))) (
  some ((IntKind.i64.wrap (x2 - (1 : Int))), false, ())) (
  br (decide ((IntKind.i64.wrap (x2 - (1 : Int))) < (0 : Int))) (
  some ((IntKind.i64.wrap (x2 - (1 : Int))), false, ())) (
  br ((ImplTree.tag x0) == (-(1 : Int))) (
  br ((ImplTree.key x0) == (-(1 : Int))) (
   bnd (impl_shown N (ImplTree.text x0)) fun r3 =>
   br (r3).1 (
    br ((((List.length (ImplTree.props x0)) : Nat) : Int) == (0 : Int)) (
     some ((IntKind.i64.wrap (x2 - (1 : Int))), ((((List.length (ImplTree.kids x0)) : Nat) : Int) == (0 : Int)), ())) (
     some ((IntKind.i64.wrap (x2 - (1 : Int))), false, ()))) (
    some ((IntKind.i64.wrap (x2 - (1 : Int))), false, ()))) (
   some ((IntKind.i64.wrap (x2 - (1 : Int))), false, ()))) (
  bnd (impl_within N (ImplTree.tag x0) (0 : Int) (4 : Int)) fun r4 =>
 br (!(r4).1) (
  some ((IntKind.i64.wrap (x2 - (1 : Int))), false, ())) (
  bnd (impl_within N (ImplTree.key x0) (-(1 : Int)) (99 : Int)) fun r5 =>
 br (!(r5).1) (
  some ((IntKind.i64.wrap (x2 - (1 : Int))), false, ())) (
  br (!((ImplTree.text x0) == ([] : List (UInt8)))) (
  some ((IntKind.i64.wrap (x2 - (1 : Int))), false, ())) (
  E0 (x1, (IntKind.i64.wrap (x2 - (1 : Int))), (ImplTree.mk (ImplTree.tag x0) (ImplTree.key x0) (ImplTree.text x0) (ImplTree.props x0) (ImplTree.kids x0)), (ImplTree.props x0), (((List.length (ImplTree.props x0)) : Nat) : Int), (0 : Int), ())))))))

def impl_treeFits.L2 (N : Nat) (R_impl_treeFits : ImplTree → Int → Int → Option (Int × Bool × Unit)) : Nat → Int × Int × (List (Int)) × (List (ImplTree)) × Int × Int × Unit → Option (Int × Bool × Unit)
  | 0, _ => none
  | n + 1, x => impl_treeFits.B2 N R_impl_treeFits (impl_treeFits.L2 N R_impl_treeFits n) x

def impl_treeFits.L0 (N : Nat) (R_impl_treeFits : ImplTree → Int → Int → Option (Int × Bool × Unit)) : Nat → Int × Int × ImplTree × (List (ImplProp)) × Int × Int × Unit → Option (Int × Bool × Unit)
  | 0, _ => none
  | n + 1, x => impl_treeFits.B0 N R_impl_treeFits (impl_treeFits.L0 N R_impl_treeFits n) (impl_treeFits.L2 N R_impl_treeFits N) x

def impl_treeFits.R (N : Nat) : Nat → ImplTree → Int → Int → Option (Int × Bool × Unit)
  | 0, _, _, _ => none
  | d + 1, x0, x1, x2 => impl_treeFits.B N (impl_treeFits.R N d) (impl_treeFits.L0 N (impl_treeFits.R N d) N) x0 x1 x2

def impl_treeFits (N : Nat) (x0 : ImplTree) (x1 : Int) (x2 : Int) : Option (Int × Bool × Unit) := impl_treeFits.R N N x0 x1 x2

def impl_TreeOk.B (N : Nat) (x0 : ImplTree) : Option (Bool × Unit) :=
 bnd (impl_treeFits N (ImplTree.mk (ImplTree.tag x0) (ImplTree.key x0) (ImplTree.text x0) (ImplTree.props x0) (ImplTree.kids x0)) (1 : Int) (200 : Int)) fun r1 =>
 some (((r1).2).1, ())

def impl_TreeOk (N : Nat) (x0 : ImplTree) : Option (Bool × Unit) := impl_TreeOk.B N x0

def impl_quote.B (N : Nat) (x0 : List UInt8) : Option ((List UInt8) × Unit) :=
 gd (decide (((List.length ([39] : List (UInt8))) + (List.length x0)) < 68719476736)) (
 gd (decide (((List.length (([39] : List (UInt8)) ++ x0)) + (List.length ([39] : List (UInt8)))) < 68719476736)) (
 some (((([39] : List (UInt8)) ++ x0) ++ ([39] : List (UInt8))), ())))

def impl_quote (N : Nat) (x0 : List UInt8) : Option ((List UInt8) × Unit) := impl_quote.B N x0

def impl_valText.B (N : Nat) (x0 : ImplValue) : Option ((List UInt8) × Unit) :=
 br ((ImplValue.kind x0) == (1 : Int)) (
  bnd (LibItoa N (ImplValue.num x0)) fun r1 =>
  some ((r1).1, ())) (
  br ((ImplValue.kind x0) == (2 : Int)) (
  bnd (impl_quote N (ImplValue.text x0)) fun r2 =>
  some ((r2).1, ())) (
  some (([45] : List (UInt8)), ())))

def impl_valText (N : Nat) (x0 : ImplValue) : Option ((List UInt8) × Unit) := impl_valText.B N x0

def impl_treeWrite.B2 (N : Nat) (R_impl_treeWrite : ImplTree → Option ((List UInt8) × Unit)) (G2 : (List UInt8) × (List (ImplTree)) × Int × Int × Unit → Option ((List UInt8) × Unit)) : (List UInt8) × (List (ImplTree)) × Int × Int × Unit → Option ((List UInt8) × Unit) :=
fun (x14, x15, x16, x17, ()) =>
 br (decide (x17 < x16)) (
  gd (decide ((0 : Int) ≤ x17)) (
  gd (decide (x17 < (((List.length x15) : Nat) : Int))) (
  bnd (R_impl_treeWrite (ImplTree.mk (ImplTree.tag (get x15 x17)) (ImplTree.key (get x15 x17)) (ImplTree.text (get x15 x17)) (ImplTree.props (get x15 x17)) (ImplTree.kids (get x15 x17)))) fun r19 =>
  gd (decide (((List.length ([32] : List (UInt8))) + (List.length (r19).1)) < 68719476736)) (
  gd (decide (((List.length x14) + (List.length (([32] : List (UInt8)) ++ (r19).1))) < 68719476736)) (
  G2 ((x14 ++ (([32] : List (UInt8)) ++ (r19).1)), x15, x16, (IntKind.i64.wrap (x17 + (1 : Int))), ())))))) (
  gd (decide (((List.length x14) + (List.length ([41] : List (UInt8)))) < 68719476736)) (
 some ((x14 ++ ([41] : List (UInt8))), ())))

def impl_treeWrite.B0 (N : Nat) (R_impl_treeWrite : ImplTree → Option ((List UInt8) × Unit)) (G0 : ImplTree × (List UInt8) × (List (ImplProp)) × Int × Int × Unit → Option ((List UInt8) × Unit)) (E2 : (List UInt8) × (List (ImplTree)) × Int × Int × Unit → Option ((List UInt8) × Unit)) : ImplTree × (List UInt8) × (List (ImplProp)) × Int × Int × Unit → Option ((List UInt8) × Unit) :=
fun (x6, x7, x8, x9, x10, ()) =>
 br (decide (x10 < x9)) (
  gd (decide ((0 : Int) ≤ x10)) (
  gd (decide (x10 < (((List.length x8) : Nat) : Int))) (
  bnd (LibItoa N (ImplProp.name (get x8 x10))) fun r12 =>
  gd (decide (((List.length ([32, 112] : List (UInt8))) + (List.length (r12).1)) < 68719476736)) (
  gd (decide (((List.length (([32, 112] : List (UInt8)) ++ (r12).1)) + (List.length ([61] : List (UInt8)))) < 68719476736)) (
  bnd (impl_valText N (ImplValue.mk (ImplProp.val_Kind (get x8 x10)) (ImplProp.val_Num (get x8 x10)) (ImplProp.val_Text (get x8 x10)))) fun r13 =>
  gd (decide (((List.length ((([32, 112] : List (UInt8)) ++ (r12).1) ++ ([61] : List (UInt8)))) + (List.length (r13).1)) < 68719476736)) (
  gd (decide (((List.length x7) + (List.length (((([32, 112] : List (UInt8)) ++ (r12).1) ++ ([61] : List (UInt8))) ++ (r13).1))) < 68719476736)) (
  G0 ((ImplTree.mk (ImplTree.tag x6) (ImplTree.key x6) (ImplTree.text x6) (ImplTree.props x6) (ImplTree.kids x6)), (x7 ++ (((([32, 112] : List (UInt8)) ++ (r12).1) ++ ([61] : List (UInt8))) ++ (r13).1)), x8, x9, (IntKind.i64.wrap (x10 + (1 : Int))), ())))))))) (
  E2 (x7, (ImplTree.kids x6), (((List.length (ImplTree.kids x6)) : Nat) : Int), (0 : Int), ()))

def impl_treeWrite.J6 (N : Nat) (R_impl_treeWrite : ImplTree → Option ((List UInt8) × Unit)) (E0 : ImplTree × (List UInt8) × (List (ImplProp)) × Int × Int × Unit → Option ((List UInt8) × Unit)) : ImplTree × (List UInt8) × Unit → Option ((List UInt8) × Unit) :=
fun (x4, x5, ()) =>
 E0 ((ImplTree.mk (ImplTree.tag x4) (ImplTree.key x4) (ImplTree.text x4) (ImplTree.props x4) (ImplTree.kids x4)), x5, (ImplTree.props x4), (((List.length (ImplTree.props x4)) : Nat) : Int), (0 : Int), ())

def impl_treeWrite.B (N : Nat) (R_impl_treeWrite : ImplTree → Option ((List UInt8) × Unit)) (E0 : ImplTree × (List UInt8) × (List (ImplProp)) × Int × Int × Unit → Option ((List UInt8) × Unit)) (x0 : ImplTree) : Option ((List UInt8) × Unit) :=
 br ((ImplTree.tag x0) == (-(1 : Int))) (
  bnd (impl_quote N (ImplTree.text x0)) fun r1 =>
  some ((r1).1, ())) (
  bnd (LibItoa N (ImplTree.tag x0)) fun r2 =>
 gd (decide (((List.length ([40, 116] : List (UInt8))) + (List.length (r2).1)) < 68719476736)) (
 br ((ImplTree.key x0) != (-(1 : Int))) (
  bnd (LibItoa N (ImplTree.key x0)) fun r3 =>
  gd (decide (((List.length ([32, 107] : List (UInt8))) + (List.length (r3).1)) < 68719476736)) (
  gd (decide (((List.length (([40, 116] : List (UInt8)) ++ (r2).1)) + (List.length (([32, 107] : List (UInt8)) ++ (r3).1))) < 68719476736)) (
  impl_treeWrite.J6 N R_impl_treeWrite E0 ((ImplTree.mk (ImplTree.tag x0) (ImplTree.key x0) (ImplTree.text x0) (ImplTree.props x0) (ImplTree.kids x0)), ((([40, 116] : List (UInt8)) ++ (r2).1) ++ (([32, 107] : List (UInt8)) ++ (r3).1)), ())))) (
  impl_treeWrite.J6 N R_impl_treeWrite E0 ((ImplTree.mk (ImplTree.tag x0) (ImplTree.key x0) (ImplTree.text x0) (ImplTree.props x0) (ImplTree.kids x0)), (([40, 116] : List (UInt8)) ++ (r2).1), ()))))

def impl_treeWrite.L2 (N : Nat) (R_impl_treeWrite : ImplTree → Option ((List UInt8) × Unit)) : Nat → (List UInt8) × (List (ImplTree)) × Int × Int × Unit → Option ((List UInt8) × Unit)
  | 0, _ => none
  | n + 1, x => impl_treeWrite.B2 N R_impl_treeWrite (impl_treeWrite.L2 N R_impl_treeWrite n) x

def impl_treeWrite.L0 (N : Nat) (R_impl_treeWrite : ImplTree → Option ((List UInt8) × Unit)) : Nat → ImplTree × (List UInt8) × (List (ImplProp)) × Int × Int × Unit → Option ((List UInt8) × Unit)
  | 0, _ => none
  | n + 1, x => impl_treeWrite.B0 N R_impl_treeWrite (impl_treeWrite.L0 N R_impl_treeWrite n) (impl_treeWrite.L2 N R_impl_treeWrite N) x

def impl_treeWrite.R (N : Nat) : Nat → ImplTree → Option ((List UInt8) × Unit)
  | 0, _ => none
  | d + 1, x0 => impl_treeWrite.B N (impl_treeWrite.R N d) (impl_treeWrite.L0 N (impl_treeWrite.R N d) N) x0

def impl_treeWrite (N : Nat) (x0 : ImplTree) : Option ((List UInt8) × Unit) := impl_treeWrite.R N N x0

def impl_outline.B0 (N : Nat) (R_impl_outline : ImplTree → Int → Option ((List (List UInt8)) × Unit)) (G0 : Int × (List (List UInt8)) × (List (ImplTree)) × Int × Int × Unit → Option ((List (List UInt8)) × Unit)) : Int × (List (List UInt8)) × (List (ImplTree)) × Int × Int × Unit → Option ((List (List UInt8)) × Unit) :=
fun (x4, x5, x6, x7, x8, ()) =>
 br (decide (x8 < x7)) (
  gd (decide ((0 : Int) ≤ x8)) (
  gd (decide (x8 < (((List.length x6) : Nat) : Int))) (
  bnd (R_impl_outline (ImplTree.mk (ImplTree.tag (get x6 x8)) (ImplTree.key (get x6 x8)) (ImplTree.text (get x6 x8)) (ImplTree.props (get x6 x8)) (ImplTree.kids (get x6 x8))) (IntKind.i64.wrap (x4 + (1 : Int)))) fun r10 =>
  gd (decide (((List.length x5) + (List.length (r10).1)) < 68719476736)) (
  G0 (x4, (x5 ++ (r10).1), x6, x7, (IntKind.i64.wrap (x8 + (1 : Int))), ()))))) (
  some (x5, ()))

def impl_outline.B (N : Nat) (R_impl_outline : ImplTree → Int → Option ((List (List UInt8)) × Unit)) (E0 : Int × (List (List UInt8)) × (List (ImplTree)) × Int × Int × Unit → Option ((List (List UInt8)) × Unit)) (x0 : ImplTree) (x1 : Int) : Option ((List (List UInt8)) × Unit) :=
 bnd (LibRepeat N ([45] : List (UInt8)) x1) fun r2 =>
 bnd (impl_treeWrite N (ImplTree.mk (ImplTree.tag x0) (ImplTree.key x0) (ImplTree.text x0) (ImplTree.props x0) ([] : List (ImplTree)))) fun r3 =>
 gd (decide (((List.length (r2).1) + (List.length (r3).1)) < 68719476736)) (
 E0 (x1, ([((r2).1 ++ (r3).1)] : List (List (UInt8))), (ImplTree.kids x0), (((List.length (ImplTree.kids x0)) : Nat) : Int), (0 : Int), ()))

def impl_outline.L0 (N : Nat) (R_impl_outline : ImplTree → Int → Option ((List (List UInt8)) × Unit)) : Nat → Int × (List (List UInt8)) × (List (ImplTree)) × Int × Int × Unit → Option ((List (List UInt8)) × Unit)
  | 0, _ => none
  | n + 1, x => impl_outline.B0 N R_impl_outline (impl_outline.L0 N R_impl_outline n) x

def impl_outline.R (N : Nat) : Nat → ImplTree → Int → Option ((List (List UInt8)) × Unit)
  | 0, _, _ => none
  | d + 1, x0, x1 => impl_outline.B N (impl_outline.R N d) (impl_outline.L0 N (impl_outline.R N d) N) x0 x1

def impl_outline (N : Nat) (x0 : ImplTree) (x1 : Int) : Option ((List (List UInt8)) × Unit) := impl_outline.R N N x0 x1

def impl_Outline.B (N : Nat) (x0 : ImplTree) : Option ((List (List UInt8)) × Unit) :=
 bnd (impl_TreeOk N (ImplTree.mk (ImplTree.tag x0) (ImplTree.key x0) (ImplTree.text x0) (ImplTree.props x0) (ImplTree.kids x0))) fun r1 =>
 br (!(r1).1) (
  some (([] : List (List (UInt8))), ())) (
  bnd (impl_outline N (ImplTree.mk (ImplTree.tag x0) (ImplTree.key x0) (ImplTree.text x0) (ImplTree.props x0) (ImplTree.kids x0)) (0 : Int)) fun r2 =>
 some ((r2).1, ()))

def impl_Outline (N : Nat) (x0 : ImplTree) : Option ((List (List UInt8)) × Unit) := impl_Outline.B N x0

def laws_eqStringS.B0 (N : Nat) (G0 : (List (List UInt8)) × (List (List UInt8)) × Int × Unit → Option (Bool × Unit)) : (List (List UInt8)) × (List (List UInt8)) × Int × Unit → Option (Bool × Unit) :=
fun (x2, x3, x4, ()) =>
 br (decide (x4 < (((List.length x2) : Nat) : Int))) (
  gd (decide ((0 : Int) ≤ x4)) (
  gd (decide (x4 < (((List.length x2) : Nat) : Int))) (
  gd (decide ((0 : Int) ≤ x4)) (
  gd (decide (x4 < (((List.length x3) : Nat) : Int))) (
  br (!((get x2 x4) == (get x3 x4))) (
   some (false, ())) (
   G0 (x2, x3, (IntKind.i64.wrap (x4 + (1 : Int))), ()))))))) (
  some (true, ()))

def laws_eqStringS.B (N : Nat) (E0 : (List (List UInt8)) × (List (List UInt8)) × Int × Unit → Option (Bool × Unit)) (x0 : List (List UInt8)) (x1 : List (List UInt8)) : Option (Bool × Unit) :=
 br ((((List.length x0) : Nat) : Int) != (((List.length x1) : Nat) : Int)) (
  some (false, ())) (
  E0 (x0, x1, (0 : Int), ()))

def laws_eqStringS.L0 (N : Nat) : Nat → (List (List UInt8)) × (List (List UInt8)) × Int × Unit → Option (Bool × Unit)
  | 0, _ => none
  | n + 1, x => laws_eqStringS.B0 N (laws_eqStringS.L0 N n) x

def laws_eqStringS (N : Nat) (x0 : List (List UInt8)) (x1 : List (List UInt8)) : Option (Bool × Unit) := laws_eqStringS.B N (laws_eqStringS.L0 N N) x0 x1

def laws_eqValue.B (N : Nat) (x0 : ImplValue) (x1 : ImplValue) : Option (Bool × Unit) :=
 br ((ImplValue.kind x0) != (ImplValue.kind x1)) (
  some (false, ())) (
  br ((ImplValue.num x0) != (ImplValue.num x1)) (
  some (false, ())) (
  br (!((ImplValue.text x0) == (ImplValue.text x1))) (
  some (false, ())) (
  some (true, ()))))

def laws_eqValue (N : Nat) (x0 : ImplValue) (x1 : ImplValue) : Option (Bool × Unit) := laws_eqValue.B N x0 x1

def laws_eqProp.B (N : Nat) (x0 : ImplProp) (x1 : ImplProp) : Option (Bool × Unit) :=
 br ((ImplProp.name x0) != (ImplProp.name x1)) (
  some (false, ())) (
  bnd (laws_eqValue N (ImplValue.mk (ImplProp.val_Kind x0) (ImplProp.val_Num x0) (ImplProp.val_Text x0)) (ImplValue.mk (ImplProp.val_Kind x1) (ImplProp.val_Num x1) (ImplProp.val_Text x1))) fun r2 =>
 br (!(r2).1) (
  some (false, ())) (
  some (true, ())))

def laws_eqProp (N : Nat) (x0 : ImplProp) (x1 : ImplProp) : Option (Bool × Unit) := laws_eqProp.B N x0 x1

def laws_eqPropS.B0 (N : Nat) (G0 : (List (ImplProp)) × (List (ImplProp)) × Int × Unit → Option (Bool × Unit)) : (List (ImplProp)) × (List (ImplProp)) × Int × Unit → Option (Bool × Unit) :=
fun (x2, x3, x4, ()) =>
 br (decide (x4 < (((List.length x2) : Nat) : Int))) (
  gd (decide ((0 : Int) ≤ x4)) (
  gd (decide (x4 < (((List.length x2) : Nat) : Int))) (
  gd (decide ((0 : Int) ≤ x4)) (
  gd (decide (x4 < (((List.length x3) : Nat) : Int))) (
  bnd (laws_eqProp N (get x2 x4) (get x3 x4)) fun r6 =>
  br (!(r6).1) (
   some (false, ())) (
   G0 (x2, x3, (IntKind.i64.wrap (x4 + (1 : Int))), ()))))))) (
  some (true, ()))

def laws_eqPropS.B (N : Nat) (E0 : (List (ImplProp)) × (List (ImplProp)) × Int × Unit → Option (Bool × Unit)) (x0 : List (ImplProp)) (x1 : List (ImplProp)) : Option (Bool × Unit) :=
 br ((((List.length x0) : Nat) : Int) != (((List.length x1) : Nat) : Int)) (
  some (false, ())) (
  E0 (x0, x1, (0 : Int), ()))

def laws_eqPropS.L0 (N : Nat) : Nat → (List (ImplProp)) × (List (ImplProp)) × Int × Unit → Option (Bool × Unit)
  | 0, _ => none
  | n + 1, x => laws_eqPropS.B0 N (laws_eqPropS.L0 N n) x

def laws_eqPropS (N : Nat) (x0 : List (ImplProp)) (x1 : List (ImplProp)) : Option (Bool × Unit) := laws_eqPropS.B N (laws_eqPropS.L0 N N) x0 x1

def laws_eqTreeS.B0 (N : Nat) (R_laws_eqTreeS : List (ImplTree) → List (ImplTree) → Option (Bool × Unit)) (R_laws_eqTree : ImplTree → ImplTree → Option (Bool × Unit)) (G0 : (List (ImplTree)) × (List (ImplTree)) × Int × Unit → Option (Bool × Unit)) : (List (ImplTree)) × (List (ImplTree)) × Int × Unit → Option (Bool × Unit) :=
fun (x2, x3, x4, ()) =>
 br (decide (x4 < (((List.length x2) : Nat) : Int))) (
  gd (decide ((0 : Int) ≤ x4)) (
  gd (decide (x4 < (((List.length x2) : Nat) : Int))) (
  gd (decide ((0 : Int) ≤ x4)) (
  gd (decide (x4 < (((List.length x3) : Nat) : Int))) (
  bnd (R_laws_eqTree (ImplTree.mk (ImplTree.tag (get x2 x4)) (ImplTree.key (get x2 x4)) (ImplTree.text (get x2 x4)) (ImplTree.props (get x2 x4)) (ImplTree.kids (get x2 x4))) (ImplTree.mk (ImplTree.tag (get x3 x4)) (ImplTree.key (get x3 x4)) (ImplTree.text (get x3 x4)) (ImplTree.props (get x3 x4)) (ImplTree.kids (get x3 x4)))) fun r6 =>
  br (!(r6).1) (
   some (false, ())) (
   G0 (x2, x3, (IntKind.i64.wrap (x4 + (1 : Int))), ()))))))) (
  some (true, ()))

def laws_eqTreeS.B (N : Nat) (R_laws_eqTreeS : List (ImplTree) → List (ImplTree) → Option (Bool × Unit)) (R_laws_eqTree : ImplTree → ImplTree → Option (Bool × Unit)) (E0 : (List (ImplTree)) × (List (ImplTree)) × Int × Unit → Option (Bool × Unit)) (x0 : List (ImplTree)) (x1 : List (ImplTree)) : Option (Bool × Unit) :=
 br ((((List.length x0) : Nat) : Int) != (((List.length x1) : Nat) : Int)) (
  some (false, ())) (
  E0 (x0, x1, (0 : Int), ()))

def laws_eqTreeS.L0 (N : Nat) (R_laws_eqTreeS : List (ImplTree) → List (ImplTree) → Option (Bool × Unit)) (R_laws_eqTree : ImplTree → ImplTree → Option (Bool × Unit)) : Nat → (List (ImplTree)) × (List (ImplTree)) × Int × Unit → Option (Bool × Unit)
  | 0, _ => none
  | n + 1, x => laws_eqTreeS.B0 N R_laws_eqTreeS R_laws_eqTree (laws_eqTreeS.L0 N R_laws_eqTreeS R_laws_eqTree n) x

def laws_eqTree.B (N : Nat) (R_laws_eqTreeS : List (ImplTree) → List (ImplTree) → Option (Bool × Unit)) (R_laws_eqTree : ImplTree → ImplTree → Option (Bool × Unit)) (x0 : ImplTree) (x1 : ImplTree) : Option (Bool × Unit) :=
 br ((ImplTree.tag x0) != (ImplTree.tag x1)) (
  some (false, ())) (
  br ((ImplTree.key x0) != (ImplTree.key x1)) (
  some (false, ())) (
  br (!((ImplTree.text x0) == (ImplTree.text x1))) (
  some (false, ())) (
  bnd (laws_eqPropS N (ImplTree.props x0) (ImplTree.props x1)) fun r2 =>
 br (!(r2).1) (
  some (false, ())) (
  bnd (R_laws_eqTreeS (ImplTree.kids x0) (ImplTree.kids x1)) fun r3 =>
 br (!(r3).1) (
  some (false, ())) (
  some (true, ()))))))

mutual
def laws_eqTreeS.R (N : Nat) : Nat → List (ImplTree) → List (ImplTree) → Option (Bool × Unit)
  | 0, _, _ => none
  | d + 1, x0, x1 => laws_eqTreeS.B N (laws_eqTreeS.R N d) (laws_eqTree.R N d) (laws_eqTreeS.L0 N (laws_eqTreeS.R N d) (laws_eqTree.R N d) N) x0 x1

def laws_eqTree.R (N : Nat) : Nat → ImplTree → ImplTree → Option (Bool × Unit)
  | 0, _, _ => none
  | d + 1, x0, x1 => laws_eqTree.B N (laws_eqTreeS.R N d) (laws_eqTree.R N d) x0 x1

end

def laws_eqTreeS (N : Nat) (x0 : List (ImplTree)) (x1 : List (ImplTree)) : Option (Bool × Unit) := laws_eqTreeS.R N N x0 x1

def laws_eqTree (N : Nat) (x0 : ImplTree) (x1 : ImplTree) : Option (Bool × Unit) := laws_eqTree.R N N x0 x1

def laws_markText.B0 (N : Nat) (G0 : Int × (List UInt8) × Unit → Option ((List UInt8) × Unit)) : Int × (List UInt8) × Unit → Option ((List UInt8) × Unit) :=
fun (x1, x2, ()) =>
 br (decide (x1 > (0 : Int))) (
  gd (decide (((List.length (bytesOf ([(IntKind.u8.wrap (IntKind.i64.wrap ((48 : Int) + (Int.tmod x1 (10 : Int)))))] : List (Int)))) + (List.length x2)) < 68719476736)) (
  G0 ((IntKind.i64.wrap (Int.tdiv x1 (10 : Int))), ((bytesOf ([(IntKind.u8.wrap (IntKind.i64.wrap ((48 : Int) + (Int.tmod x1 (10 : Int)))))] : List (Int))) ++ x2), ()))) (
  gd (decide (((List.length ([109] : List (UInt8))) + (List.length x2)) < 68719476736)) (
 some ((([109] : List (UInt8)) ++ x2), ())))

def laws_markText.B (N : Nat) (E0 : Int × (List UInt8) × Unit → Option ((List UInt8) × Unit)) (x0 : Int) : Option ((List UInt8) × Unit) :=
 br (decide (x0 ≤ (0 : Int))) (
  some (([109, 48] : List (UInt8)), ())) (
  E0 (x0, ([] : List (UInt8)), ()))

def laws_markText.L0 (N : Nat) : Nat → Int × (List UInt8) × Unit → Option ((List UInt8) × Unit)
  | 0, _ => none
  | n + 1, x => laws_markText.B0 N (laws_markText.L0 N n) x

def laws_markText (N : Nat) (x0 : Int) : Option ((List UInt8) × Unit) := laws_markText.B N (laws_markText.L0 N N) x0

def laws_markPropS.B0 (N : Nat) (G0 : (List (ImplProp)) × Int × Int × Unit → Option ((List (ImplProp)) × Int × Unit)) : (List (ImplProp)) × Int × Int × Unit → Option ((List (ImplProp)) × Int × Unit) :=
fun (x2, x3, x4, ()) =>
 br (decide (x4 < (((List.length x2) : Nat) : Int))) (
  gd (decide ((0 : Int) ≤ x4)) (
  gd (decide (x4 < (((List.length x2) : Nat) : Int))) (
  gd (decide ((0 : Int) ≤ x4)) (
  gd (decide (x4 < (((List.length (List.set x2 (Int.toNat x4) (ImplProp.mk x3 (ImplProp.val_Kind (get x2 x4)) (ImplProp.val_Num (get x2 x4)) (ImplProp.val_Text (get x2 x4))))) : Nat) : Int))) (
  gd (decide ((0 : Int) ≤ x4)) (
  gd (decide (x4 < (((List.length (List.set (List.set x2 (Int.toNat x4) (ImplProp.mk x3 (ImplProp.val_Kind (get x2 x4)) (ImplProp.val_Num (get x2 x4)) (ImplProp.val_Text (get x2 x4)))) (Int.toNat x4) (ImplProp.mk (ImplProp.name (get (List.set x2 (Int.toNat x4) (ImplProp.mk x3 (ImplProp.val_Kind (get x2 x4)) (ImplProp.val_Num (get x2 x4)) (ImplProp.val_Text (get x2 x4)))) x4)) (IntKind.i64.wrap (x3 + (1 : Int))) (ImplProp.val_Num (get (List.set x2 (Int.toNat x4) (ImplProp.mk x3 (ImplProp.val_Kind (get x2 x4)) (ImplProp.val_Num (get x2 x4)) (ImplProp.val_Text (get x2 x4)))) x4)) (ImplProp.val_Text (get (List.set x2 (Int.toNat x4) (ImplProp.mk x3 (ImplProp.val_Kind (get x2 x4)) (ImplProp.val_Num (get x2 x4)) (ImplProp.val_Text (get x2 x4)))) x4))))) : Nat) : Int))) (
  bnd (laws_markText N (IntKind.i64.wrap ((IntKind.i64.wrap ((IntKind.i64.wrap (x3 + (1 : Int))) + (1 : Int))) + (1 : Int)))) fun r6 =>
  gd (decide ((0 : Int) ≤ x4)) (
  gd (decide (x4 < (((List.length (List.set (List.set (List.set x2 (Int.toNat x4) (ImplProp.mk x3 (ImplProp.val_Kind (get x2 x4)) (ImplProp.val_Num (get x2 x4)) (ImplProp.val_Text (get x2 x4)))) (Int.toNat x4) (ImplProp.mk (ImplProp.name (get (List.set x2 (Int.toNat x4) (ImplProp.mk x3 (ImplProp.val_Kind (get x2 x4)) (ImplProp.val_Num (get x2 x4)) (ImplProp.val_Text (get x2 x4)))) x4)) (IntKind.i64.wrap (x3 + (1 : Int))) (ImplProp.val_Num (get (List.set x2 (Int.toNat x4) (ImplProp.mk x3 (ImplProp.val_Kind (get x2 x4)) (ImplProp.val_Num (get x2 x4)) (ImplProp.val_Text (get x2 x4)))) x4)) (ImplProp.val_Text (get (List.set x2 (Int.toNat x4) (ImplProp.mk x3 (ImplProp.val_Kind (get x2 x4)) (ImplProp.val_Num (get x2 x4)) (ImplProp.val_Text (get x2 x4)))) x4)))) (Int.toNat x4) (ImplProp.mk (ImplProp.name (get (List.set (List.set x2 (Int.toNat x4) (ImplProp.mk x3 (ImplProp.val_Kind (get x2 x4)) (ImplProp.val_Num (get x2 x4)) (ImplProp.val_Text (get x2 x4)))) (Int.toNat x4) (ImplProp.mk (ImplProp.name (get (List.set x2 (Int.toNat x4) (ImplProp.mk x3 (ImplProp.val_Kind (get x2 x4)) (ImplProp.val_Num (get x2 x4)) (ImplProp.val_Text (get x2 x4)))) x4)) (IntKind.i64.wrap (x3 + (1 : Int))) (ImplProp.val_Num (get (List.set x2 (Int.toNat x4) (ImplProp.mk x3 (ImplProp.val_Kind (get x2 x4)) (ImplProp.val_Num (get x2 x4)) (ImplProp.val_Text (get x2 x4)))) x4)) (ImplProp.val_Text (get (List.set x2 (Int.toNat x4) (ImplProp.mk x3 (ImplProp.val_Kind (get x2 x4)) (ImplProp.val_Num (get x2 x4)) (ImplProp.val_Text (get x2 x4)))) x4)))) x4)) (ImplProp.val_Kind (get (List.set (List.set x2 (Int.toNat x4) (ImplProp.mk x3 (ImplProp.val_Kind (get x2 x4)) (ImplProp.val_Num (get x2 x4)) (ImplProp.val_Text (get x2 x4)))) (Int.toNat x4) (ImplProp.mk (ImplProp.name (get (List.set x2 (Int.toNat x4) (ImplProp.mk x3 (ImplProp.val_Kind (get x2 x4)) (ImplProp.val_Num (get x2 x4)) (ImplProp.val_Text (get x2 x4)))) x4)) (IntKind.i64.wrap (x3 + (1 : Int))) (ImplProp.val_Num (get (List.set x2 (Int.toNat x4) (ImplProp.mk x3 (ImplProp.val_Kind (get x2 x4)) (ImplProp.val_Num (get x2 x4)) (ImplProp.val_Text (get x2 x4)))) x4)) (ImplProp.val_Text (get (List.set x2 (Int.toNat x4) (ImplProp.mk x3 (ImplProp.val_Kind (get x2 x4)) (ImplProp.val_Num (get x2 x4)) (ImplProp.val_Text (get x2 x4)))) x4)))) x4)) (IntKind.i64.wrap ((IntKind.i64.wrap (x3 + (1 : Int))) + (1 : Int))) (ImplProp.val_Text (get (List.set (List.set x2 (Int.toNat x4) (ImplProp.mk x3 (ImplProp.val_Kind (get x2 x4)) (ImplProp.val_Num (get x2 x4)) (ImplProp.val_Text (get x2 x4)))) (Int.toNat x4) (ImplProp.mk (ImplProp.name (get (List.set x2 (Int.toNat x4) (ImplProp.mk x3 (ImplProp.val_Kind (get x2 x4)) (ImplProp.val_Num (get x2 x4)) (ImplProp.val_Text (get x2 x4)))) x4)) (IntKind.i64.wrap (x3 + (1 : Int))) (ImplProp.val_Num (get (List.set x2 (Int.toNat x4) (ImplProp.mk x3 (ImplProp.val_Kind (get x2 x4)) (ImplProp.val_Num (get x2 x4)) (ImplProp.val_Text (get x2 x4)))) x4)) (ImplProp.val_Text (get (List.set x2 (Int.toNat x4) (ImplProp.mk x3 (ImplProp.val_Kind (get x2 x4)) (ImplProp.val_Num (get x2 x4)) (ImplProp.val_Text (get x2 x4)))) x4)))) x4))))) : Nat) : Int))) (
  G0 ((List.set (List.set (List.set (List.set x2 (Int.toNat x4) (ImplProp.mk x3 (ImplProp.val_Kind (get x2 x4)) (ImplProp.val_Num (get x2 x4)) (ImplProp.val_Text (get x2 x4)))) (Int.toNat x4) (ImplProp.mk (ImplProp.name (get (List.set x2 (Int.toNat x4) (ImplProp.mk x3 (ImplProp.val_Kind (get x2 x4)) (ImplProp.val_Num (get x2 x4)) (ImplProp.val_Text (get x2 x4)))) x4)) (IntKind.i64.wrap (x3 + (1 : Int))) (ImplProp.val_Num (get (List.set x2 (Int.toNat x4) (ImplProp.mk x3 (ImplProp.val_Kind (get x2 x4)) (ImplProp.val_Num (get x2 x4)) (ImplProp.val_Text (get x2 x4)))) x4)) (ImplProp.val_Text (get (List.set x2 (Int.toNat x4) (ImplProp.mk x3 (ImplProp.val_Kind (get x2 x4)) (ImplProp.val_Num (get x2 x4)) (ImplProp.val_Text (get x2 x4)))) x4)))) (Int.toNat x4) (ImplProp.mk (ImplProp.name (get (List.set (List.set x2 (Int.toNat x4) (ImplProp.mk x3 (ImplProp.val_Kind (get x2 x4)) (ImplProp.val_Num (get x2 x4)) (ImplProp.val_Text (get x2 x4)))) (Int.toNat x4) (ImplProp.mk (ImplProp.name (get (List.set x2 (Int.toNat x4) (ImplProp.mk x3 (ImplProp.val_Kind (get x2 x4)) (ImplProp.val_Num (get x2 x4)) (ImplProp.val_Text (get x2 x4)))) x4)) (IntKind.i64.wrap (x3 + (1 : Int))) (ImplProp.val_Num (get (List.set x2 (Int.toNat x4) (ImplProp.mk x3 (ImplProp.val_Kind (get x2 x4)) (ImplProp.val_Num (get x2 x4)) (ImplProp.val_Text (get x2 x4)))) x4)) (ImplProp.val_Text (get (List.set x2 (Int.toNat x4) (ImplProp.mk x3 (ImplProp.val_Kind (get x2 x4)) (ImplProp.val_Num (get x2 x4)) (ImplProp.val_Text (get x2 x4)))) x4)))) x4)) (ImplProp.val_Kind (get (List.set (List.set x2 (Int.toNat x4) (ImplProp.mk x3 (ImplProp.val_Kind (get x2 x4)) (ImplProp.val_Num (get x2 x4)) (ImplProp.val_Text (get x2 x4)))) (Int.toNat x4) (ImplProp.mk (ImplProp.name (get (List.set x2 (Int.toNat x4) (ImplProp.mk x3 (ImplProp.val_Kind (get x2 x4)) (ImplProp.val_Num (get x2 x4)) (ImplProp.val_Text (get x2 x4)))) x4)) (IntKind.i64.wrap (x3 + (1 : Int))) (ImplProp.val_Num (get (List.set x2 (Int.toNat x4) (ImplProp.mk x3 (ImplProp.val_Kind (get x2 x4)) (ImplProp.val_Num (get x2 x4)) (ImplProp.val_Text (get x2 x4)))) x4)) (ImplProp.val_Text (get (List.set x2 (Int.toNat x4) (ImplProp.mk x3 (ImplProp.val_Kind (get x2 x4)) (ImplProp.val_Num (get x2 x4)) (ImplProp.val_Text (get x2 x4)))) x4)))) x4)) (IntKind.i64.wrap ((IntKind.i64.wrap (x3 + (1 : Int))) + (1 : Int))) (ImplProp.val_Text (get (List.set (List.set x2 (Int.toNat x4) (ImplProp.mk x3 (ImplProp.val_Kind (get x2 x4)) (ImplProp.val_Num (get x2 x4)) (ImplProp.val_Text (get x2 x4)))) (Int.toNat x4) (ImplProp.mk (ImplProp.name (get (List.set x2 (Int.toNat x4) (ImplProp.mk x3 (ImplProp.val_Kind (get x2 x4)) (ImplProp.val_Num (get x2 x4)) (ImplProp.val_Text (get x2 x4)))) x4)) (IntKind.i64.wrap (x3 + (1 : Int))) (ImplProp.val_Num (get (List.set x2 (Int.toNat x4) (ImplProp.mk x3 (ImplProp.val_Kind (get x2 x4)) (ImplProp.val_Num (get x2 x4)) (ImplProp.val_Text (get x2 x4)))) x4)) (ImplProp.val_Text (get (List.set x2 (Int.toNat x4) (ImplProp.mk x3 (ImplProp.val_Kind (get x2 x4)) (ImplProp.val_Num (get x2 x4)) (ImplProp.val_Text (get x2 x4)))) x4)))) x4)))) (Int.toNat x4) (ImplProp.mk (ImplProp.name (get (List.set (List.set (List.set x2 (Int.toNat x4) (ImplProp.mk x3 (ImplProp.val_Kind (get x2 x4)) (ImplProp.val_Num (get x2 x4)) (ImplProp.val_Text (get x2 x4)))) (Int.toNat x4) (ImplProp.mk (ImplProp.name (get (List.set x2 (Int.toNat x4) (ImplProp.mk x3 (ImplProp.val_Kind (get x2 x4)) (ImplProp.val_Num (get x2 x4)) (ImplProp.val_Text (get x2 x4)))) x4)) (IntKind.i64.wrap (x3 + (1 : Int))) (ImplProp.val_Num (get (List.set x2 (Int.toNat x4) (ImplProp.mk x3 (ImplProp.val_Kind (get x2 x4)) (ImplProp.val_Num (get x2 x4)) (ImplProp.val_Text (get x2 x4)))) x4)) (ImplProp.val_Text (get (List.set x2 (Int.toNat x4) (ImplProp.mk x3 (ImplProp.val_Kind (get x2 x4)) (ImplProp.val_Num (get x2 x4)) (ImplProp.val_Text (get x2 x4)))) x4)))) (Int.toNat x4) (ImplProp.mk (ImplProp.name (get (List.set (List.set x2 (Int.toNat x4) (ImplProp.mk x3 (ImplProp.val_Kind (get x2 x4)) (ImplProp.val_Num (get x2 x4)) (ImplProp.val_Text (get x2 x4)))) (Int.toNat x4) (ImplProp.mk (ImplProp.name (get (List.set x2 (Int.toNat x4) (ImplProp.mk x3 (ImplProp.val_Kind (get x2 x4)) (ImplProp.val_Num (get x2 x4)) (ImplProp.val_Text (get x2 x4)))) x4)) (IntKind.i64.wrap (x3 + (1 : Int))) (ImplProp.val_Num (get (List.set x2 (Int.toNat x4) (ImplProp.mk x3 (ImplProp.val_Kind (get x2 x4)) (ImplProp.val_Num (get x2 x4)) (ImplProp.val_Text (get x2 x4)))) x4)) (ImplProp.val_Text (get (List.set x2 (Int.toNat x4) (ImplProp.mk x3 (ImplProp.val_Kind (get x2 x4)) (ImplProp.val_Num (get x2 x4)) (ImplProp.val_Text (get x2 x4)))) x4)))) x4)) (ImplProp.val_Kind (get (List.set (List.set x2 (Int.toNat x4) (ImplProp.mk x3 (ImplProp.val_Kind (get x2 x4)) (ImplProp.val_Num (get x2 x4)) (ImplProp.val_Text (get x2 x4)))) (Int.toNat x4) (ImplProp.mk (ImplProp.name (get (List.set x2 (Int.toNat x4) (ImplProp.mk x3 (ImplProp.val_Kind (get x2 x4)) (ImplProp.val_Num (get x2 x4)) (ImplProp.val_Text (get x2 x4)))) x4)) (IntKind.i64.wrap (x3 + (1 : Int))) (ImplProp.val_Num (get (List.set x2 (Int.toNat x4) (ImplProp.mk x3 (ImplProp.val_Kind (get x2 x4)) (ImplProp.val_Num (get x2 x4)) (ImplProp.val_Text (get x2 x4)))) x4)) (ImplProp.val_Text (get (List.set x2 (Int.toNat x4) (ImplProp.mk x3 (ImplProp.val_Kind (get x2 x4)) (ImplProp.val_Num (get x2 x4)) (ImplProp.val_Text (get x2 x4)))) x4)))) x4)) (IntKind.i64.wrap ((IntKind.i64.wrap (x3 + (1 : Int))) + (1 : Int))) (ImplProp.val_Text (get (List.set (List.set x2 (Int.toNat x4) (ImplProp.mk x3 (ImplProp.val_Kind (get x2 x4)) (ImplProp.val_Num (get x2 x4)) (ImplProp.val_Text (get x2 x4)))) (Int.toNat x4) (ImplProp.mk (ImplProp.name (get (List.set x2 (Int.toNat x4) (ImplProp.mk x3 (ImplProp.val_Kind (get x2 x4)) (ImplProp.val_Num (get x2 x4)) (ImplProp.val_Text (get x2 x4)))) x4)) (IntKind.i64.wrap (x3 + (1 : Int))) (ImplProp.val_Num (get (List.set x2 (Int.toNat x4) (ImplProp.mk x3 (ImplProp.val_Kind (get x2 x4)) (ImplProp.val_Num (get x2 x4)) (ImplProp.val_Text (get x2 x4)))) x4)) (ImplProp.val_Text (get (List.set x2 (Int.toNat x4) (ImplProp.mk x3 (ImplProp.val_Kind (get x2 x4)) (ImplProp.val_Num (get x2 x4)) (ImplProp.val_Text (get x2 x4)))) x4)))) x4)))) x4)) (ImplProp.val_Kind (get (List.set (List.set (List.set x2 (Int.toNat x4) (ImplProp.mk x3 (ImplProp.val_Kind (get x2 x4)) (ImplProp.val_Num (get x2 x4)) (ImplProp.val_Text (get x2 x4)))) (Int.toNat x4) (ImplProp.mk (ImplProp.name (get (List.set x2 (Int.toNat x4) (ImplProp.mk x3 (ImplProp.val_Kind (get x2 x4)) (ImplProp.val_Num (get x2 x4)) (ImplProp.val_Text (get x2 x4)))) x4)) (IntKind.i64.wrap (x3 + (1 : Int))) (ImplProp.val_Num (get (List.set x2 (Int.toNat x4) (ImplProp.mk x3 (ImplProp.val_Kind (get x2 x4)) (ImplProp.val_Num (get x2 x4)) (ImplProp.val_Text (get x2 x4)))) x4)) (ImplProp.val_Text (get (List.set x2 (Int.toNat x4) (ImplProp.mk x3 (ImplProp.val_Kind (get x2 x4)) (ImplProp.val_Num (get x2 x4)) (ImplProp.val_Text (get x2 x4)))) x4)))) (Int.toNat x4) (ImplProp.mk (ImplProp.name (get (List.set (List.set x2 (Int.toNat x4) (ImplProp.mk x3 (ImplProp.val_Kind (get x2 x4)) (ImplProp.val_Num (get x2 x4)) (ImplProp.val_Text (get x2 x4)))) (Int.toNat x4) (ImplProp.mk (ImplProp.name (get (List.set x2 (Int.toNat x4) (ImplProp.mk x3 (ImplProp.val_Kind (get x2 x4)) (ImplProp.val_Num (get x2 x4)) (ImplProp.val_Text (get x2 x4)))) x4)) (IntKind.i64.wrap (x3 + (1 : Int))) (ImplProp.val_Num (get (List.set x2 (Int.toNat x4) (ImplProp.mk x3 (ImplProp.val_Kind (get x2 x4)) (ImplProp.val_Num (get x2 x4)) (ImplProp.val_Text (get x2 x4)))) x4)) (ImplProp.val_Text (get (List.set x2 (Int.toNat x4) (ImplProp.mk x3 (ImplProp.val_Kind (get x2 x4)) (ImplProp.val_Num (get x2 x4)) (ImplProp.val_Text (get x2 x4)))) x4)))) x4)) (ImplProp.val_Kind (get (List.set (List.set x2 (Int.toNat x4) (ImplProp.mk x3 (ImplProp.val_Kind (get x2 x4)) (ImplProp.val_Num (get x2 x4)) (ImplProp.val_Text (get x2 x4)))) (Int.toNat x4) (ImplProp.mk (ImplProp.name (get (List.set x2 (Int.toNat x4) (ImplProp.mk x3 (ImplProp.val_Kind (get x2 x4)) (ImplProp.val_Num (get x2 x4)) (ImplProp.val_Text (get x2 x4)))) x4)) (IntKind.i64.wrap (x3 + (1 : Int))) (ImplProp.val_Num (get (List.set x2 (Int.toNat x4) (ImplProp.mk x3 (ImplProp.val_Kind (get x2 x4)) (ImplProp.val_Num (get x2 x4)) (ImplProp.val_Text (get x2 x4)))) x4)) (ImplProp.val_Text (get (List.set x2 (Int.toNat x4) (ImplProp.mk x3 (ImplProp.val_Kind (get x2 x4)) (ImplProp.val_Num (get x2 x4)) (ImplProp.val_Text (get x2 x4)))) x4)))) x4)) (IntKind.i64.wrap ((IntKind.i64.wrap (x3 + (1 : Int))) + (1 : Int))) (ImplProp.val_Text (get (List.set (List.set x2 (Int.toNat x4) (ImplProp.mk x3 (ImplProp.val_Kind (get x2 x4)) (ImplProp.val_Num (get x2 x4)) (ImplProp.val_Text (get x2 x4)))) (Int.toNat x4) (ImplProp.mk (ImplProp.name (get (List.set x2 (Int.toNat x4) (ImplProp.mk x3 (ImplProp.val_Kind (get x2 x4)) (ImplProp.val_Num (get x2 x4)) (ImplProp.val_Text (get x2 x4)))) x4)) (IntKind.i64.wrap (x3 + (1 : Int))) (ImplProp.val_Num (get (List.set x2 (Int.toNat x4) (ImplProp.mk x3 (ImplProp.val_Kind (get x2 x4)) (ImplProp.val_Num (get x2 x4)) (ImplProp.val_Text (get x2 x4)))) x4)) (ImplProp.val_Text (get (List.set x2 (Int.toNat x4) (ImplProp.mk x3 (ImplProp.val_Kind (get x2 x4)) (ImplProp.val_Num (get x2 x4)) (ImplProp.val_Text (get x2 x4)))) x4)))) x4)))) x4)) (ImplProp.val_Num (get (List.set (List.set (List.set x2 (Int.toNat x4) (ImplProp.mk x3 (ImplProp.val_Kind (get x2 x4)) (ImplProp.val_Num (get x2 x4)) (ImplProp.val_Text (get x2 x4)))) (Int.toNat x4) (ImplProp.mk (ImplProp.name (get (List.set x2 (Int.toNat x4) (ImplProp.mk x3 (ImplProp.val_Kind (get x2 x4)) (ImplProp.val_Num (get x2 x4)) (ImplProp.val_Text (get x2 x4)))) x4)) (IntKind.i64.wrap (x3 + (1 : Int))) (ImplProp.val_Num (get (List.set x2 (Int.toNat x4) (ImplProp.mk x3 (ImplProp.val_Kind (get x2 x4)) (ImplProp.val_Num (get x2 x4)) (ImplProp.val_Text (get x2 x4)))) x4)) (ImplProp.val_Text (get (List.set x2 (Int.toNat x4) (ImplProp.mk x3 (ImplProp.val_Kind (get x2 x4)) (ImplProp.val_Num (get x2 x4)) (ImplProp.val_Text (get x2 x4)))) x4)))) (Int.toNat x4) (ImplProp.mk (ImplProp.name (get (List.set (List.set x2 (Int.toNat x4) (ImplProp.mk x3 (ImplProp.val_Kind (get x2 x4)) (ImplProp.val_Num (get x2 x4)) (ImplProp.val_Text (get x2 x4)))) (Int.toNat x4) (ImplProp.mk (ImplProp.name (get (List.set x2 (Int.toNat x4) (ImplProp.mk x3 (ImplProp.val_Kind (get x2 x4)) (ImplProp.val_Num (get x2 x4)) (ImplProp.val_Text (get x2 x4)))) x4)) (IntKind.i64.wrap (x3 + (1 : Int))) (ImplProp.val_Num (get (List.set x2 (Int.toNat x4) (ImplProp.mk x3 (ImplProp.val_Kind (get x2 x4)) (ImplProp.val_Num (get x2 x4)) (ImplProp.val_Text (get x2 x4)))) x4)) (ImplProp.val_Text (get (List.set x2 (Int.toNat x4) (ImplProp.mk x3 (ImplProp.val_Kind (get x2 x4)) (ImplProp.val_Num (get x2 x4)) (ImplProp.val_Text (get x2 x4)))) x4)))) x4)) (ImplProp.val_Kind (get (List.set (List.set x2 (Int.toNat x4) (ImplProp.mk x3 (ImplProp.val_Kind (get x2 x4)) (ImplProp.val_Num (get x2 x4)) (ImplProp.val_Text (get x2 x4)))) (Int.toNat x4) (ImplProp.mk (ImplProp.name (get (List.set x2 (Int.toNat x4) (ImplProp.mk x3 (ImplProp.val_Kind (get x2 x4)) (ImplProp.val_Num (get x2 x4)) (ImplProp.val_Text (get x2 x4)))) x4)) (IntKind.i64.wrap (x3 + (1 : Int))) (ImplProp.val_Num (get (List.set x2 (Int.toNat x4) (ImplProp.mk x3 (ImplProp.val_Kind (get x2 x4)) (ImplProp.val_Num (get x2 x4)) (ImplProp.val_Text (get x2 x4)))) x4)) (ImplProp.val_Text (get (List.set x2 (Int.toNat x4) (ImplProp.mk x3 (ImplProp.val_Kind (get x2 x4)) (ImplProp.val_Num (get x2 x4)) (ImplProp.val_Text (get x2 x4)))) x4)))) x4)) (IntKind.i64.wrap ((IntKind.i64.wrap (x3 + (1 : Int))) + (1 : Int))) (ImplProp.val_Text (get (List.set (List.set x2 (Int.toNat x4) (ImplProp.mk x3 (ImplProp.val_Kind (get x2 x4)) (ImplProp.val_Num (get x2 x4)) (ImplProp.val_Text (get x2 x4)))) (Int.toNat x4) (ImplProp.mk (ImplProp.name (get (List.set x2 (Int.toNat x4) (ImplProp.mk x3 (ImplProp.val_Kind (get x2 x4)) (ImplProp.val_Num (get x2 x4)) (ImplProp.val_Text (get x2 x4)))) x4)) (IntKind.i64.wrap (x3 + (1 : Int))) (ImplProp.val_Num (get (List.set x2 (Int.toNat x4) (ImplProp.mk x3 (ImplProp.val_Kind (get x2 x4)) (ImplProp.val_Num (get x2 x4)) (ImplProp.val_Text (get x2 x4)))) x4)) (ImplProp.val_Text (get (List.set x2 (Int.toNat x4) (ImplProp.mk x3 (ImplProp.val_Kind (get x2 x4)) (ImplProp.val_Num (get x2 x4)) (ImplProp.val_Text (get x2 x4)))) x4)))) x4)))) x4)) (r6).1)), (IntKind.i64.wrap ((IntKind.i64.wrap ((IntKind.i64.wrap ((IntKind.i64.wrap (x3 + (1 : Int))) + (1 : Int))) + (1 : Int))) + (1 : Int))), (IntKind.i64.wrap (x4 + (1 : Int))), ())))))))))) (
  some (x2, x3, ()))

def laws_markPropS.B (N : Nat) (E0 : (List (ImplProp)) × Int × Int × Unit → Option ((List (ImplProp)) × Int × Unit)) (x0 : List (ImplProp)) (x1 : Int) : Option ((List (ImplProp)) × Int × Unit) :=
 E0 (x0, x1, (0 : Int), ())

def laws_markPropS.L0 (N : Nat) : Nat → (List (ImplProp)) × Int × Int × Unit → Option ((List (ImplProp)) × Int × Unit)
  | 0, _ => none
  | n + 1, x => laws_markPropS.B0 N (laws_markPropS.L0 N n) x

def laws_markPropS (N : Nat) (x0 : List (ImplProp)) (x1 : Int) : Option ((List (ImplProp)) × Int × Unit) := laws_markPropS.B N (laws_markPropS.L0 N N) x0 x1

end
end Go.Ev
