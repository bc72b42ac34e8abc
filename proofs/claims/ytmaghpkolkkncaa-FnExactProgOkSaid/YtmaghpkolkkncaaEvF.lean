/- The functions that the law reaches, written as plain functions; nothing is claimed here. -/
import Derived.Test.YtmaghpkolkkncaaEvE
set_option linter.all false
set_option linter.unusedVariables false
set_option linter.unusedSimpArgs false
/- F -/
set_option maxRecDepth 10000
namespace Go.Ev
noncomputable section
def laws_szValue.B (N : Nat) (x0 : ImplValue) (x1 : Int) : Option (Int × Unit) :=
 br (decide ((IntKind.i64.wrap (x1 - (((List.length (ImplValue.text x0)) : Nat) : Int))) < (0 : Int))) (
  some ((-(1 : Int)), ())) (
  some ((IntKind.i64.wrap (x1 - (((List.length (ImplValue.text x0)) : Nat) : Int))), ()))

def laws_szValue (N : Nat) (x0 : ImplValue) (x1 : Int) : Option (Int × Unit) := laws_szValue.B N x0 x1

def laws_szValueS.B0 (N : Nat) (G0 : (List (ImplValue)) × Int × Int × Unit → Option (Int × Unit)) : (List (ImplValue)) × Int × Int × Unit → Option (Int × Unit) :=
fun (x2, x3, x4, ()) =>
 br (decide (x4 < (((List.length x2) : Nat) : Int))) (
  gd (decide ((0 : Int) ≤ x4)) (
  gd (decide (x4 < (((List.length x2) : Nat) : Int))) (
  bnd (laws_szValue N (get x2 x4) x3) fun r6 =>
  br (decide ((r6).1 < (0 : Int))) (
   some ((-(1 : Int)), ())) (
   G0 (x2, (r6).1, (IntKind.i64.wrap (x4 + (1 : Int))), ()))))) (
  some (x3, ()))

def laws_szValueS.B (N : Nat) (E0 : (List (ImplValue)) × Int × Int × Unit → Option (Int × Unit)) (x0 : List (ImplValue)) (x1 : Int) : Option (Int × Unit) :=
 br (decide ((IntKind.i64.wrap (x1 - (((List.length x0) : Nat) : Int))) < (0 : Int))) (
  some ((-(1 : Int)), ())) (
  E0 (x0, (IntKind.i64.wrap (x1 - (((List.length x0) : Nat) : Int))), (0 : Int), ()))

def laws_szValueS.L0 (N : Nat) : Nat → (List (ImplValue)) × Int × Int × Unit → Option (Int × Unit)
  | 0, _ => none
  | n + 1, x => laws_szValueS.B0 N (laws_szValueS.L0 N n) x

def laws_szValueS (N : Nat) (x0 : List (ImplValue)) (x1 : Int) : Option (Int × Unit) := laws_szValueS.B N (laws_szValueS.L0 N N) x0 x1

def laws_szStep.B (N : Nat) (x0 : LawsStep) (x1 : Int) : Option (Int × Unit) :=
 bnd (laws_szValue N (ImplValue.mk (LawsStep.val_Kind x0) (LawsStep.val_Num x0) (LawsStep.val_Text x0)) x1) fun r2 =>
 br (decide ((r2).1 < (0 : Int))) (
  some ((-(1 : Int)), ())) (
  some ((r2).1, ()))

def laws_szStep (N : Nat) (x0 : LawsStep) (x1 : Int) : Option (Int × Unit) := laws_szStep.B N x0 x1

def laws_szStepS.B0 (N : Nat) (G0 : (List (LawsStep)) × Int × Int × Unit → Option (Int × Unit)) : (List (LawsStep)) × Int × Int × Unit → Option (Int × Unit) :=
fun (x2, x3, x4, ()) =>
 br (decide (x4 < (((List.length x2) : Nat) : Int))) (
  gd (decide ((0 : Int) ≤ x4)) (
  gd (decide (x4 < (((List.length x2) : Nat) : Int))) (
  bnd (laws_szStep N (get x2 x4) x3) fun r6 =>
  br (decide ((r6).1 < (0 : Int))) (
   some ((-(1 : Int)), ())) (
   G0 (x2, (r6).1, (IntKind.i64.wrap (x4 + (1 : Int))), ()))))) (
  some (x3, ()))

def laws_szStepS.B (N : Nat) (E0 : (List (LawsStep)) × Int × Int × Unit → Option (Int × Unit)) (x0 : List (LawsStep)) (x1 : Int) : Option (Int × Unit) :=
 br (decide ((IntKind.i64.wrap (x1 - (((List.length x0) : Nat) : Int))) < (0 : Int))) (
  some ((-(1 : Int)), ())) (
  E0 (x0, (IntKind.i64.wrap (x1 - (((List.length x0) : Nat) : Int))), (0 : Int), ()))

def laws_szStepS.L0 (N : Nat) : Nat → (List (LawsStep)) × Int × Int × Unit → Option (Int × Unit)
  | 0, _ => none
  | n + 1, x => laws_szStepS.B0 N (laws_szStepS.L0 N n) x

def laws_szStepS (N : Nat) (x0 : List (LawsStep)) (x1 : Int) : Option (Int × Unit) := laws_szStepS.B N (laws_szStepS.L0 N N) x0 x1

def laws_szSet.B (N : Nat) (x0 : LawsSet) (x1 : Int) : Option (Int × Unit) :=
 bnd (laws_szStepS N (LawsSet.form x0) x1) fun r2 =>
 br (decide ((r2).1 < (0 : Int))) (
  some ((-(1 : Int)), ())) (
  some ((r2).1, ()))

def laws_szSet (N : Nat) (x0 : LawsSet) (x1 : Int) : Option (Int × Unit) := laws_szSet.B N x0 x1

def laws_szSetS.B0 (N : Nat) (G0 : (List (LawsSet)) × Int × Int × Unit → Option (Int × Unit)) : (List (LawsSet)) × Int × Int × Unit → Option (Int × Unit) :=
fun (x2, x3, x4, ()) =>
 br (decide (x4 < (((List.length x2) : Nat) : Int))) (
  gd (decide ((0 : Int) ≤ x4)) (
  gd (decide (x4 < (((List.length x2) : Nat) : Int))) (
  bnd (laws_szSet N (get x2 x4) x3) fun r6 =>
  br (decide ((r6).1 < (0 : Int))) (
   some ((-(1 : Int)), ())) (
   G0 (x2, (r6).1, (IntKind.i64.wrap (x4 + (1 : Int))), ()))))) (
  some (x3, ()))

def laws_szSetS.B (N : Nat) (E0 : (List (LawsSet)) × Int × Int × Unit → Option (Int × Unit)) (x0 : List (LawsSet)) (x1 : Int) : Option (Int × Unit) :=
 br (decide ((IntKind.i64.wrap (x1 - (((List.length x0) : Nat) : Int))) < (0 : Int))) (
  some ((-(1 : Int)), ())) (
  E0 (x0, (IntKind.i64.wrap (x1 - (((List.length x0) : Nat) : Int))), (0 : Int), ()))

def laws_szSetS.L0 (N : Nat) : Nat → (List (LawsSet)) × Int × Int × Unit → Option (Int × Unit)
  | 0, _ => none
  | n + 1, x => laws_szSetS.B0 N (laws_szSetS.L0 N n) x

def laws_szSetS (N : Nat) (x0 : List (LawsSet)) (x1 : Int) : Option (Int × Unit) := laws_szSetS.B N (laws_szSetS.L0 N N) x0 x1

def laws_szSetSS.B0 (N : Nat) (G0 : (List (List (LawsSet))) × Int × Int × Unit → Option (Int × Unit)) : (List (List (LawsSet))) × Int × Int × Unit → Option (Int × Unit) :=
fun (x2, x3, x4, ()) =>
 br (decide (x4 < (((List.length x2) : Nat) : Int))) (
  gd (decide ((0 : Int) ≤ x4)) (
  gd (decide (x4 < (((List.length x2) : Nat) : Int))) (
  bnd (laws_szSetS N (get x2 x4) x3) fun r6 =>
  br (decide ((r6).1 < (0 : Int))) (
   some ((-(1 : Int)), ())) (
   G0 (x2, (r6).1, (IntKind.i64.wrap (x4 + (1 : Int))), ()))))) (
  some (x3, ()))

def laws_szSetSS.B (N : Nat) (E0 : (List (List (LawsSet))) × Int × Int × Unit → Option (Int × Unit)) (x0 : List (List (LawsSet))) (x1 : Int) : Option (Int × Unit) :=
 br (decide ((IntKind.i64.wrap (x1 - (((List.length x0) : Nat) : Int))) < (0 : Int))) (
  some ((-(1 : Int)), ())) (
  E0 (x0, (IntKind.i64.wrap (x1 - (((List.length x0) : Nat) : Int))), (0 : Int), ()))

def laws_szSetSS.L0 (N : Nat) : Nat → (List (List (LawsSet))) × Int × Int × Unit → Option (Int × Unit)
  | 0, _ => none
  | n + 1, x => laws_szSetSS.B0 N (laws_szSetSS.L0 N n) x

def laws_szSetSS (N : Nat) (x0 : List (List (LawsSet))) (x1 : Int) : Option (Int × Unit) := laws_szSetSS.B N (laws_szSetSS.L0 N N) x0 x1

def laws_szIntS.B (N : Nat) (x0 : List (Int)) (x1 : Int) : Option (Int × Unit) :=
 br (decide ((IntKind.i64.wrap (x1 - (((List.length x0) : Nat) : Int))) < (0 : Int))) (
  some ((-(1 : Int)), ())) (
  some ((IntKind.i64.wrap (x1 - (((List.length x0) : Nat) : Int))), ()))

def laws_szIntS (N : Nat) (x0 : List (Int)) (x1 : Int) : Option (Int × Unit) := laws_szIntS.B N x0 x1

def laws_szStepSS.B0 (N : Nat) (G0 : (List (List (LawsStep))) × Int × Int × Unit → Option (Int × Unit)) : (List (List (LawsStep))) × Int × Int × Unit → Option (Int × Unit) :=
fun (x2, x3, x4, ()) =>
 br (decide (x4 < (((List.length x2) : Nat) : Int))) (
  gd (decide ((0 : Int) ≤ x4)) (
  gd (decide (x4 < (((List.length x2) : Nat) : Int))) (
  bnd (laws_szStepS N (get x2 x4) x3) fun r6 =>
  br (decide ((r6).1 < (0 : Int))) (
   some ((-(1 : Int)), ())) (
   G0 (x2, (r6).1, (IntKind.i64.wrap (x4 + (1 : Int))), ()))))) (
  some (x3, ()))

def laws_szStepSS.B (N : Nat) (E0 : (List (List (LawsStep))) × Int × Int × Unit → Option (Int × Unit)) (x0 : List (List (LawsStep))) (x1 : Int) : Option (Int × Unit) :=
 br (decide ((IntKind.i64.wrap (x1 - (((List.length x0) : Nat) : Int))) < (0 : Int))) (
  some ((-(1 : Int)), ())) (
  E0 (x0, (IntKind.i64.wrap (x1 - (((List.length x0) : Nat) : Int))), (0 : Int), ()))

def laws_szStepSS.L0 (N : Nat) : Nat → (List (List (LawsStep))) × Int × Int × Unit → Option (Int × Unit)
  | 0, _ => none
  | n + 1, x => laws_szStepSS.B0 N (laws_szStepSS.L0 N n) x

def laws_szStepSS (N : Nat) (x0 : List (List (LawsStep))) (x1 : Int) : Option (Int × Unit) := laws_szStepSS.B N (laws_szStepSS.L0 N N) x0 x1

def laws_szOnS.B (N : Nat) (x0 : List (ImplOn)) (x1 : Int) : Option (Int × Unit) :=
 br (decide ((IntKind.i64.wrap (x1 - (((List.length x0) : Nat) : Int))) < (0 : Int))) (
  some ((-(1 : Int)), ())) (
  some ((IntKind.i64.wrap (x1 - (((List.length x0) : Nat) : Int))), ()))

def laws_szOnS (N : Nat) (x0 : List (ImplOn)) (x1 : Int) : Option (Int × Unit) := laws_szOnS.B N x0 x1

def laws_szTmplS.B0 (N : Nat) (R_laws_szTmplS : List (LawsTmpl) → Int → Option (Int × Unit)) (R_laws_szTmpl : LawsTmpl → Int → Option (Int × Unit)) (G0 : (List (LawsTmpl)) × Int × Int × Unit → Option (Int × Unit)) : (List (LawsTmpl)) × Int × Int × Unit → Option (Int × Unit) :=
fun (x2, x3, x4, ()) =>
 br (decide (x4 < (((List.length x2) : Nat) : Int))) (
  gd (decide ((0 : Int) ≤ x4)) (
  gd (decide (x4 < (((List.length x2) : Nat) : Int))) (
  bnd (R_laws_szTmpl (LawsTmpl.mk (LawsTmpl.kind (get x2 x4)) (LawsTmpl.tag (get x2 x4)) (LawsTmpl.names (get x2 x4)) (LawsTmpl.args (get x2 x4)) (LawsTmpl.key (get x2 x4)) (LawsTmpl.ons (get x2 x4)) (LawsTmpl.kids (get x2 x4))) x3) fun r6 =>
  br (decide ((r6).1 < (0 : Int))) (
   some ((-(1 : Int)), ())) (
   G0 (x2, (r6).1, (IntKind.i64.wrap (x4 + (1 : Int))), ()))))) (
  some (x3, ()))

def laws_szTmplS.B (N : Nat) (R_laws_szTmplS : List (LawsTmpl) → Int → Option (Int × Unit)) (R_laws_szTmpl : LawsTmpl → Int → Option (Int × Unit)) (E0 : (List (LawsTmpl)) × Int × Int × Unit → Option (Int × Unit)) (x0 : List (LawsTmpl)) (x1 : Int) : Option (Int × Unit) :=
 br (decide ((IntKind.i64.wrap (x1 - (((List.length x0) : Nat) : Int))) < (0 : Int))) (
  some ((-(1 : Int)), ())) (
  E0 (x0, (IntKind.i64.wrap (x1 - (((List.length x0) : Nat) : Int))), (0 : Int), ()))

def laws_szTmplS.L0 (N : Nat) (R_laws_szTmplS : List (LawsTmpl) → Int → Option (Int × Unit)) (R_laws_szTmpl : LawsTmpl → Int → Option (Int × Unit)) : Nat → (List (LawsTmpl)) × Int × Int × Unit → Option (Int × Unit)
  | 0, _ => none
  | n + 1, x => laws_szTmplS.B0 N R_laws_szTmplS R_laws_szTmpl (laws_szTmplS.L0 N R_laws_szTmplS R_laws_szTmpl n) x

def laws_szTmpl.B (N : Nat) (R_laws_szTmplS : List (LawsTmpl) → Int → Option (Int × Unit)) (R_laws_szTmpl : LawsTmpl → Int → Option (Int × Unit)) (x0 : LawsTmpl) (x1 : Int) : Option (Int × Unit) :=
 bnd (laws_szIntS N (LawsTmpl.names x0) x1) fun r2 =>
 br (decide ((r2).1 < (0 : Int))) (
  some ((-(1 : Int)), ())) (
  bnd (laws_szStepSS N (LawsTmpl.args x0) (r2).1) fun r3 =>
 br (decide ((r3).1 < (0 : Int))) (
  some ((-(1 : Int)), ())) (
  bnd (laws_szStepS N (LawsTmpl.key x0) (r3).1) fun r4 =>
 br (decide ((r4).1 < (0 : Int))) (
  some ((-(1 : Int)), ())) (
  bnd (laws_szOnS N (LawsTmpl.ons x0) (r4).1) fun r5 =>
 br (decide ((r5).1 < (0 : Int))) (
  some ((-(1 : Int)), ())) (
  bnd (R_laws_szTmplS (LawsTmpl.kids x0) (r5).1) fun r6 =>
 br (decide ((r6).1 < (0 : Int))) (
  some ((-(1 : Int)), ())) (
  some ((r6).1, ()))))))

mutual
def laws_szTmplS.R (N : Nat) : Nat → List (LawsTmpl) → Int → Option (Int × Unit)
  | 0, _, _ => none
  | d + 1, x0, x1 => laws_szTmplS.B N (laws_szTmplS.R N d) (laws_szTmpl.R N d) (laws_szTmplS.L0 N (laws_szTmplS.R N d) (laws_szTmpl.R N d) N) x0 x1

def laws_szTmpl.R (N : Nat) : Nat → LawsTmpl → Int → Option (Int × Unit)
  | 0, _, _ => none
  | d + 1, x0, x1 => laws_szTmpl.B N (laws_szTmplS.R N d) (laws_szTmpl.R N d) x0 x1

end

def laws_szTmplS (N : Nat) (x0 : List (LawsTmpl)) (x1 : Int) : Option (Int × Unit) := laws_szTmplS.R N N x0 x1

def laws_szTmpl (N : Nat) (x0 : LawsTmpl) (x1 : Int) : Option (Int × Unit) := laws_szTmpl.R N N x0 x1

def laws_szComp.B (N : Nat) (x0 : LawsComp) (x1 : Int) : Option (Int × Unit) :=
 bnd (laws_szValueS N (LawsComp.states x0) x1) fun r2 =>
 br (decide ((r2).1 < (0 : Int))) (
  some ((-(1 : Int)), ())) (
  bnd (laws_szSetSS N (LawsComp.acts x0) (r2).1) fun r3 =>
 br (decide ((r3).1 < (0 : Int))) (
  some ((-(1 : Int)), ())) (
  bnd (laws_szTmpl N (LawsTmpl.mk (LawsComp.body_Kind x0) (LawsComp.body_Tag x0) (LawsComp.body_Names x0) (LawsComp.body_Args x0) (LawsComp.body_Key x0) (LawsComp.body_Ons x0) (LawsComp.body_Kids x0)) (r3).1) fun r4 =>
 br (decide ((r4).1 < (0 : Int))) (
  some ((-(1 : Int)), ())) (
  some ((r4).1, ()))))

def laws_szComp (N : Nat) (x0 : LawsComp) (x1 : Int) : Option (Int × Unit) := laws_szComp.B N x0 x1

def laws_szCompS.B0 (N : Nat) (G0 : (List (LawsComp)) × Int × Int × Unit → Option (Int × Unit)) : (List (LawsComp)) × Int × Int × Unit → Option (Int × Unit) :=
fun (x2, x3, x4, ()) =>
 br (decide (x4 < (((List.length x2) : Nat) : Int))) (
  gd (decide ((0 : Int) ≤ x4)) (
  gd (decide (x4 < (((List.length x2) : Nat) : Int))) (
  bnd (laws_szComp N (get x2 x4) x3) fun r6 =>
  br (decide ((r6).1 < (0 : Int))) (
   some ((-(1 : Int)), ())) (
   G0 (x2, (r6).1, (IntKind.i64.wrap (x4 + (1 : Int))), ()))))) (
  some (x3, ()))

def laws_szCompS.B (N : Nat) (E0 : (List (LawsComp)) × Int × Int × Unit → Option (Int × Unit)) (x0 : List (LawsComp)) (x1 : Int) : Option (Int × Unit) :=
 br (decide ((IntKind.i64.wrap (x1 - (((List.length x0) : Nat) : Int))) < (0 : Int))) (
  some ((-(1 : Int)), ())) (
  E0 (x0, (IntKind.i64.wrap (x1 - (((List.length x0) : Nat) : Int))), (0 : Int), ()))

def laws_szCompS.L0 (N : Nat) : Nat → (List (LawsComp)) × Int × Int × Unit → Option (Int × Unit)
  | 0, _ => none
  | n + 1, x => laws_szCompS.B0 N (laws_szCompS.L0 N n) x

def laws_szCompS (N : Nat) (x0 : List (LawsComp)) (x1 : Int) : Option (Int × Unit) := laws_szCompS.B N (laws_szCompS.L0 N N) x0 x1

def laws_toValue.B (N : Nat) (x0 : ImplValue) : Option (ImplValue × Unit) :=
 some (x0, ())

def laws_toValue (N : Nat) (x0 : ImplValue) : Option (ImplValue × Unit) := laws_toValue.B N x0

def laws_toValueS.B0 (N : Nat) (G0 : (List (ImplValue)) × (List (ImplValue)) × Int × Unit → Option ((List (ImplValue)) × Unit)) : (List (ImplValue)) × (List (ImplValue)) × Int × Unit → Option ((List (ImplValue)) × Unit) :=
fun (x1, x2, x3, ()) =>
 br (decide (x3 < (((List.length x1) : Nat) : Int))) (
  gd (decide ((0 : Int) ≤ x3)) (
  gd (decide (x3 < (((List.length x1) : Nat) : Int))) (
  bnd (laws_toValue N (get x1 x3)) fun r5 =>
  gd (decide ((0 : Int) ≤ x3)) (
  gd (decide (x3 < (((List.length x2) : Nat) : Int))) (
  G0 (x1, (List.set x2 (Int.toNat x3) (r5).1), (IntKind.i64.wrap (x3 + (1 : Int))), ())))))) (
  some (x2, ()))

def laws_toValueS.B (N : Nat) (E0 : (List (ImplValue)) × (List (ImplValue)) × Int × Unit → Option ((List (ImplValue)) × Unit)) (x0 : List (ImplValue)) : Option ((List (ImplValue)) × Unit) :=
 gd (decide ((((List.length x0) : Nat) : Int) = (((List.length x0) : Nat) : Int))) (
 gd (decide ((0 : Int) ≤ (((List.length x0) : Nat) : Int))) (
 gd (decide ((((List.length x0) : Nat) : Int) < ((68719476736 : Nat) : Int))) (
 E0 (x0, (List.replicate (Int.toNat (((List.length x0) : Nat) : Int)) (ImplValue.mk (0 : Int) (0 : Int) ([] : List (UInt8)))), (0 : Int), ()))))

def laws_toValueS.L0 (N : Nat) : Nat → (List (ImplValue)) × (List (ImplValue)) × Int × Unit → Option ((List (ImplValue)) × Unit)
  | 0, _ => none
  | n + 1, x => laws_toValueS.B0 N (laws_toValueS.L0 N n) x

def laws_toValueS (N : Nat) (x0 : List (ImplValue)) : Option ((List (ImplValue)) × Unit) := laws_toValueS.B N (laws_toValueS.L0 N N) x0

def laws_toStep.B (N : Nat) (x0 : LawsStep) : Option (ImplStep × Unit) :=
 bnd (laws_toValue N (ImplValue.mk (LawsStep.val_Kind x0) (LawsStep.val_Num x0) (LawsStep.val_Text x0))) fun r1 =>
 some ((ImplStep.mk (LawsStep.kind x0) (LawsStep.a x0) (ImplValue.kind (r1).1) (ImplValue.num (r1).1) (ImplValue.text (r1).1)), ())

def laws_toStep (N : Nat) (x0 : LawsStep) : Option (ImplStep × Unit) := laws_toStep.B N x0

def laws_toStepS.B0 (N : Nat) (G0 : (List (LawsStep)) × (List (ImplStep)) × Int × Unit → Option ((List (ImplStep)) × Unit)) : (List (LawsStep)) × (List (ImplStep)) × Int × Unit → Option ((List (ImplStep)) × Unit) :=
fun (x1, x2, x3, ()) =>
 br (decide (x3 < (((List.length x1) : Nat) : Int))) (
  gd (decide ((0 : Int) ≤ x3)) (
  gd (decide (x3 < (((List.length x1) : Nat) : Int))) (
  bnd (laws_toStep N (get x1 x3)) fun r5 =>
  gd (decide ((0 : Int) ≤ x3)) (
  gd (decide (x3 < (((List.length x2) : Nat) : Int))) (
  G0 (x1, (List.set x2 (Int.toNat x3) (r5).1), (IntKind.i64.wrap (x3 + (1 : Int))), ())))))) (
  some (x2, ()))

def laws_toStepS.B (N : Nat) (E0 : (List (LawsStep)) × (List (ImplStep)) × Int × Unit → Option ((List (ImplStep)) × Unit)) (x0 : List (LawsStep)) : Option ((List (ImplStep)) × Unit) :=
 gd (decide ((((List.length x0) : Nat) : Int) = (((List.length x0) : Nat) : Int))) (
 gd (decide ((0 : Int) ≤ (((List.length x0) : Nat) : Int))) (
 gd (decide ((((List.length x0) : Nat) : Int) < ((68719476736 : Nat) : Int))) (
 E0 (x0, (List.replicate (Int.toNat (((List.length x0) : Nat) : Int)) (ImplStep.mk (0 : Int) (0 : Int) (0 : Int) (0 : Int) ([] : List (UInt8)))), (0 : Int), ()))))

def laws_toStepS.L0 (N : Nat) : Nat → (List (LawsStep)) × (List (ImplStep)) × Int × Unit → Option ((List (ImplStep)) × Unit)
  | 0, _ => none
  | n + 1, x => laws_toStepS.B0 N (laws_toStepS.L0 N n) x

def laws_toStepS (N : Nat) (x0 : List (LawsStep)) : Option ((List (ImplStep)) × Unit) := laws_toStepS.B N (laws_toStepS.L0 N N) x0

def laws_toSet.B (N : Nat) (x0 : LawsSet) : Option (ImplSet × Unit) :=
 bnd (laws_toStepS N (LawsSet.form x0)) fun r1 =>
 some ((ImplSet.mk (LawsSet.state x0) (r1).1), ())

def laws_toSet (N : Nat) (x0 : LawsSet) : Option (ImplSet × Unit) := laws_toSet.B N x0

def laws_toSetS.B0 (N : Nat) (G0 : (List (LawsSet)) × (List (ImplSet)) × Int × Unit → Option ((List (ImplSet)) × Unit)) : (List (LawsSet)) × (List (ImplSet)) × Int × Unit → Option ((List (ImplSet)) × Unit) :=
fun (x1, x2, x3, ()) =>
 br (decide (x3 < (((List.length x1) : Nat) : Int))) (
  gd (decide ((0 : Int) ≤ x3)) (
  gd (decide (x3 < (((List.length x1) : Nat) : Int))) (
  bnd (laws_toSet N (get x1 x3)) fun r5 =>
  gd (decide ((0 : Int) ≤ x3)) (
  gd (decide (x3 < (((List.length x2) : Nat) : Int))) (
  G0 (x1, (List.set x2 (Int.toNat x3) (r5).1), (IntKind.i64.wrap (x3 + (1 : Int))), ())))))) (
  some (x2, ()))

def laws_toSetS.B (N : Nat) (E0 : (List (LawsSet)) × (List (ImplSet)) × Int × Unit → Option ((List (ImplSet)) × Unit)) (x0 : List (LawsSet)) : Option ((List (ImplSet)) × Unit) :=
 gd (decide ((((List.length x0) : Nat) : Int) = (((List.length x0) : Nat) : Int))) (
 gd (decide ((0 : Int) ≤ (((List.length x0) : Nat) : Int))) (
 gd (decide ((((List.length x0) : Nat) : Int) < ((68719476736 : Nat) : Int))) (
 E0 (x0, (List.replicate (Int.toNat (((List.length x0) : Nat) : Int)) (ImplSet.mk (0 : Int) ([] : List (ImplStep)))), (0 : Int), ()))))

def laws_toSetS.L0 (N : Nat) : Nat → (List (LawsSet)) × (List (ImplSet)) × Int × Unit → Option ((List (ImplSet)) × Unit)
  | 0, _ => none
  | n + 1, x => laws_toSetS.B0 N (laws_toSetS.L0 N n) x

def laws_toSetS (N : Nat) (x0 : List (LawsSet)) : Option ((List (ImplSet)) × Unit) := laws_toSetS.B N (laws_toSetS.L0 N N) x0

def laws_toSetSS.B0 (N : Nat) (G0 : (List (List (LawsSet))) × (List (List (ImplSet))) × Int × Unit → Option ((List (List (ImplSet))) × Unit)) : (List (List (LawsSet))) × (List (List (ImplSet))) × Int × Unit → Option ((List (List (ImplSet))) × Unit) :=
fun (x1, x2, x3, ()) =>
 br (decide (x3 < (((List.length x1) : Nat) : Int))) (
  gd (decide ((0 : Int) ≤ x3)) (
  gd (decide (x3 < (((List.length x1) : Nat) : Int))) (
  bnd (laws_toSetS N (get x1 x3)) fun r5 =>
  gd (decide ((0 : Int) ≤ x3)) (
  gd (decide (x3 < (((List.length x2) : Nat) : Int))) (
  G0 (x1, (List.set x2 (Int.toNat x3) (r5).1), (IntKind.i64.wrap (x3 + (1 : Int))), ())))))) (
  some (x2, ()))

def laws_toSetSS.B (N : Nat) (E0 : (List (List (LawsSet))) × (List (List (ImplSet))) × Int × Unit → Option ((List (List (ImplSet))) × Unit)) (x0 : List (List (LawsSet))) : Option ((List (List (ImplSet))) × Unit) :=
 gd (decide ((((List.length x0) : Nat) : Int) = (((List.length x0) : Nat) : Int))) (
 gd (decide ((0 : Int) ≤ (((List.length x0) : Nat) : Int))) (
 gd (decide ((((List.length x0) : Nat) : Int) < ((68719476736 : Nat) : Int))) (
 E0 (x0, (List.replicate (Int.toNat (((List.length x0) : Nat) : Int)) ([] : List (ImplSet))), (0 : Int), ()))))

def laws_toSetSS.L0 (N : Nat) : Nat → (List (List (LawsSet))) × (List (List (ImplSet))) × Int × Unit → Option ((List (List (ImplSet))) × Unit)
  | 0, _ => none
  | n + 1, x => laws_toSetSS.B0 N (laws_toSetSS.L0 N n) x

def laws_toSetSS (N : Nat) (x0 : List (List (LawsSet))) : Option ((List (List (ImplSet))) × Unit) := laws_toSetSS.B N (laws_toSetSS.L0 N N) x0

def laws_toIntS.B0 (N : Nat) (G0 : (List (Int)) × (List (Int)) × Int × Unit → Option ((List (Int)) × Unit)) : (List (Int)) × (List (Int)) × Int × Unit → Option ((List (Int)) × Unit) :=
fun (x1, x2, x3, ()) =>
 br (decide (x3 < (((List.length x1) : Nat) : Int))) (
  gd (decide ((0 : Int) ≤ x3)) (
  gd (decide (x3 < (((List.length x1) : Nat) : Int))) (
  gd (decide ((0 : Int) ≤ x3)) (
  gd (decide (x3 < (((List.length x2) : Nat) : Int))) (
  G0 (x1, (List.set x2 (Int.toNat x3) (get x1 x3)), (IntKind.i64.wrap (x3 + (1 : Int))), ())))))) (
  some (x2, ()))

def laws_toIntS.B (N : Nat) (E0 : (List (Int)) × (List (Int)) × Int × Unit → Option ((List (Int)) × Unit)) (x0 : List (Int)) : Option ((List (Int)) × Unit) :=
 gd (decide ((((List.length x0) : Nat) : Int) = (((List.length x0) : Nat) : Int))) (
 gd (decide ((0 : Int) ≤ (((List.length x0) : Nat) : Int))) (
 gd (decide ((((List.length x0) : Nat) : Int) < ((68719476736 : Nat) : Int))) (
 E0 (x0, (List.replicate (Int.toNat (((List.length x0) : Nat) : Int)) (0 : Int)), (0 : Int), ()))))

def laws_toIntS.L0 (N : Nat) : Nat → (List (Int)) × (List (Int)) × Int × Unit → Option ((List (Int)) × Unit)
  | 0, _ => none
  | n + 1, x => laws_toIntS.B0 N (laws_toIntS.L0 N n) x

def laws_toIntS (N : Nat) (x0 : List (Int)) : Option ((List (Int)) × Unit) := laws_toIntS.B N (laws_toIntS.L0 N N) x0

def laws_toStepSS.B0 (N : Nat) (G0 : (List (List (LawsStep))) × (List (List (ImplStep))) × Int × Unit → Option ((List (List (ImplStep))) × Unit)) : (List (List (LawsStep))) × (List (List (ImplStep))) × Int × Unit → Option ((List (List (ImplStep))) × Unit) :=
fun (x1, x2, x3, ()) =>
 br (decide (x3 < (((List.length x1) : Nat) : Int))) (
  gd (decide ((0 : Int) ≤ x3)) (
  gd (decide (x3 < (((List.length x1) : Nat) : Int))) (
  bnd (laws_toStepS N (get x1 x3)) fun r5 =>
  gd (decide ((0 : Int) ≤ x3)) (
  gd (decide (x3 < (((List.length x2) : Nat) : Int))) (
  G0 (x1, (List.set x2 (Int.toNat x3) (r5).1), (IntKind.i64.wrap (x3 + (1 : Int))), ())))))) (
  some (x2, ()))

def laws_toStepSS.B (N : Nat) (E0 : (List (List (LawsStep))) × (List (List (ImplStep))) × Int × Unit → Option ((List (List (ImplStep))) × Unit)) (x0 : List (List (LawsStep))) : Option ((List (List (ImplStep))) × Unit) :=
 gd (decide ((((List.length x0) : Nat) : Int) = (((List.length x0) : Nat) : Int))) (
 gd (decide ((0 : Int) ≤ (((List.length x0) : Nat) : Int))) (
 gd (decide ((((List.length x0) : Nat) : Int) < ((68719476736 : Nat) : Int))) (
 E0 (x0, (List.replicate (Int.toNat (((List.length x0) : Nat) : Int)) ([] : List (ImplStep))), (0 : Int), ()))))

def laws_toStepSS.L0 (N : Nat) : Nat → (List (List (LawsStep))) × (List (List (ImplStep))) × Int × Unit → Option ((List (List (ImplStep))) × Unit)
  | 0, _ => none
  | n + 1, x => laws_toStepSS.B0 N (laws_toStepSS.L0 N n) x

def laws_toStepSS (N : Nat) (x0 : List (List (LawsStep))) : Option ((List (List (ImplStep))) × Unit) := laws_toStepSS.B N (laws_toStepSS.L0 N N) x0

def laws_toOn.B (N : Nat) (x0 : ImplOn) : Option (ImplOn × Unit) :=
 some (x0, ())

def laws_toOn (N : Nat) (x0 : ImplOn) : Option (ImplOn × Unit) := laws_toOn.B N x0

def laws_toOnS.B0 (N : Nat) (G0 : (List (ImplOn)) × (List (ImplOn)) × Int × Unit → Option ((List (ImplOn)) × Unit)) : (List (ImplOn)) × (List (ImplOn)) × Int × Unit → Option ((List (ImplOn)) × Unit) :=
fun (x1, x2, x3, ()) =>
 br (decide (x3 < (((List.length x1) : Nat) : Int))) (
  gd (decide ((0 : Int) ≤ x3)) (
  gd (decide (x3 < (((List.length x1) : Nat) : Int))) (
  bnd (laws_toOn N (get x1 x3)) fun r5 =>
  gd (decide ((0 : Int) ≤ x3)) (
  gd (decide (x3 < (((List.length x2) : Nat) : Int))) (
  G0 (x1, (List.set x2 (Int.toNat x3) (r5).1), (IntKind.i64.wrap (x3 + (1 : Int))), ())))))) (
  some (x2, ()))

def laws_toOnS.B (N : Nat) (E0 : (List (ImplOn)) × (List (ImplOn)) × Int × Unit → Option ((List (ImplOn)) × Unit)) (x0 : List (ImplOn)) : Option ((List (ImplOn)) × Unit) :=
 gd (decide ((((List.length x0) : Nat) : Int) = (((List.length x0) : Nat) : Int))) (
 gd (decide ((0 : Int) ≤ (((List.length x0) : Nat) : Int))) (
 gd (decide ((((List.length x0) : Nat) : Int) < ((68719476736 : Nat) : Int))) (
 E0 (x0, (List.replicate (Int.toNat (((List.length x0) : Nat) : Int)) (ImplOn.mk (0 : Int) (0 : Int))), (0 : Int), ()))))

def laws_toOnS.L0 (N : Nat) : Nat → (List (ImplOn)) × (List (ImplOn)) × Int × Unit → Option ((List (ImplOn)) × Unit)
  | 0, _ => none
  | n + 1, x => laws_toOnS.B0 N (laws_toOnS.L0 N n) x

def laws_toOnS (N : Nat) (x0 : List (ImplOn)) : Option ((List (ImplOn)) × Unit) := laws_toOnS.B N (laws_toOnS.L0 N N) x0

def laws_toTmplS.B0 (N : Nat) (R_laws_toTmplS : List (LawsTmpl) → Option ((List (ImplTmpl)) × Unit)) (R_laws_toTmpl : LawsTmpl → Option (ImplTmpl × Unit)) (G0 : (List (LawsTmpl)) × (List (ImplTmpl)) × Int × Unit → Option ((List (ImplTmpl)) × Unit)) : (List (LawsTmpl)) × (List (ImplTmpl)) × Int × Unit → Option ((List (ImplTmpl)) × Unit) :=
fun (x1, x2, x3, ()) =>
 br (decide (x3 < (((List.length x1) : Nat) : Int))) (
  gd (decide ((0 : Int) ≤ x3)) (
  gd (decide (x3 < (((List.length x1) : Nat) : Int))) (
  bnd (R_laws_toTmpl (LawsTmpl.mk (LawsTmpl.kind (get x1 x3)) (LawsTmpl.tag (get x1 x3)) (LawsTmpl.names (get x1 x3)) (LawsTmpl.args (get x1 x3)) (LawsTmpl.key (get x1 x3)) (LawsTmpl.ons (get x1 x3)) (LawsTmpl.kids (get x1 x3)))) fun r5 =>
  gd (decide ((0 : Int) ≤ x3)) (
  gd (decide (x3 < (((List.length x2) : Nat) : Int))) (
  G0 (x1, (List.set x2 (Int.toNat x3) (ImplTmpl.mk (ImplTmpl.kind (r5).1) (ImplTmpl.tag (r5).1) (ImplTmpl.names (r5).1) (ImplTmpl.args (r5).1) (ImplTmpl.key (r5).1) (ImplTmpl.ons (r5).1) (ImplTmpl.kids (r5).1))), (IntKind.i64.wrap (x3 + (1 : Int))), ())))))) (
  some (x2, ()))

def laws_toTmplS.B (N : Nat) (R_laws_toTmplS : List (LawsTmpl) → Option ((List (ImplTmpl)) × Unit)) (R_laws_toTmpl : LawsTmpl → Option (ImplTmpl × Unit)) (E0 : (List (LawsTmpl)) × (List (ImplTmpl)) × Int × Unit → Option ((List (ImplTmpl)) × Unit)) (x0 : List (LawsTmpl)) : Option ((List (ImplTmpl)) × Unit) :=
 gd (decide ((((List.length x0) : Nat) : Int) = (((List.length x0) : Nat) : Int))) (
 gd (decide ((0 : Int) ≤ (((List.length x0) : Nat) : Int))) (
 gd (decide ((((List.length x0) : Nat) : Int) < ((68719476736 : Nat) : Int))) (
 E0 (x0, (List.replicate (Int.toNat (((List.length x0) : Nat) : Int)) (ImplTmpl.mk (0 : Int) (0 : Int) ([] : List (Int)) ([] : List (List (ImplStep))) ([] : List (ImplStep)) ([] : List (ImplOn)) ([] : List (ImplTmpl)))), (0 : Int), ()))))

def laws_toTmplS.L0 (N : Nat) (R_laws_toTmplS : List (LawsTmpl) → Option ((List (ImplTmpl)) × Unit)) (R_laws_toTmpl : LawsTmpl → Option (ImplTmpl × Unit)) : Nat → (List (LawsTmpl)) × (List (ImplTmpl)) × Int × Unit → Option ((List (ImplTmpl)) × Unit)
  | 0, _ => none
  | n + 1, x => laws_toTmplS.B0 N R_laws_toTmplS R_laws_toTmpl (laws_toTmplS.L0 N R_laws_toTmplS R_laws_toTmpl n) x

def laws_toTmpl.B (N : Nat) (R_laws_toTmplS : List (LawsTmpl) → Option ((List (ImplTmpl)) × Unit)) (R_laws_toTmpl : LawsTmpl → Option (ImplTmpl × Unit)) (x0 : LawsTmpl) : Option (ImplTmpl × Unit) :=
 bnd (laws_toIntS N (LawsTmpl.names x0)) fun r1 =>
 bnd (laws_toStepSS N (LawsTmpl.args x0)) fun r2 =>
 bnd (laws_toStepS N (LawsTmpl.key x0)) fun r3 =>
 bnd (laws_toOnS N (LawsTmpl.ons x0)) fun r4 =>
 bnd (R_laws_toTmplS (LawsTmpl.kids x0)) fun r5 =>
 some ((ImplTmpl.mk (LawsTmpl.kind x0) (LawsTmpl.tag x0) (r1).1 (r2).1 (r3).1 (r4).1 (r5).1), ())

mutual
def laws_toTmplS.R (N : Nat) : Nat → List (LawsTmpl) → Option ((List (ImplTmpl)) × Unit)
  | 0, _ => none
  | d + 1, x0 => laws_toTmplS.B N (laws_toTmplS.R N d) (laws_toTmpl.R N d) (laws_toTmplS.L0 N (laws_toTmplS.R N d) (laws_toTmpl.R N d) N) x0

def laws_toTmpl.R (N : Nat) : Nat → LawsTmpl → Option (ImplTmpl × Unit)
  | 0, _ => none
  | d + 1, x0 => laws_toTmpl.B N (laws_toTmplS.R N d) (laws_toTmpl.R N d) x0

end

def laws_toTmplS (N : Nat) (x0 : List (LawsTmpl)) : Option ((List (ImplTmpl)) × Unit) := laws_toTmplS.R N N x0

def laws_toTmpl (N : Nat) (x0 : LawsTmpl) : Option (ImplTmpl × Unit) := laws_toTmpl.R N N x0

def laws_toComp.B (N : Nat) (x0 : LawsComp) : Option (ImplComp × Unit) :=
 bnd (laws_toValueS N (LawsComp.states x0)) fun r1 =>
 bnd (laws_toSetSS N (LawsComp.acts x0)) fun r2 =>
 bnd (laws_toTmpl N (LawsTmpl.mk (LawsComp.body_Kind x0) (LawsComp.body_Tag x0) (LawsComp.body_Names x0) (LawsComp.body_Args x0) (LawsComp.body_Key x0) (LawsComp.body_Ons x0) (LawsComp.body_Kids x0))) fun r3 =>
 some ((ImplComp.mk (LawsComp.props x0) (r1).1 (r2).1 (ImplTmpl.kind (r3).1) (ImplTmpl.tag (r3).1) (ImplTmpl.names (r3).1) (ImplTmpl.args (r3).1) (ImplTmpl.key (r3).1) (ImplTmpl.ons (r3).1) (ImplTmpl.kids (r3).1)), ())

def laws_toComp (N : Nat) (x0 : LawsComp) : Option (ImplComp × Unit) := laws_toComp.B N x0

def laws_toCompS.B0 (N : Nat) (G0 : (List (LawsComp)) × (List (ImplComp)) × Int × Unit → Option ((List (ImplComp)) × Unit)) : (List (LawsComp)) × (List (ImplComp)) × Int × Unit → Option ((List (ImplComp)) × Unit) :=
fun (x1, x2, x3, ()) =>
 br (decide (x3 < (((List.length x1) : Nat) : Int))) (
  gd (decide ((0 : Int) ≤ x3)) (
  gd (decide (x3 < (((List.length x1) : Nat) : Int))) (
  bnd (laws_toComp N (get x1 x3)) fun r5 =>
  gd (decide ((0 : Int) ≤ x3)) (
  gd (decide (x3 < (((List.length x2) : Nat) : Int))) (
  G0 (x1, (List.set x2 (Int.toNat x3) (r5).1), (IntKind.i64.wrap (x3 + (1 : Int))), ())))))) (
  some (x2, ()))

def laws_toCompS.B (N : Nat) (E0 : (List (LawsComp)) × (List (ImplComp)) × Int × Unit → Option ((List (ImplComp)) × Unit)) (x0 : List (LawsComp)) : Option ((List (ImplComp)) × Unit) :=
 gd (decide ((((List.length x0) : Nat) : Int) = (((List.length x0) : Nat) : Int))) (
 gd (decide ((0 : Int) ≤ (((List.length x0) : Nat) : Int))) (
 gd (decide ((((List.length x0) : Nat) : Int) < ((68719476736 : Nat) : Int))) (
 E0 (x0, (List.replicate (Int.toNat (((List.length x0) : Nat) : Int)) (ImplComp.mk (0 : Int) ([] : List (ImplValue)) ([] : List (List (ImplSet))) (0 : Int) (0 : Int) ([] : List (Int)) ([] : List (List (ImplStep))) ([] : List (ImplStep)) ([] : List (ImplOn)) ([] : List (ImplTmpl)))), (0 : Int), ()))))

def laws_toCompS.L0 (N : Nat) : Nat → (List (LawsComp)) × (List (ImplComp)) × Int × Unit → Option ((List (ImplComp)) × Unit)
  | 0, _ => none
  | n + 1, x => laws_toCompS.B0 N (laws_toCompS.L0 N n) x

def laws_toCompS (N : Nat) (x0 : List (LawsComp)) : Option ((List (ImplComp)) × Unit) := laws_toCompS.B N (laws_toCompS.L0 N N) x0

def spec_inRange.B (N : Nat) (x0 : Int) (x1 : Int) (x2 : Int) : Option (Bool × Unit) :=
 br (decide (x0 ≥ x1)) (
  some ((decide (x0 ≤ x2)), ())) (
  some (false, ()))

def spec_inRange (N : Nat) (x0 : Int) (x1 : Int) (x2 : Int) : Option (Bool × Unit) := spec_inRange.B N x0 x1 x2

def spec_plainByte.B (N : Nat) (x0 : Int) : Option (Bool × Unit) :=
 br (decide (x0 ≥ (97 : Int))) (
  br (decide (x0 ≤ (122 : Int))) (
   some (true, ())) (
   br (decide (x0 ≥ (48 : Int))) (
   br (decide (x0 ≤ (57 : Int))) (
    some (true, ())) (
    some ((x0 == (32 : Int)), ()))) (
   some ((x0 == (32 : Int)), ())))) (
  br (decide (x0 ≥ (48 : Int))) (
  br (decide (x0 ≤ (57 : Int))) (
   some (true, ())) (
   some ((x0 == (32 : Int)), ()))) (
  some ((x0 == (32 : Int)), ())))

def spec_plainByte (N : Nat) (x0 : Int) : Option (Bool × Unit) := spec_plainByte.B N x0

def spec_validWord.B0 (N : Nat) (G0 : (List UInt8) × Int × Unit → Option (Bool × Unit)) : (List UInt8) × Int × Unit → Option (Bool × Unit) :=
fun (x1, x2, ()) =>
 br (decide (x2 < (((List.length x1) : Nat) : Int))) (
  gd (decide ((0 : Int) ≤ x2)) (
  gd (decide (x2 < (((List.length x1) : Nat) : Int))) (
  bnd (spec_plainByte N (((UInt8.toNat (List.getD x1 (Int.toNat x2) 0)) : Nat) : Int)) fun r4 =>
  br (!(r4).1) (
   some (false, ())) (
   G0 (x1, (IntKind.i64.wrap (x2 + (1 : Int))), ()))))) (
  some (true, ()))

def spec_validWord.B (N : Nat) (E0 : (List UInt8) × Int × Unit → Option (Bool × Unit)) (x0 : List UInt8) : Option (Bool × Unit) :=
 br (decide ((((List.length x0) : Nat) : Int) > (12 : Int))) (
  some (false, ())) (
  E0 (x0, (0 : Int), ()))

def spec_validWord.L0 (N : Nat) : Nat → (List UInt8) × Int × Unit → Option (Bool × Unit)
  | 0, _ => none
  | n + 1, x => spec_validWord.B0 N (spec_validWord.L0 N n) x

def spec_validWord (N : Nat) (x0 : List UInt8) : Option (Bool × Unit) := spec_validWord.B N (spec_validWord.L0 N N) x0

def spec_validValue.B (N : Nat) (x0 : ImplValue) : Option (Bool × Unit) :=
 br ((ImplValue.kind x0) == (0 : Int)) (
  br ((ImplValue.num x0) == (0 : Int)) (
   some (((ImplValue.text x0) == ([] : List (UInt8))), ())) (
   some (false, ()))) (
  br ((ImplValue.kind x0) == (1 : Int)) (
  bnd (spec_inRange N (ImplValue.num x0) (-(1000 : Int)) (1000 : Int)) fun r1 =>
  br (r1).1 (
   some (((ImplValue.text x0) == ([] : List (UInt8))), ())) (
   some (false, ()))) (
  br ((ImplValue.kind x0) == (2 : Int)) (
  br ((ImplValue.num x0) == (0 : Int)) (
   bnd (spec_validWord N (ImplValue.text x0)) fun r2 =>
   some ((r2).1, ())) (
   some (false, ()))) (
  some (false, ()))))

def spec_validValue (N : Nat) (x0 : ImplValue) : Option (Bool × Unit) := spec_validValue.B N x0

def spec_validValues.B0 (N : Nat) (G0 : (List (ImplValue)) × Int × Unit → Option (Bool × Unit)) : (List (ImplValue)) × Int × Unit → Option (Bool × Unit) :=
fun (x1, x2, ()) =>
 br (decide (x2 < (((List.length x1) : Nat) : Int))) (
  gd (decide ((0 : Int) ≤ x2)) (
  gd (decide (x2 < (((List.length x1) : Nat) : Int))) (
  bnd (spec_validValue N (get x1 x2)) fun r4 =>
  br (!(r4).1) (
   some (false, ())) (
   G0 (x1, (IntKind.i64.wrap (x2 + (1 : Int))), ()))))) (
  some (true, ()))

def spec_validValues.B (N : Nat) (E0 : (List (ImplValue)) × Int × Unit → Option (Bool × Unit)) (x0 : List (ImplValue)) : Option (Bool × Unit) :=
 E0 (x0, (0 : Int), ())

def spec_validValues.L0 (N : Nat) : Nat → (List (ImplValue)) × Int × Unit → Option (Bool × Unit)
  | 0, _ => none
  | n + 1, x => spec_validValues.B0 N (spec_validValues.L0 N n) x

def spec_validValues (N : Nat) (x0 : List (ImplValue)) : Option (Bool × Unit) := spec_validValues.B N (spec_validValues.L0 N N) x0

def spec_validStep.B (N : Nat) (x0 : ImplStep) (x1 : Int) (x2 : Int) (x3 : Int) : Option (Bool × Unit) :=
 br ((ImplStep.kind x0) == (0 : Int)) (
  br ((ImplStep.a x0) == (0 : Int)) (
   bnd (spec_validValue N (ImplValue.mk (ImplStep.val_Kind x0) (ImplStep.val_Num x0) (ImplStep.val_Text x0))) fun r4 =>
   some ((r4).1, ())) (
   some (false, ()))) (
  br ((ImplStep.kind x0) == (1 : Int)) (
  bnd (spec_inRange N (ImplStep.a x0) (0 : Int) (IntKind.i64.wrap (x1 - (1 : Int)))) fun r5 =>
  br (r5).1 (
   some ((((ImplStep.val_Kind x0) == (0 : Int)) && (((ImplStep.val_Num x0) == (0 : Int)) && ((ImplStep.val_Text x0) == ([] : List (UInt8))))), ())) (
   some (false, ()))) (
  br ((ImplStep.kind x0) == (2 : Int)) (
  bnd (spec_inRange N (ImplStep.a x0) (0 : Int) (IntKind.i64.wrap (x2 - (1 : Int)))) fun r6 =>
  br (r6).1 (
   some ((((ImplStep.val_Kind x0) == (0 : Int)) && (((ImplStep.val_Num x0) == (0 : Int)) && ((ImplStep.val_Text x0) == ([] : List (UInt8))))), ())) (
   some (false, ()))) (
  br ((ImplStep.kind x0) == (3 : Int)) (
  bnd (spec_inRange N (ImplStep.a x0) (0 : Int) (IntKind.i64.wrap (x3 - (1 : Int)))) fun r7 =>
  br (r7).1 (
   some ((((ImplStep.val_Kind x0) == (0 : Int)) && (((ImplStep.val_Num x0) == (0 : Int)) && ((ImplStep.val_Text x0) == ([] : List (UInt8))))), ())) (
   some (false, ()))) (
  br ((ImplStep.kind x0) == (4 : Int)) (
  bnd (spec_inRange N (ImplStep.a x0) (0 : Int) (1 : Int)) fun r8 =>
  br (r8).1 (
   some ((((ImplStep.val_Kind x0) == (0 : Int)) && (((ImplStep.val_Num x0) == (0 : Int)) && ((ImplStep.val_Text x0) == ([] : List (UInt8))))), ())) (
   some (false, ()))) (
  br ((ImplStep.kind x0) == (5 : Int)) (
  bnd (spec_inRange N (ImplStep.a x0) (0 : Int) (6 : Int)) fun r9 =>
  br (r9).1 (
   some ((((ImplStep.val_Kind x0) == (0 : Int)) && (((ImplStep.val_Num x0) == (0 : Int)) && ((ImplStep.val_Text x0) == ([] : List (UInt8))))), ())) (
   some (false, ()))) (
  br ((ImplStep.kind x0) == (6 : Int)) (
  br ((ImplStep.a x0) == (0 : Int)) (
   some ((((ImplStep.val_Kind x0) == (0 : Int)) && (((ImplStep.val_Num x0) == (0 : Int)) && ((ImplStep.val_Text x0) == ([] : List (UInt8))))), ())) (
   some (false, ()))) (
  some (false, ()))))))))

def spec_validStep (N : Nat) (x0 : ImplStep) (x1 : Int) (x2 : Int) (x3 : Int) : Option (Bool × Unit) := spec_validStep.B N x0 x1 x2 x3

def spec_takes.B (N : Nat) (x0 : ImplStep) : Option (Int × Unit) :=
 br ((ImplStep.kind x0) == (5 : Int)) (
  some ((2 : Int), ())) (
  br ((ImplStep.kind x0) == (6 : Int)) (
  some ((3 : Int), ())) (
  some ((0 : Int), ())))

def spec_takes (N : Nat) (x0 : ImplStep) : Option (Int × Unit) := spec_takes.B N x0

def spec_validForm.B0 (N : Nat) (G0 : (List (ImplStep)) × Int × Int × Int × Int × Int × Unit → Option (Bool × Unit)) : (List (ImplStep)) × Int × Int × Int × Int × Int × Unit → Option (Bool × Unit) :=
fun (x4, x5, x6, x7, x8, x9, ()) =>
 br (decide (x9 < (((List.length x4) : Nat) : Int))) (
  gd (decide ((0 : Int) ≤ x9)) (
  gd (decide (x9 < (((List.length x4) : Nat) : Int))) (
  bnd (spec_validStep N (get x4 x9) x5 x6 x7) fun r11 =>
  br (!(r11).1) (
   some (false, ())) (
   gd (decide ((0 : Int) ≤ x9)) (
  gd (decide (x9 < (((List.length x4) : Nat) : Int))) (
  bnd (spec_takes N (get x4 x9)) fun r12 =>
  br (decide (x8 < (r12).1)) (
   some (false, ())) (
   gd (decide ((0 : Int) ≤ x9)) (
  gd (decide (x9 < (((List.length x4) : Nat) : Int))) (
  bnd (spec_takes N (get x4 x9)) fun r13 =>
  G0 (x4, x5, x6, x7, (IntKind.i64.wrap ((IntKind.i64.wrap (x8 - (r13).1)) + (1 : Int))), (IntKind.i64.wrap (x9 + (1 : Int))), ())))))))))) (
  some ((x8 == (1 : Int)), ()))

def spec_validForm.B (N : Nat) (E0 : (List (ImplStep)) × Int × Int × Int × Int × Int × Unit → Option (Bool × Unit)) (x0 : List (ImplStep)) (x1 : Int) (x2 : Int) (x3 : Int) : Option (Bool × Unit) :=
 br (decide ((((List.length x0) : Nat) : Int) > (9 : Int))) (
  some (false, ())) (
  E0 (x0, x1, x2, x3, (0 : Int), (0 : Int), ()))

def spec_validForm.L0 (N : Nat) : Nat → (List (ImplStep)) × Int × Int × Int × Int × Int × Unit → Option (Bool × Unit)
  | 0, _ => none
  | n + 1, x => spec_validForm.B0 N (spec_validForm.L0 N n) x

def spec_validForm (N : Nat) (x0 : List (ImplStep)) (x1 : Int) (x2 : Int) (x3 : Int) : Option (Bool × Unit) := spec_validForm.B N (spec_validForm.L0 N N) x0 x1 x2 x3

def spec_validActs.B2 (N : Nat) (G0 : ImplComp × Int × Unit → Option (Bool × Unit)) (G2 : ImplComp × Int × Int × Unit → Option (Bool × Unit)) : ImplComp × Int × Int × Unit → Option (Bool × Unit) :=
fun (x4, x5, x6, ()) =>
 gd (decide ((0 : Int) ≤ x5)) (
 gd (decide (x5 < (((List.length (ImplComp.acts x4)) : Nat) : Int))) (
 br (decide (x6 < (((List.length (get (ImplComp.acts x4) x5)) : Nat) : Int))) (
  gd (decide ((0 : Int) ≤ x5)) (
  gd (decide (x5 < (((List.length (ImplComp.acts x4)) : Nat) : Int))) (
  gd (decide ((0 : Int) ≤ x6)) (
  gd (decide (x6 < (((List.length (get (ImplComp.acts x4) x5)) : Nat) : Int))) (
  bnd (spec_inRange N (ImplSet.state (get (get (ImplComp.acts x4) x5) x6)) (0 : Int) (IntKind.i64.wrap ((((List.length (ImplComp.states x4)) : Nat) : Int) - (1 : Int)))) fun r8 =>
  br (!(r8).1) (
   some (false, ())) (
   bnd (spec_validForm N (ImplSet.form (get (get (ImplComp.acts x4) x5) x6)) (0 : Int) (((List.length (ImplComp.states x4)) : Nat) : Int) (0 : Int)) fun r9 =>
  br (!(r9).1) (
   some (false, ())) (
   G2 (x4, x5, (IntKind.i64.wrap (x6 + (1 : Int))), ())))))))) (
  G0 (x4, (IntKind.i64.wrap (x5 + (1 : Int))), ()))))

def spec_validActs.B0 (N : Nat) (E2 : ImplComp × Int × Int × Unit → Option (Bool × Unit)) : ImplComp × Int × Unit → Option (Bool × Unit) :=
fun (x1, x2, ()) =>
 br (decide (x2 < (((List.length (ImplComp.acts x1)) : Nat) : Int))) (
  gd (decide ((0 : Int) ≤ x2)) (
  gd (decide (x2 < (((List.length (ImplComp.acts x1)) : Nat) : Int))) (
  br (decide ((((List.length (get (ImplComp.acts x1) x2)) : Nat) : Int) > (3 : Int))) (
   some (false, ())) (
   E2 (x1, x2, (0 : Int), ()))))) (
  some (true, ()))

def spec_validActs.B (N : Nat) (E0 : ImplComp × Int × Unit → Option (Bool × Unit)) (x0 : ImplComp) : Option (Bool × Unit) :=
 br (decide ((((List.length (ImplComp.acts x0)) : Nat) : Int) > (3 : Int))) (
  some (false, ())) (
  E0 (x0, (0 : Int), ()))

def spec_validActs.L2 (N : Nat) (G0 : ImplComp × Int × Unit → Option (Bool × Unit)) : Nat → ImplComp × Int × Int × Unit → Option (Bool × Unit)
  | 0, _ => none
  | n + 1, x => spec_validActs.B2 N G0 (spec_validActs.L2 N G0 n) x

def spec_validActs.L0 (N : Nat) : Nat → ImplComp × Int × Unit → Option (Bool × Unit)
  | 0, _ => none
  | n + 1, x => spec_validActs.B0 N (spec_validActs.L2 N (spec_validActs.L0 N n) N) x

def spec_validActs (N : Nat) (x0 : ImplComp) : Option (Bool × Unit) := spec_validActs.B N (spec_validActs.L0 N N) x0

def spec_tmpls.B (N : Nat) (x0 : Int) : Option (Int × Int × Unit) :=
 br (x0 == (0 : Int)) (
  br (x0 == (0 : Int)) (
   some ((0 : Int), (0 : Int), ())) (
   br (x0 == (2 : Int)) (
   some ((1 : Int), (2 : Int), ())) (
   br (x0 == (3 : Int)) (
   some ((1 : Int), (1 : Int), ())) (
   some ((0 : Int), (4 : Int), ()))))) (
  br (x0 == (4 : Int)) (
  some ((0 : Int), (0 : Int), ())) (
  br (x0 == (2 : Int)) (
  some ((1 : Int), (2 : Int), ())) (
  br (x0 == (3 : Int)) (
  some ((1 : Int), (1 : Int), ())) (
  some ((0 : Int), (4 : Int), ())))))

def spec_tmpls (N : Nat) (x0 : Int) : Option (Int × Int × Unit) := spec_tmpls.B N x0

def spec_validNames.B0 (N : Nat) (G0 : (List (Int)) × Int × Unit → Option (Bool × Unit)) : (List (Int)) × Int × Unit → Option (Bool × Unit) :=
fun (x1, x2, ()) =>
 br (decide (x2 < (((List.length x1) : Nat) : Int))) (
  gd (decide ((0 : Int) ≤ x2)) (
  gd (decide (x2 < (((List.length x1) : Nat) : Int))) (
  bnd (spec_inRange N (get x1 x2) (0 : Int) (3 : Int)) fun r4 =>
  br (!(r4).1) (
   some (false, ())) (
   br (decide (x2 > (0 : Int))) (
   gd (decide ((0 : Int) ≤ x2)) (
   gd (decide (x2 < (((List.length x1) : Nat) : Int))) (
   gd (decide ((0 : Int) ≤ (IntKind.i64.wrap (x2 - (1 : Int))))) (
   gd (decide ((IntKind.i64.wrap (x2 - (1 : Int))) < (((List.length x1) : Nat) : Int))) (
   br (decide ((get x1 x2) ≤ (get x1 (IntKind.i64.wrap (x2 - (1 : Int)))))) (
    some (false, ())) (
    G0 (x1, (IntKind.i64.wrap (x2 + (1 : Int))), ()))))))) (
   G0 (x1, (IntKind.i64.wrap (x2 + (1 : Int))), ())))))) (
  some (true, ()))

def spec_validNames.B (N : Nat) (E0 : (List (Int)) × Int × Unit → Option (Bool × Unit)) (x0 : List (Int)) : Option (Bool × Unit) :=
 E0 (x0, (0 : Int), ())

def spec_validNames.L0 (N : Nat) : Nat → (List (Int)) × Int × Unit → Option (Bool × Unit)
  | 0, _ => none
  | n + 1, x => spec_validNames.B0 N (spec_validNames.L0 N n) x

def spec_validNames (N : Nat) (x0 : List (Int)) : Option (Bool × Unit) := spec_validNames.B N (spec_validNames.L0 N N) x0

def spec_validOns.B0 (N : Nat) (G0 : (List (ImplOn)) × Int × Int × Unit → Option (Bool × Unit)) : (List (ImplOn)) × Int × Int × Unit → Option (Bool × Unit) :=
fun (x2, x3, x4, ()) =>
 br (decide (x4 < (((List.length x2) : Nat) : Int))) (
  gd (decide ((0 : Int) ≤ x4)) (
  gd (decide (x4 < (((List.length x2) : Nat) : Int))) (
  bnd (spec_inRange N (ImplOn.event (get x2 x4)) (0 : Int) (2 : Int)) fun r6 =>
  br (!(r6).1) (
   some (false, ())) (
   gd (decide ((0 : Int) ≤ x4)) (
  gd (decide (x4 < (((List.length x2) : Nat) : Int))) (
  bnd (spec_inRange N (ImplOn.act (get x2 x4)) (0 : Int) (IntKind.i64.wrap (x3 - (1 : Int)))) fun r7 =>
  br (!(r7).1) (
   some (false, ())) (
   br (decide (x4 > (0 : Int))) (
   gd (decide ((0 : Int) ≤ x4)) (
   gd (decide (x4 < (((List.length x2) : Nat) : Int))) (
   gd (decide ((0 : Int) ≤ (IntKind.i64.wrap (x4 - (1 : Int))))) (
   gd (decide ((IntKind.i64.wrap (x4 - (1 : Int))) < (((List.length x2) : Nat) : Int))) (
   br (decide ((ImplOn.event (get x2 x4)) ≤ (ImplOn.event (get x2 (IntKind.i64.wrap (x4 - (1 : Int))))))) (
    some (false, ())) (
    G0 (x2, x3, (IntKind.i64.wrap (x4 + (1 : Int))), ()))))))) (
   G0 (x2, x3, (IntKind.i64.wrap (x4 + (1 : Int))), ()))))))))) (
  some (true, ()))

def spec_validOns.B (N : Nat) (E0 : (List (ImplOn)) × Int × Int × Unit → Option (Bool × Unit)) (x0 : List (ImplOn)) (x1 : Int) : Option (Bool × Unit) :=
 E0 (x0, x1, (0 : Int), ())

def spec_validOns.L0 (N : Nat) : Nat → (List (ImplOn)) × Int × Int × Unit → Option (Bool × Unit)
  | 0, _ => none
  | n + 1, x => spec_validOns.B0 N (spec_validOns.L0 N n) x

def spec_validOns (N : Nat) (x0 : List (ImplOn)) (x1 : Int) : Option (Bool × Unit) := spec_validOns.B N (spec_validOns.L0 N N) x0 x1

def spec_validHead.B (N : Nat) (x0 : List (ImplComp)) (x1 : Int) (x2 : ImplTmpl) : Option (Bool × Unit) :=
 br ((ImplTmpl.kind x2) != (1 : Int)) (
  br (decide ((((List.length (ImplTmpl.names x2)) : Nat) : Int) > (0 : Int))) (
   some (false, ())) (
   br (decide ((((List.length (ImplTmpl.ons x2)) : Nat) : Int) > (0 : Int))) (
   some (false, ())) (
   br ((ImplTmpl.kind x2) != (3 : Int)) (
   br (decide ((((List.length (ImplTmpl.key x2)) : Nat) : Int) > (0 : Int))) (
    some (false, ())) (
    br ((ImplTmpl.kind x2) == (0 : Int)) (
    br ((ImplTmpl.kind x2) == (0 : Int)) (
     br ((ImplTmpl.tag x2) == (0 : Int)) (
      some (((((List.length (ImplTmpl.args x2)) : Nat) : Int) == (1 : Int)), ())) (
      some (false, ()))) (
     br ((ImplTmpl.kind x2) == (1 : Int)) (
     bnd (spec_inRange N (ImplTmpl.tag x2) (0 : Int) (4 : Int)) fun r3 =>
     br (r3).1 (
      br ((((List.length (ImplTmpl.args x2)) : Nat) : Int) == (((List.length (ImplTmpl.names x2)) : Nat) : Int)) (
       bnd (spec_validNames N (ImplTmpl.names x2)) fun r4 =>
       br (r4).1 (
        gd (decide ((0 : Int) ≤ x1)) (
        gd (decide (x1 < (((List.length x0) : Nat) : Int))) (
        bnd (spec_validOns N (ImplTmpl.ons x2) (((List.length (ImplComp.acts (get x0 x1))) : Nat) : Int)) fun r5 =>
        some ((r5).1, ())))) (
        some (false, ()))) (
       some (false, ()))) (
      some (false, ()))) (
     br ((ImplTmpl.kind x2) == (4 : Int)) (
     bnd (spec_inRange N (ImplTmpl.tag x2) (IntKind.i64.wrap (x1 + (1 : Int))) (IntKind.i64.wrap ((((List.length x0) : Nat) : Int) - (1 : Int)))) fun r6 =>
     br (r6).1 (
      gd (decide ((0 : Int) ≤ (ImplTmpl.tag x2))) (
      gd (decide ((ImplTmpl.tag x2) < (((List.length x0) : Nat) : Int))) (
      some (((((List.length (ImplTmpl.args x2)) : Nat) : Int) == (ImplComp.props (get x0 (ImplTmpl.tag x2)))), ())))) (
      some (false, ()))) (
     br ((ImplTmpl.kind x2) == (5 : Int)) (
     bnd (spec_inRange N (ImplTmpl.tag x2) (0 : Int) (1 : Int)) fun r7 =>
     br (r7).1 (
      some (((((List.length (ImplTmpl.args x2)) : Nat) : Int) == (1 : Int)), ())) (
      some (false, ()))) (
     some (false, ())))))) (
    br ((ImplTmpl.kind x2) == (2 : Int)) (
    br ((ImplTmpl.kind x2) == (2 : Int)) (
     br ((ImplTmpl.tag x2) == (0 : Int)) (
      some (((((List.length (ImplTmpl.args x2)) : Nat) : Int) == (1 : Int)), ())) (
      some (false, ()))) (
     br ((ImplTmpl.kind x2) == (1 : Int)) (
     bnd (spec_inRange N (ImplTmpl.tag x2) (0 : Int) (4 : Int)) fun r8 =>
     br (r8).1 (
      br ((((List.length (ImplTmpl.args x2)) : Nat) : Int) == (((List.length (ImplTmpl.names x2)) : Nat) : Int)) (
       bnd (spec_validNames N (ImplTmpl.names x2)) fun r9 =>
       br (r9).1 (
        gd (decide ((0 : Int) ≤ x1)) (
        gd (decide (x1 < (((List.length x0) : Nat) : Int))) (
        bnd (spec_validOns N (ImplTmpl.ons x2) (((List.length (ImplComp.acts (get x0 x1))) : Nat) : Int)) fun r10 =>
        some ((r10).1, ())))) (
        some (false, ()))) (
       some (false, ()))) (
      some (false, ()))) (
     br ((ImplTmpl.kind x2) == (4 : Int)) (
     bnd (spec_inRange N (ImplTmpl.tag x2) (IntKind.i64.wrap (x1 + (1 : Int))) (IntKind.i64.wrap ((((List.length x0) : Nat) : Int) - (1 : Int)))) fun r11 =>
     br (r11).1 (
      gd (decide ((0 : Int) ≤ (ImplTmpl.tag x2))) (
      gd (decide ((ImplTmpl.tag x2) < (((List.length x0) : Nat) : Int))) (
      some (((((List.length (ImplTmpl.args x2)) : Nat) : Int) == (ImplComp.props (get x0 (ImplTmpl.tag x2)))), ())))) (
      some (false, ()))) (
     br ((ImplTmpl.kind x2) == (5 : Int)) (
     bnd (spec_inRange N (ImplTmpl.tag x2) (0 : Int) (1 : Int)) fun r12 =>
     br (r12).1 (
      some (((((List.length (ImplTmpl.args x2)) : Nat) : Int) == (1 : Int)), ())) (
      some (false, ()))) (
     some (false, ())))))) (
    br ((ImplTmpl.kind x2) == (3 : Int)) (
    br ((ImplTmpl.tag x2) == (0 : Int)) (
     some (((((List.length (ImplTmpl.args x2)) : Nat) : Int) == (1 : Int)), ())) (
     some (false, ()))) (
    br ((ImplTmpl.kind x2) == (1 : Int)) (
    bnd (spec_inRange N (ImplTmpl.tag x2) (0 : Int) (4 : Int)) fun r13 =>
    br (r13).1 (
     br ((((List.length (ImplTmpl.args x2)) : Nat) : Int) == (((List.length (ImplTmpl.names x2)) : Nat) : Int)) (
      bnd (spec_validNames N (ImplTmpl.names x2)) fun r14 =>
      br (r14).1 (
       gd (decide ((0 : Int) ≤ x1)) (
       gd (decide (x1 < (((List.length x0) : Nat) : Int))) (
       bnd (spec_validOns N (ImplTmpl.ons x2) (((List.length (ImplComp.acts (get x0 x1))) : Nat) : Int)) fun r15 =>
       some ((r15).1, ())))) (
       some (false, ()))) (
      some (false, ()))) (
     some (false, ()))) (
    br ((ImplTmpl.kind x2) == (4 : Int)) (
    bnd (spec_inRange N (ImplTmpl.tag x2) (IntKind.i64.wrap (x1 + (1 : Int))) (IntKind.i64.wrap ((((List.length x0) : Nat) : Int) - (1 : Int)))) fun r16 =>
    br (r16).1 (
     gd (decide ((0 : Int) ≤ (ImplTmpl.tag x2))) (
     gd (decide ((ImplTmpl.tag x2) < (((List.length x0) : Nat) : Int))) (
     some (((((List.length (ImplTmpl.args x2)) : Nat) : Int) == (ImplComp.props (get x0 (ImplTmpl.tag x2)))), ())))) (
     some (false, ()))) (
    br ((ImplTmpl.kind x2) == (5 : Int)) (
    bnd (spec_inRange N (ImplTmpl.tag x2) (0 : Int) (1 : Int)) fun r17 =>
    br (r17).1 (
     some (((((List.length (ImplTmpl.args x2)) : Nat) : Int) == (1 : Int)), ())) (
     some (false, ()))) (
    some (false, ()))))))))) (
   br ((ImplTmpl.kind x2) == (0 : Int)) (
   br ((ImplTmpl.kind x2) == (0 : Int)) (
    br ((ImplTmpl.tag x2) == (0 : Int)) (
     some (((((List.length (ImplTmpl.args x2)) : Nat) : Int) == (1 : Int)), ())) (
     some (false, ()))) (
    br ((ImplTmpl.kind x2) == (1 : Int)) (
    bnd (spec_inRange N (ImplTmpl.tag x2) (0 : Int) (4 : Int)) fun r18 =>
    br (r18).1 (
     br ((((List.length (ImplTmpl.args x2)) : Nat) : Int) == (((List.length (ImplTmpl.names x2)) : Nat) : Int)) (
      bnd (spec_validNames N (ImplTmpl.names x2)) fun r19 =>
      br (r19).1 (
       gd (decide ((0 : Int) ≤ x1)) (
       gd (decide (x1 < (((List.length x0) : Nat) : Int))) (
       bnd (spec_validOns N (ImplTmpl.ons x2) (((List.length (ImplComp.acts (get x0 x1))) : Nat) : Int)) fun r20 =>
       some ((r20).1, ())))) (
       some (false, ()))) (
      some (false, ()))) (
     some (false, ()))) (
    br ((ImplTmpl.kind x2) == (4 : Int)) (
    bnd (spec_inRange N (ImplTmpl.tag x2) (IntKind.i64.wrap (x1 + (1 : Int))) (IntKind.i64.wrap ((((List.length x0) : Nat) : Int) - (1 : Int)))) fun r21 =>
    br (r21).1 (
     gd (decide ((0 : Int) ≤ (ImplTmpl.tag x2))) (
     gd (decide ((ImplTmpl.tag x2) < (((List.length x0) : Nat) : Int))) (
     some (((((List.length (ImplTmpl.args x2)) : Nat) : Int) == (ImplComp.props (get x0 (ImplTmpl.tag x2)))), ())))) (
     some (false, ()))) (
    br ((ImplTmpl.kind x2) == (5 : Int)) (
    bnd (spec_inRange N (ImplTmpl.tag x2) (0 : Int) (1 : Int)) fun r22 =>
    br (r22).1 (
     some (((((List.length (ImplTmpl.args x2)) : Nat) : Int) == (1 : Int)), ())) (
     some (false, ()))) (
    some (false, ())))))) (
   br ((ImplTmpl.kind x2) == (2 : Int)) (
   br ((ImplTmpl.kind x2) == (2 : Int)) (
    br ((ImplTmpl.tag x2) == (0 : Int)) (
     some (((((List.length (ImplTmpl.args x2)) : Nat) : Int) == (1 : Int)), ())) (
     some (false, ()))) (
    br ((ImplTmpl.kind x2) == (1 : Int)) (
    bnd (spec_inRange N (ImplTmpl.tag x2) (0 : Int) (4 : Int)) fun r23 =>
    br (r23).1 (
     br ((((List.length (ImplTmpl.args x2)) : Nat) : Int) == (((List.length (ImplTmpl.names x2)) : Nat) : Int)) (
      bnd (spec_validNames N (ImplTmpl.names x2)) fun r24 =>
      br (r24).1 (
       gd (decide ((0 : Int) ≤ x1)) (
       gd (decide (x1 < (((List.length x0) : Nat) : Int))) (
       bnd (spec_validOns N (ImplTmpl.ons x2) (((List.length (ImplComp.acts (get x0 x1))) : Nat) : Int)) fun r25 =>
       some ((r25).1, ())))) (
       some (false, ()))) (
      some (false, ()))) (
     some (false, ()))) (
    br ((ImplTmpl.kind x2) == (4 : Int)) (
    bnd (spec_inRange N (ImplTmpl.tag x2) (IntKind.i64.wrap (x1 + (1 : Int))) (IntKind.i64.wrap ((((List.length x0) : Nat) : Int) - (1 : Int)))) fun r26 =>
    br (r26).1 (
     gd (decide ((0 : Int) ≤ (ImplTmpl.tag x2))) (
     gd (decide ((ImplTmpl.tag x2) < (((List.length x0) : Nat) : Int))) (
     some (((((List.length (ImplTmpl.args x2)) : Nat) : Int) == (ImplComp.props (get x0 (ImplTmpl.tag x2)))), ())))) (
     some (false, ()))) (
    br ((ImplTmpl.kind x2) == (5 : Int)) (
    bnd (spec_inRange N (ImplTmpl.tag x2) (0 : Int) (1 : Int)) fun r27 =>
    br (r27).1 (
     some (((((List.length (ImplTmpl.args x2)) : Nat) : Int) == (1 : Int)), ())) (
     some (false, ()))) (
    some (false, ())))))) (
   br ((ImplTmpl.kind x2) == (3 : Int)) (
   br ((ImplTmpl.tag x2) == (0 : Int)) (
    some (((((List.length (ImplTmpl.args x2)) : Nat) : Int) == (1 : Int)), ())) (
    some (false, ()))) (
   br ((ImplTmpl.kind x2) == (1 : Int)) (
   bnd (spec_inRange N (ImplTmpl.tag x2) (0 : Int) (4 : Int)) fun r28 =>
   br (r28).1 (
    br ((((List.length (ImplTmpl.args x2)) : Nat) : Int) == (((List.length (ImplTmpl.names x2)) : Nat) : Int)) (
     bnd (spec_validNames N (ImplTmpl.names x2)) fun r29 =>
     br (r29).1 (
      gd (decide ((0 : Int) ≤ x1)) (
      gd (decide (x1 < (((List.length x0) : Nat) : Int))) (
      bnd (spec_validOns N (ImplTmpl.ons x2) (((List.length (ImplComp.acts (get x0 x1))) : Nat) : Int)) fun r30 =>
      some ((r30).1, ())))) (
      some (false, ()))) (
     some (false, ()))) (
    some (false, ()))) (
   br ((ImplTmpl.kind x2) == (4 : Int)) (
   bnd (spec_inRange N (ImplTmpl.tag x2) (IntKind.i64.wrap (x1 + (1 : Int))) (IntKind.i64.wrap ((((List.length x0) : Nat) : Int) - (1 : Int)))) fun r31 =>
   br (r31).1 (
    gd (decide ((0 : Int) ≤ (ImplTmpl.tag x2))) (
    gd (decide ((ImplTmpl.tag x2) < (((List.length x0) : Nat) : Int))) (
    some (((((List.length (ImplTmpl.args x2)) : Nat) : Int) == (ImplComp.props (get x0 (ImplTmpl.tag x2)))), ())))) (
    some (false, ()))) (
   br ((ImplTmpl.kind x2) == (5 : Int)) (
   bnd (spec_inRange N (ImplTmpl.tag x2) (0 : Int) (1 : Int)) fun r32 =>
   br (r32).1 (
    some (((((List.length (ImplTmpl.args x2)) : Nat) : Int) == (1 : Int)), ())) (
    some (false, ()))) (
   some (false, ()))))))))))) (
  br ((ImplTmpl.kind x2) != (3 : Int)) (
  br (decide ((((List.length (ImplTmpl.key x2)) : Nat) : Int) > (0 : Int))) (
   some (false, ())) (
   br ((ImplTmpl.kind x2) == (0 : Int)) (
   br ((ImplTmpl.kind x2) == (0 : Int)) (
    br ((ImplTmpl.tag x2) == (0 : Int)) (
     some (((((List.length (ImplTmpl.args x2)) : Nat) : Int) == (1 : Int)), ())) (
     some (false, ()))) (
    br ((ImplTmpl.kind x2) == (1 : Int)) (
    bnd (spec_inRange N (ImplTmpl.tag x2) (0 : Int) (4 : Int)) fun r33 =>
    br (r33).1 (
     br ((((List.length (ImplTmpl.args x2)) : Nat) : Int) == (((List.length (ImplTmpl.names x2)) : Nat) : Int)) (
      bnd (spec_validNames N (ImplTmpl.names x2)) fun r34 =>
      br (r34).1 (
       gd (decide ((0 : Int) ≤ x1)) (
       gd (decide (x1 < (((List.length x0) : Nat) : Int))) (
       bnd (spec_validOns N (ImplTmpl.ons x2) (((List.length (ImplComp.acts (get x0 x1))) : Nat) : Int)) fun r35 =>
       some ((r35).1, ())))) (
       some (false, ()))) (
      some (false, ()))) (
     some (false, ()))) (
    br ((ImplTmpl.kind x2) == (4 : Int)) (
    bnd (spec_inRange N (ImplTmpl.tag x2) (IntKind.i64.wrap (x1 + (1 : Int))) (IntKind.i64.wrap ((((List.length x0) : Nat) : Int) - (1 : Int)))) fun r36 =>
    br (r36).1 (
     gd (decide ((0 : Int) ≤ (ImplTmpl.tag x2))) (
     gd (decide ((ImplTmpl.tag x2) < (((List.length x0) : Nat) : Int))) (
     some (((((List.length (ImplTmpl.args x2)) : Nat) : Int) == (ImplComp.props (get x0 (ImplTmpl.tag x2)))), ())))) (
     some (false, ()))) (
    br ((ImplTmpl.kind x2) == (5 : Int)) (
    bnd (spec_inRange N (ImplTmpl.tag x2) (0 : Int) (1 : Int)) fun r37 =>
    br (r37).1 (
     some (((((List.length (ImplTmpl.args x2)) : Nat) : Int) == (1 : Int)), ())) (
     some (false, ()))) (
    some (false, ())))))) (
   br ((ImplTmpl.kind x2) == (2 : Int)) (
   br ((ImplTmpl.kind x2) == (2 : Int)) (
    br ((ImplTmpl.tag x2) == (0 : Int)) (
     some (((((List.length (ImplTmpl.args x2)) : Nat) : Int) == (1 : Int)), ())) (
     some (false, ()))) (
    br ((ImplTmpl.kind x2) == (1 : Int)) (
    bnd (spec_inRange N (ImplTmpl.tag x2) (0 : Int) (4 : Int)) fun r38 =>
    br (r38).1 (
     br ((((List.length (ImplTmpl.args x2)) : Nat) : Int) == (((List.length (ImplTmpl.names x2)) : Nat) : Int)) (
      bnd (spec_validNames N (ImplTmpl.names x2)) fun r39 =>
      br (r39).1 (
       gd (decide ((0 : Int) ≤ x1)) (
       gd (decide (x1 < (((List.length x0) : Nat) : Int))) (
       bnd (spec_validOns N (ImplTmpl.ons x2) (((List.length (ImplComp.acts (get x0 x1))) : Nat) : Int)) fun r40 =>
       some ((r40).1, ())))) (
       some (false, ()))) (
      some (false, ()))) (
     some (false, ()))) (
    br ((ImplTmpl.kind x2) == (4 : Int)) (
    bnd (spec_inRange N (ImplTmpl.tag x2) (IntKind.i64.wrap (x1 + (1 : Int))) (IntKind.i64.wrap ((((List.length x0) : Nat) : Int) - (1 : Int)))) fun r41 =>
    br (r41).1 (
     gd (decide ((0 : Int) ≤ (ImplTmpl.tag x2))) (
     gd (decide ((ImplTmpl.tag x2) < (((List.length x0) : Nat) : Int))) (
     some (((((List.length (ImplTmpl.args x2)) : Nat) : Int) == (ImplComp.props (get x0 (ImplTmpl.tag x2)))), ())))) (
     some (false, ()))) (
    br ((ImplTmpl.kind x2) == (5 : Int)) (
    bnd (spec_inRange N (ImplTmpl.tag x2) (0 : Int) (1 : Int)) fun r42 =>
    br (r42).1 (
     some (((((List.length (ImplTmpl.args x2)) : Nat) : Int) == (1 : Int)), ())) (
     some (false, ()))) (
    some (false, ())))))) (
   br ((ImplTmpl.kind x2) == (3 : Int)) (
   br ((ImplTmpl.tag x2) == (0 : Int)) (
    some (((((List.length (ImplTmpl.args x2)) : Nat) : Int) == (1 : Int)), ())) (
    some (false, ()))) (
   br ((ImplTmpl.kind x2) == (1 : Int)) (
   bnd (spec_inRange N (ImplTmpl.tag x2) (0 : Int) (4 : Int)) fun r43 =>
   br (r43).1 (
    br ((((List.length (ImplTmpl.args x2)) : Nat) : Int) == (((List.length (ImplTmpl.names x2)) : Nat) : Int)) (
     bnd (spec_validNames N (ImplTmpl.names x2)) fun r44 =>
     br (r44).1 (
      gd (decide ((0 : Int) ≤ x1)) (
      gd (decide (x1 < (((List.length x0) : Nat) : Int))) (
      bnd (spec_validOns N (ImplTmpl.ons x2) (((List.length (ImplComp.acts (get x0 x1))) : Nat) : Int)) fun r45 =>
      some ((r45).1, ())))) (
      some (false, ()))) (
     some (false, ()))) (
    some (false, ()))) (
   br ((ImplTmpl.kind x2) == (4 : Int)) (
   bnd (spec_inRange N (ImplTmpl.tag x2) (IntKind.i64.wrap (x1 + (1 : Int))) (IntKind.i64.wrap ((((List.length x0) : Nat) : Int) - (1 : Int)))) fun r46 =>
   br (r46).1 (
    gd (decide ((0 : Int) ≤ (ImplTmpl.tag x2))) (
    gd (decide ((ImplTmpl.tag x2) < (((List.length x0) : Nat) : Int))) (
    some (((((List.length (ImplTmpl.args x2)) : Nat) : Int) == (ImplComp.props (get x0 (ImplTmpl.tag x2)))), ())))) (
    some (false, ()))) (
   br ((ImplTmpl.kind x2) == (5 : Int)) (
   bnd (spec_inRange N (ImplTmpl.tag x2) (0 : Int) (1 : Int)) fun r47 =>
   br (r47).1 (
    some (((((List.length (ImplTmpl.args x2)) : Nat) : Int) == (1 : Int)), ())) (
    some (false, ()))) (
   some (false, ()))))))))) (
  br ((ImplTmpl.kind x2) == (0 : Int)) (
  br ((ImplTmpl.kind x2) == (0 : Int)) (
   br ((ImplTmpl.tag x2) == (0 : Int)) (
    some (((((List.length (ImplTmpl.args x2)) : Nat) : Int) == (1 : Int)), ())) (
    some (false, ()))) (
   br ((ImplTmpl.kind x2) == (1 : Int)) (
   bnd (spec_inRange N (ImplTmpl.tag x2) (0 : Int) (4 : Int)) fun r48 =>
   br (r48).1 (
    br ((((List.length (ImplTmpl.args x2)) : Nat) : Int) == (((List.length (ImplTmpl.names x2)) : Nat) : Int)) (
     bnd (spec_validNames N (ImplTmpl.names x2)) fun r49 =>
     br (r49).1 (
      gd (decide ((0 : Int) ≤ x1)) (
      gd (decide (x1 < (((List.length x0) : Nat) : Int))) (
      bnd (spec_validOns N (ImplTmpl.ons x2) (((List.length (ImplComp.acts (get x0 x1))) : Nat) : Int)) fun r50 =>
      some ((r50).1, ())))) (
      some (false, ()))) (
     some (false, ()))) (
    some (false, ()))) (
   br ((ImplTmpl.kind x2) == (4 : Int)) (
   bnd (spec_inRange N (ImplTmpl.tag x2) (IntKind.i64.wrap (x1 + (1 : Int))) (IntKind.i64.wrap ((((List.length x0) : Nat) : Int) - (1 : Int)))) fun r51 =>
   br (r51).1 (
    gd (decide ((0 : Int) ≤ (ImplTmpl.tag x2))) (
    gd (decide ((ImplTmpl.tag x2) < (((List.length x0) : Nat) : Int))) (
    some (((((List.length (ImplTmpl.args x2)) : Nat) : Int) == (ImplComp.props (get x0 (ImplTmpl.tag x2)))), ())))) (
    some (false, ()))) (
   br ((ImplTmpl.kind x2) == (5 : Int)) (
   bnd (spec_inRange N (ImplTmpl.tag x2) (0 : Int) (1 : Int)) fun r52 =>
   br (r52).1 (
    some (((((List.length (ImplTmpl.args x2)) : Nat) : Int) == (1 : Int)), ())) (
    some (false, ()))) (
   some (false, ())))))) (
  br ((ImplTmpl.kind x2) == (2 : Int)) (
  br ((ImplTmpl.kind x2) == (2 : Int)) (
   br ((ImplTmpl.tag x2) == (0 : Int)) (
    some (((((List.length (ImplTmpl.args x2)) : Nat) : Int) == (1 : Int)), ())) (
    some (false, ()))) (
   br ((ImplTmpl.kind x2) == (1 : Int)) (
   bnd (spec_inRange N (ImplTmpl.tag x2) (0 : Int) (4 : Int)) fun r53 =>
   br (r53).1 (
    br ((((List.length (ImplTmpl.args x2)) : Nat) : Int) == (((List.length (ImplTmpl.names x2)) : Nat) : Int)) (
     bnd (spec_validNames N (ImplTmpl.names x2)) fun r54 =>
     br (r54).1 (
      gd (decide ((0 : Int) ≤ x1)) (
      gd (decide (x1 < (((List.length x0) : Nat) : Int))) (
      bnd (spec_validOns N (ImplTmpl.ons x2) (((List.length (ImplComp.acts (get x0 x1))) : Nat) : Int)) fun r55 =>
      some ((r55).1, ())))) (
      some (false, ()))) (
     some (false, ()))) (
    some (false, ()))) (
   br ((ImplTmpl.kind x2) == (4 : Int)) (
   bnd (spec_inRange N (ImplTmpl.tag x2) (IntKind.i64.wrap (x1 + (1 : Int))) (IntKind.i64.wrap ((((List.length x0) : Nat) : Int) - (1 : Int)))) fun r56 =>
   br (r56).1 (
    gd (decide ((0 : Int) ≤ (ImplTmpl.tag x2))) (
    gd (decide ((ImplTmpl.tag x2) < (((List.length x0) : Nat) : Int))) (
    some (((((List.length (ImplTmpl.args x2)) : Nat) : Int) == (ImplComp.props (get x0 (ImplTmpl.tag x2)))), ())))) (
    some (false, ()))) (
   br ((ImplTmpl.kind x2) == (5 : Int)) (
   bnd (spec_inRange N (ImplTmpl.tag x2) (0 : Int) (1 : Int)) fun r57 =>
   br (r57).1 (
    some (((((List.length (ImplTmpl.args x2)) : Nat) : Int) == (1 : Int)), ())) (
    some (false, ()))) (
   some (false, ())))))) (
  br ((ImplTmpl.kind x2) == (3 : Int)) (
  br ((ImplTmpl.tag x2) == (0 : Int)) (
   some (((((List.length (ImplTmpl.args x2)) : Nat) : Int) == (1 : Int)), ())) (
   some (false, ()))) (
  br ((ImplTmpl.kind x2) == (1 : Int)) (
  bnd (spec_inRange N (ImplTmpl.tag x2) (0 : Int) (4 : Int)) fun r58 =>
  br (r58).1 (
   br ((((List.length (ImplTmpl.args x2)) : Nat) : Int) == (((List.length (ImplTmpl.names x2)) : Nat) : Int)) (
    bnd (spec_validNames N (ImplTmpl.names x2)) fun r59 =>
    br (r59).1 (
     gd (decide ((0 : Int) ≤ x1)) (
     gd (decide (x1 < (((List.length x0) : Nat) : Int))) (
     bnd (spec_validOns N (ImplTmpl.ons x2) (((List.length (ImplComp.acts (get x0 x1))) : Nat) : Int)) fun r60 =>
     some ((r60).1, ())))) (
     some (false, ()))) (
    some (false, ()))) (
   some (false, ()))) (
  br ((ImplTmpl.kind x2) == (4 : Int)) (
  bnd (spec_inRange N (ImplTmpl.tag x2) (IntKind.i64.wrap (x1 + (1 : Int))) (IntKind.i64.wrap ((((List.length x0) : Nat) : Int) - (1 : Int)))) fun r61 =>
  br (r61).1 (
   gd (decide ((0 : Int) ≤ (ImplTmpl.tag x2))) (
   gd (decide ((ImplTmpl.tag x2) < (((List.length x0) : Nat) : Int))) (
   some (((((List.length (ImplTmpl.args x2)) : Nat) : Int) == (ImplComp.props (get x0 (ImplTmpl.tag x2)))), ())))) (
   some (false, ()))) (
  br ((ImplTmpl.kind x2) == (5 : Int)) (
  bnd (spec_inRange N (ImplTmpl.tag x2) (0 : Int) (1 : Int)) fun r62 =>
  br (r62).1 (
   some (((((List.length (ImplTmpl.args x2)) : Nat) : Int) == (1 : Int)), ())) (
   some (false, ()))) (
  some (false, ())))))))))

def spec_validHead (N : Nat) (x0 : List (ImplComp)) (x1 : Int) (x2 : ImplTmpl) : Option (Bool × Unit) := spec_validHead.B N x0 x1 x2

def spec_validForms.B0 (N : Nat) (G0 : (List (List (ImplStep))) × Int × Int × Int × Int × Unit → Option (Bool × Unit)) : (List (List (ImplStep))) × Int × Int × Int × Int × Unit → Option (Bool × Unit) :=
fun (x4, x5, x6, x7, x8, ()) =>
 br (decide (x8 < (((List.length x4) : Nat) : Int))) (
  gd (decide ((0 : Int) ≤ x8)) (
  gd (decide (x8 < (((List.length x4) : Nat) : Int))) (
  bnd (spec_validForm N (get x4 x8) x5 x6 x7) fun r10 =>
  br (!(r10).1) (
   some (false, ())) (
   G0 (x4, x5, x6, x7, (IntKind.i64.wrap (x8 + (1 : Int))), ()))))) (
  some (true, ()))

def spec_validForms.B (N : Nat) (E0 : (List (List (ImplStep))) × Int × Int × Int × Int × Unit → Option (Bool × Unit)) (x0 : List (List (ImplStep))) (x1 : Int) (x2 : Int) (x3 : Int) : Option (Bool × Unit) :=
 E0 (x0, x1, x2, x3, (0 : Int), ())

def spec_validForms.L0 (N : Nat) : Nat → (List (List (ImplStep))) × Int × Int × Int × Int × Unit → Option (Bool × Unit)
  | 0, _ => none
  | n + 1, x => spec_validForms.B0 N (spec_validForms.L0 N n) x

def spec_validForms (N : Nat) (x0 : List (List (ImplStep))) (x1 : Int) (x2 : Int) (x3 : Int) : Option (Bool × Unit) := spec_validForms.B N (spec_validForms.L0 N N) x0 x1 x2 x3

def spec_validTmpl.B0 (N : Nat) (R_spec_validTmpl : List (ImplComp) → Int → ImplTmpl → Int → Int → Option (Bool × Unit)) (G0 : (List (ImplComp)) × Int × Int × Int × ImplTmpl × Int × Unit → Option (Bool × Unit)) : (List (ImplComp)) × Int × Int × Int × ImplTmpl × Int × Unit → Option (Bool × Unit) :=
fun (x15, x16, x17, x18, x19, x20, ()) =>
 br (decide (x20 < (((List.length (ImplTmpl.kids x19)) : Nat) : Int))) (
  gd (decide ((0 : Int) ≤ x20)) (
  gd (decide (x20 < (((List.length (ImplTmpl.kids x19)) : Nat) : Int))) (
  bnd (R_spec_validTmpl x15 x16 (ImplTmpl.mk (ImplTmpl.kind (get (ImplTmpl.kids x19) x20)) (ImplTmpl.tag (get (ImplTmpl.kids x19) x20)) (ImplTmpl.names (get (ImplTmpl.kids x19) x20)) (ImplTmpl.args (get (ImplTmpl.kids x19) x20)) (ImplTmpl.key (get (ImplTmpl.kids x19) x20)) (ImplTmpl.ons (get (ImplTmpl.kids x19) x20)) (ImplTmpl.kids (get (ImplTmpl.kids x19) x20))) (IntKind.i64.wrap (x17 + (1 : Int))) x18) fun r22 =>
  br (!(r22).1) (
   some (false, ())) (
   G0 (x15, x16, x17, x18, (ImplTmpl.mk (ImplTmpl.kind x19) (ImplTmpl.tag x19) (ImplTmpl.names x19) (ImplTmpl.args x19) (ImplTmpl.key x19) (ImplTmpl.ons x19) (ImplTmpl.kids x19)), (IntKind.i64.wrap (x20 + (1 : Int))), ()))))) (
  some (true, ()))

def spec_validTmpl.J11 (N : Nat) (R_spec_validTmpl : List (ImplComp) → Int → ImplTmpl → Int → Int → Option (Bool × Unit)) (E0 : (List (ImplComp)) × Int × Int × Int × ImplTmpl × Int × Unit → Option (Bool × Unit)) : (List (ImplComp)) × Int × Int × Int × ImplTmpl × Unit → Option (Bool × Unit) :=
fun (x10, x11, x12, x13, x14, ()) =>
 E0 (x10, x11, x12, x13, (ImplTmpl.mk (ImplTmpl.kind x14) (ImplTmpl.tag x14) (ImplTmpl.names x14) (ImplTmpl.args x14) (ImplTmpl.key x14) (ImplTmpl.ons x14) (ImplTmpl.kids x14)), (0 : Int), ())

def spec_validTmpl.B (N : Nat) (R_spec_validTmpl : List (ImplComp) → Int → ImplTmpl → Int → Int → Option (Bool × Unit)) (E0 : (List (ImplComp)) × Int × Int × Int × ImplTmpl × Int × Unit → Option (Bool × Unit)) (x0 : List (ImplComp)) (x1 : Int) (x2 : ImplTmpl) (x3 : Int) (x4 : Int) : Option (Bool × Unit) :=
 bnd (spec_tmpls N (ImplTmpl.kind x2)) fun r5 =>
 br (decide (x3 > (4 : Int))) (
  some (false, ())) (
  bnd (spec_validHead N x0 x1 (ImplTmpl.mk (ImplTmpl.kind x2) (ImplTmpl.tag x2) (ImplTmpl.names x2) (ImplTmpl.args x2) (ImplTmpl.key x2) (ImplTmpl.ons x2) (ImplTmpl.kids x2))) fun r6 =>
 br (!(r6).1) (
  some (false, ())) (
  bnd (spec_inRange N (((List.length (ImplTmpl.kids x2)) : Nat) : Int) (r5).1 ((r5).2).1) fun r7 =>
 br (!(r7).1) (
  some (false, ())) (
  gd (decide ((0 : Int) ≤ x1)) (
 gd (decide (x1 < (((List.length x0) : Nat) : Int))) (
 bnd (spec_validForms N (ImplTmpl.args x2) (ImplComp.props (get x0 x1)) (((List.length (ImplComp.states (get x0 x1))) : Nat) : Int) x4) fun r8 =>
 br (!(r8).1) (
  some (false, ())) (
  br ((ImplTmpl.kind x2) == (3 : Int)) (
  br (decide ((((List.length (ImplTmpl.key x2)) : Nat) : Int) > (0 : Int))) (
   bnd (spec_validForm N (ImplTmpl.key x2) (ImplComp.props (get x0 x1)) (((List.length (ImplComp.states (get x0 x1))) : Nat) : Int) (IntKind.i64.wrap (x4 + (1 : Int)))) fun r9 =>
   br (!(r9).1) (
    some (false, ())) (
    spec_validTmpl.J11 N R_spec_validTmpl E0 (x0, x1, x3, (IntKind.i64.wrap (x4 + (1 : Int))), (ImplTmpl.mk (ImplTmpl.kind x2) (ImplTmpl.tag x2) (ImplTmpl.names x2) (ImplTmpl.args x2) (ImplTmpl.key x2) (ImplTmpl.ons x2) (ImplTmpl.kids x2)), ()))) (
   spec_validTmpl.J11 N R_spec_validTmpl E0 (x0, x1, x3, (IntKind.i64.wrap (x4 + (1 : Int))), (ImplTmpl.mk (ImplTmpl.kind x2) (ImplTmpl.tag x2) (ImplTmpl.names x2) (ImplTmpl.args x2) (ImplTmpl.key x2) (ImplTmpl.ons x2) (ImplTmpl.kids x2)), ()))) (
  spec_validTmpl.J11 N R_spec_validTmpl E0 (x0, x1, x3, x4, (ImplTmpl.mk (ImplTmpl.kind x2) (ImplTmpl.tag x2) (ImplTmpl.names x2) (ImplTmpl.args x2) (ImplTmpl.key x2) (ImplTmpl.ons x2) (ImplTmpl.kids x2)), ()))))))))

def spec_validTmpl.L0 (N : Nat) (R_spec_validTmpl : List (ImplComp) → Int → ImplTmpl → Int → Int → Option (Bool × Unit)) : Nat → (List (ImplComp)) × Int × Int × Int × ImplTmpl × Int × Unit → Option (Bool × Unit)
  | 0, _ => none
  | n + 1, x => spec_validTmpl.B0 N R_spec_validTmpl (spec_validTmpl.L0 N R_spec_validTmpl n) x

def spec_validTmpl.R (N : Nat) : Nat → List (ImplComp) → Int → ImplTmpl → Int → Int → Option (Bool × Unit)
  | 0, _, _, _, _, _ => none
  | d + 1, x0, x1, x2, x3, x4 => spec_validTmpl.B N (spec_validTmpl.R N d) (spec_validTmpl.L0 N (spec_validTmpl.R N d) N) x0 x1 x2 x3 x4

def spec_validTmpl (N : Nat) (x0 : List (ImplComp)) (x1 : Int) (x2 : ImplTmpl) (x3 : Int) (x4 : Int) : Option (Bool × Unit) := spec_validTmpl.R N N x0 x1 x2 x3 x4

def spec_sizeOf.B0 (N : Nat) (R_spec_sizeOf : ImplTmpl → List (Int) → Option (Int × Unit)) (G0 : (List (Int)) × ImplTmpl × Int × Int × Unit → Option (Int × Unit)) : (List (Int)) × ImplTmpl × Int × Int × Unit → Option (Int × Unit) :=
fun (x2, x3, x4, x5, ()) =>
 br (decide (x5 < (((List.length (ImplTmpl.kids x3)) : Nat) : Int))) (
  gd (decide ((0 : Int) ≤ x5)) (
  gd (decide (x5 < (((List.length (ImplTmpl.kids x3)) : Nat) : Int))) (
  bnd (R_spec_sizeOf (ImplTmpl.mk (ImplTmpl.kind (get (ImplTmpl.kids x3) x5)) (ImplTmpl.tag (get (ImplTmpl.kids x3) x5)) (ImplTmpl.names (get (ImplTmpl.kids x3) x5)) (ImplTmpl.args (get (ImplTmpl.kids x3) x5)) (ImplTmpl.key (get (ImplTmpl.kids x3) x5)) (ImplTmpl.ons (get (ImplTmpl.kids x3) x5)) (ImplTmpl.kids (get (ImplTmpl.kids x3) x5))) x2) fun r7 =>
  br ((ImplTmpl.kind x3) == (3 : Int)) (
   G0 (x2, (ImplTmpl.mk (ImplTmpl.kind x3) (ImplTmpl.tag x3) (ImplTmpl.names x3) (ImplTmpl.args x3) (ImplTmpl.key x3) (ImplTmpl.ons x3) (ImplTmpl.kids x3)), (IntKind.i64.wrap (x4 + (IntKind.i64.wrap ((r7).1 * (4 : Int))))), (IntKind.i64.wrap (x5 + (1 : Int))), ())) (
   G0 (x2, (ImplTmpl.mk (ImplTmpl.kind x3) (ImplTmpl.tag x3) (ImplTmpl.names x3) (ImplTmpl.args x3) (ImplTmpl.key x3) (ImplTmpl.ons x3) (ImplTmpl.kids x3)), (IntKind.i64.wrap (x4 + (r7).1)), (IntKind.i64.wrap (x5 + (1 : Int))), ()))))) (
  br ((ImplTmpl.kind x3) == (4 : Int)) (
  bnd (spec_inRange N (ImplTmpl.tag x3) (0 : Int) (IntKind.i64.wrap ((((List.length x2) : Nat) : Int) - (1 : Int)))) fun r8 =>
  br (r8).1 (
   gd (decide ((0 : Int) ≤ (ImplTmpl.tag x3))) (
   gd (decide ((ImplTmpl.tag x3) < (((List.length x2) : Nat) : Int))) (
   some ((cond (decide ((201 : Int) < (IntKind.i64.wrap (x4 + (get x2 (ImplTmpl.tag x3)))))) (201 : Int) (IntKind.i64.wrap (x4 + (get x2 (ImplTmpl.tag x3))))), ())))) (
   some ((cond (decide ((201 : Int) < x4)) (201 : Int) x4), ()))) (
  some ((cond (decide ((201 : Int) < x4)) (201 : Int) x4), ())))

def spec_sizeOf.B (N : Nat) (R_spec_sizeOf : ImplTmpl → List (Int) → Option (Int × Unit)) (E0 : (List (Int)) × ImplTmpl × Int × Int × Unit → Option (Int × Unit)) (x0 : ImplTmpl) (x1 : List (Int)) : Option (Int × Unit) :=
 E0 (x1, (ImplTmpl.mk (ImplTmpl.kind x0) (ImplTmpl.tag x0) (ImplTmpl.names x0) (ImplTmpl.args x0) (ImplTmpl.key x0) (ImplTmpl.ons x0) (ImplTmpl.kids x0)), (1 : Int), (0 : Int), ())

def spec_sizeOf.L0 (N : Nat) (R_spec_sizeOf : ImplTmpl → List (Int) → Option (Int × Unit)) : Nat → (List (Int)) × ImplTmpl × Int × Int × Unit → Option (Int × Unit)
  | 0, _ => none
  | n + 1, x => spec_sizeOf.B0 N R_spec_sizeOf (spec_sizeOf.L0 N R_spec_sizeOf n) x

def spec_sizeOf.R (N : Nat) : Nat → ImplTmpl → List (Int) → Option (Int × Unit)
  | 0, _, _ => none
  | d + 1, x0, x1 => spec_sizeOf.B N (spec_sizeOf.R N d) (spec_sizeOf.L0 N (spec_sizeOf.R N d) N) x0 x1

def spec_sizeOf (N : Nat) (x0 : ImplTmpl) (x1 : List (Int)) : Option (Int × Unit) := spec_sizeOf.R N N x0 x1

def spec_sizes.B0 (N : Nat) (G0 : (List (ImplComp)) × (List (Int)) × Int × Unit → Option ((List (Int)) × Unit)) : (List (ImplComp)) × (List (Int)) × Int × Unit → Option ((List (Int)) × Unit) :=
fun (x1, x2, x3, ()) =>
 br (decide (x3 ≥ (0 : Int))) (
  gd (decide ((0 : Int) ≤ x3)) (
  gd (decide (x3 < (((List.length x1) : Nat) : Int))) (
  bnd (spec_sizeOf N (ImplTmpl.mk (ImplComp.body_Kind (get x1 x3)) (ImplComp.body_Tag (get x1 x3)) (ImplComp.body_Names (get x1 x3)) (ImplComp.body_Args (get x1 x3)) (ImplComp.body_Key (get x1 x3)) (ImplComp.body_Ons (get x1 x3)) (ImplComp.body_Kids (get x1 x3))) x2) fun r5 =>
  gd (decide ((0 : Int) ≤ x3)) (
  gd (decide (x3 < (((List.length x2) : Nat) : Int))) (
  G0 (x1, (List.set x2 (Int.toNat x3) (r5).1), (IntKind.i64.wrap (x3 - (1 : Int))), ())))))) (
  some (x2, ()))

def spec_sizes.B (N : Nat) (E0 : (List (ImplComp)) × (List (Int)) × Int × Unit → Option ((List (Int)) × Unit)) (x0 : List (ImplComp)) : Option ((List (Int)) × Unit) :=
 gd (decide ((((List.length x0) : Nat) : Int) = (((List.length x0) : Nat) : Int))) (
 gd (decide ((0 : Int) ≤ (((List.length x0) : Nat) : Int))) (
 gd (decide ((((List.length x0) : Nat) : Int) < ((68719476736 : Nat) : Int))) (
 E0 (x0, (List.replicate (Int.toNat (((List.length x0) : Nat) : Int)) (0 : Int)), (IntKind.i64.wrap ((((List.length x0) : Nat) : Int) - (1 : Int))), ()))))

def spec_sizes.L0 (N : Nat) : Nat → (List (ImplComp)) × (List (Int)) × Int × Unit → Option ((List (Int)) × Unit)
  | 0, _ => none
  | n + 1, x => spec_sizes.B0 N (spec_sizes.L0 N n) x

def spec_sizes (N : Nat) (x0 : List (ImplComp)) : Option ((List (Int)) × Unit) := spec_sizes.B N (spec_sizes.L0 N N) x0

def spec_validProg.B2 (N : Nat) (G2 : (List (ImplComp)) × Int × Unit → Option (Bool × Unit)) : (List (ImplComp)) × Int × Unit → Option (Bool × Unit) :=
fun (x7, x8, ()) =>
 br (decide (x8 < (((List.length x7) : Nat) : Int))) (
  gd (decide ((0 : Int) ≤ x8)) (
  gd (decide (x8 < (((List.length x7) : Nat) : Int))) (
  bnd (spec_validActs N (get x7 x8)) fun r10 =>
  br (!(r10).1) (
   some (false, ())) (
   gd (decide ((0 : Int) ≤ x8)) (
  gd (decide (x8 < (((List.length x7) : Nat) : Int))) (
  bnd (spec_validTmpl N x7 x8 (ImplTmpl.mk (ImplComp.body_Kind (get x7 x8)) (ImplComp.body_Tag (get x7 x8)) (ImplComp.body_Names (get x7 x8)) (ImplComp.body_Args (get x7 x8)) (ImplComp.body_Key (get x7 x8)) (ImplComp.body_Ons (get x7 x8)) (ImplComp.body_Kids (get x7 x8))) (1 : Int) (0 : Int)) fun r11 =>
  br (!(r11).1) (
   some (false, ())) (
   G2 (x7, (IntKind.i64.wrap (x8 + (1 : Int))), ())))))))) (
  bnd (spec_sizes N x7) fun r12 =>
 gd (decide ((0 : Int) < (((List.length (r12).1) : Nat) : Int))) (
 some ((decide ((get (r12).1 (0 : Int)) < (200 : Int))), ())))

def spec_validProg.B0 (N : Nat) (G0 : (List (ImplComp)) × Int × Unit → Option (Bool × Unit)) (E2 : (List (ImplComp)) × Int × Unit → Option (Bool × Unit)) : (List (ImplComp)) × Int × Unit → Option (Bool × Unit) :=
fun (x2, x3, ()) =>
 br (decide (x3 < (((List.length x2) : Nat) : Int))) (
  gd (decide ((0 : Int) ≤ x3)) (
  gd (decide (x3 < (((List.length x2) : Nat) : Int))) (
  bnd (spec_inRange N (ImplComp.props (get x2 x3)) (0 : Int) (3 : Int)) fun r5 =>
  br (!(r5).1) (
   some (false, ())) (
   br (decide ((((List.length (ImplComp.states (get x2 x3))) : Nat) : Int) > (3 : Int))) (
   some (false, ())) (
   bnd (spec_validValues N (ImplComp.states (get x2 x3))) fun r6 =>
  br (!(r6).1) (
   some (false, ())) (
   G0 (x2, (IntKind.i64.wrap (x3 + (1 : Int))), ()))))))) (
  E2 (x2, (0 : Int), ()))

def spec_validProg.B (N : Nat) (E0 : (List (ImplComp)) × Int × Unit → Option (Bool × Unit)) (x0 : List (ImplComp)) : Option (Bool × Unit) :=
 bnd (spec_inRange N (((List.length x0) : Nat) : Int) (1 : Int) (4 : Int)) fun r1 =>
 br (!(r1).1) (
  some (false, ())) (
  gd (decide ((0 : Int) < (((List.length x0) : Nat) : Int))) (
 br ((ImplComp.props (get x0 (0 : Int))) != (0 : Int)) (
  some (false, ())) (
  E0 (x0, (0 : Int), ()))))

def spec_validProg.L2 (N : Nat) : Nat → (List (ImplComp)) × Int × Unit → Option (Bool × Unit)
  | 0, _ => none
  | n + 1, x => spec_validProg.B2 N (spec_validProg.L2 N n) x

def spec_validProg.L0 (N : Nat) : Nat → (List (ImplComp)) × Int × Unit → Option (Bool × Unit)
  | 0, _ => none
  | n + 1, x => spec_validProg.B0 N (spec_validProg.L0 N n) (spec_validProg.L2 N N) x

def spec_validProg (N : Nat) (x0 : List (ImplComp)) : Option (Bool × Unit) := spec_validProg.B N (spec_validProg.L0 N N) x0

def spec_ProgOk.B (N : Nat) (x0 : List (ImplComp)) : Option (Bool × Unit) :=
 bnd (spec_validProg N x0) fun r1 =>
 some ((r1).1, ())

def spec_ProgOk (N : Nat) (x0 : List (ImplComp)) : Option (Bool × Unit) := spec_ProgOk.B N x0

def impl_within.B (N : Nat) (x0 : Int) (x1 : Int) (x2 : Int) : Option (Bool × Unit) :=
 br (decide (x0 ≥ x1)) (
  some ((decide (x0 ≤ x2)), ())) (
  some (false, ()))

def impl_within (N : Nat) (x0 : Int) (x1 : Int) (x2 : Int) : Option (Bool × Unit) := impl_within.B N x0 x1 x2

def impl_word.B0 (N : Nat) (G0 : (List UInt8) × Int × Unit → Option (Bool × Unit)) : (List UInt8) × Int × Unit → Option (Bool × Unit) :=
fun (x1, x2, ()) =>
 br (decide (x2 < (((List.length x1) : Nat) : Int))) (
  gd (decide ((0 : Int) ≤ x2)) (
  gd (decide (x2 < (((List.length x1) : Nat) : Int))) (
  br (decide ((((UInt8.toNat (List.getD x1 (Int.toNat x2) 0)) : Nat) : Int) ≥ (97 : Int))) (
   br (decide ((((UInt8.toNat (List.getD x1 (Int.toNat x2) 0)) : Nat) : Int) ≤ (122 : Int))) (
    G0 (x1, (IntKind.i64.wrap (x2 + (1 : Int))), ())) (
    br (decide ((((UInt8.toNat (List.getD x1 (Int.toNat x2) 0)) : Nat) : Int) ≥ (48 : Int))) (
    br (decide ((((UInt8.toNat (List.getD x1 (Int.toNat x2) 0)) : Nat) : Int) ≤ (57 : Int))) (
     G0 (x1, (IntKind.i64.wrap (x2 + (1 : Int))), ())) (
     br (!((((UInt8.toNat (List.getD x1 (Int.toNat x2) 0)) : Nat) : Int) == (32 : Int))) (
     some (false, ())) (
     G0 (x1, (IntKind.i64.wrap (x2 + (1 : Int))), ())))) (
    br (!((((UInt8.toNat (List.getD x1 (Int.toNat x2) 0)) : Nat) : Int) == (32 : Int))) (
    some (false, ())) (
    G0 (x1, (IntKind.i64.wrap (x2 + (1 : Int))), ()))))) (
   br (decide ((((UInt8.toNat (List.getD x1 (Int.toNat x2) 0)) : Nat) : Int) ≥ (48 : Int))) (
   br (decide ((((UInt8.toNat (List.getD x1 (Int.toNat x2) 0)) : Nat) : Int) ≤ (57 : Int))) (
    G0 (x1, (IntKind.i64.wrap (x2 + (1 : Int))), ())) (
    br (!((((UInt8.toNat (List.getD x1 (Int.toNat x2) 0)) : Nat) : Int) == (32 : Int))) (
    some (false, ())) (
    G0 (x1, (IntKind.i64.wrap (x2 + (1 : Int))), ())))) (
   br (!((((UInt8.toNat (List.getD x1 (Int.toNat x2) 0)) : Nat) : Int) == (32 : Int))) (
   some (false, ())) (
   G0 (x1, (IntKind.i64.wrap (x2 + (1 : Int))), ()))))))) (
  some ((decide ((((List.length x1) : Nat) : Int) ≤ (12 : Int))), ()))

def impl_word.B (N : Nat) (E0 : (List UInt8) × Int × Unit → Option (Bool × Unit)) (x0 : List UInt8) : Option (Bool × Unit) :=
 E0 (x0, (0 : Int), ())

def impl_word.L0 (N : Nat) : Nat → (List UInt8) × Int × Unit → Option (Bool × Unit)
  | 0, _ => none
  | n + 1, x => impl_word.B0 N (impl_word.L0 N n) x

def impl_word (N : Nat) (x0 : List UInt8) : Option (Bool × Unit) := impl_word.B N (impl_word.L0 N N) x0

def impl_ValOk.B (N : Nat) (x0 : ImplValue) : Option (Bool × Unit) :=
 br ((ImplValue.kind x0) == (0 : Int)) (
  br ((ImplValue.num x0) == (0 : Int)) (
   some (((ImplValue.text x0) == ([] : List (UInt8))), ())) (
   some (false, ()))) (
  br ((ImplValue.kind x0) == (1 : Int)) (
  bnd (impl_within N (ImplValue.num x0) (-(1000 : Int)) (1000 : Int)) fun r1 =>
  br (r1).1 (
   some (((ImplValue.text x0) == ([] : List (UInt8))), ())) (
   some (false, ()))) (
  br ((ImplValue.kind x0) == (2 : Int)) (
  br ((ImplValue.num x0) == (0 : Int)) (
   bnd (impl_word N (ImplValue.text x0)) fun r2 =>
   some ((r2).1, ())) (
   some (false, ()))) (
  some (false, ()))))

def impl_ValOk (N : Nat) (x0 : ImplValue) : Option (Bool × Unit) := impl_ValOk.B N x0

def impl_valsOk.B0 (N : Nat) (G0 : (List (ImplValue)) × Int × Int × Unit → Option (Bool × Unit)) : (List (ImplValue)) × Int × Int × Unit → Option (Bool × Unit) :=
fun (x1, x2, x3, ()) =>
 br (decide (x3 < x2)) (
  gd (decide ((0 : Int) ≤ x3)) (
  gd (decide (x3 < (((List.length x1) : Nat) : Int))) (
  bnd (impl_ValOk N (get x1 x3)) fun r5 =>
  br (!(r5).1) (
   some (false, ())) (
   G0 (x1, x2, (IntKind.i64.wrap (x3 + (1 : Int))), ()))))) (
  some (true, ()))

def impl_valsOk.B (N : Nat) (E0 : (List (ImplValue)) × Int × Int × Unit → Option (Bool × Unit)) (x0 : List (ImplValue)) : Option (Bool × Unit) :=
 E0 (x0, (((List.length x0) : Nat) : Int), (0 : Int), ())

def impl_valsOk.L0 (N : Nat) : Nat → (List (ImplValue)) × Int × Int × Unit → Option (Bool × Unit)
  | 0, _ => none
  | n + 1, x => impl_valsOk.B0 N (impl_valsOk.L0 N n) x

def impl_valsOk (N : Nat) (x0 : List (ImplValue)) : Option (Bool × Unit) := impl_valsOk.B N (impl_valsOk.L0 N N) x0

def impl_formFits.J27 (N : Nat) (G0 : (List (ImplStep)) × Int × Int × Int × Int × (List (ImplStep)) × Int × Int × Unit → Option (Bool × Unit)) : (List (ImplStep)) × Int × Int × Int × Int × Int × Bool × (List (ImplStep)) × Int × Int × Unit → Option (Bool × Unit) :=
fun (x14, x15, x16, x17, x18, x19, x20, x21, x22, x23, ()) =>
 br (!x20) (
  some (false, ())) (
  br (decide (x18 < x19)) (
  some (false, ())) (
  G0 (x14, x15, x16, x17, (IntKind.i64.wrap (x18 + (IntKind.i64.wrap ((1 : Int) - x19)))), x21, x22, (IntKind.i64.wrap (x23 + (1 : Int))), ())))

def impl_formFits.B0 (N : Nat) (G0 : (List (ImplStep)) × Int × Int × Int × Int × (List (ImplStep)) × Int × Int × Unit → Option (Bool × Unit)) : (List (ImplStep)) × Int × Int × Int × Int × (List (ImplStep)) × Int × Int × Unit → Option (Bool × Unit) :=
fun (x4, x5, x6, x7, x8, x9, x10, x11, ()) =>
 br (decide (x11 < x10)) (
  gd (decide ((0 : Int) ≤ x11)) (
  gd (decide (x11 < (((List.length x9) : Nat) : Int))) (
  br ((ImplStep.kind (get x9 x11)) != (0 : Int)) (
   br (!(((ImplStep.val_Kind (get x9 x11)) == (0 : Int)) && (((ImplStep.val_Num (get x9 x11)) == (0 : Int)) && ((ImplStep.val_Text (get x9 x11)) == ([] : List (UInt8)))))) (
    some (false, ())) (
    br ((ImplStep.kind (get x9 x11)) == (0 : Int)) (
    br ((ImplStep.a (get x9 x11)) == (0 : Int)) (
     bnd (impl_ValOk N (ImplValue.mk (ImplStep.val_Kind (get x9 x11)) (ImplStep.val_Num (get x9 x11)) (ImplStep.val_Text (get x9 x11)))) fun r13 =>
     impl_formFits.J27 N G0 (x4, x5, x6, x7, x8, (0 : Int), (r13).1, x9, x10, x11, ())) (
     impl_formFits.J27 N G0 (x4, x5, x6, x7, x8, (0 : Int), false, x9, x10, x11, ()))) (
    br ((ImplStep.kind (get x9 x11)) == (1 : Int)) (
    bnd (impl_within N (ImplStep.a (get x9 x11)) (0 : Int) (IntKind.i64.wrap (x5 - (1 : Int)))) fun r24 =>
    impl_formFits.J27 N G0 (x4, x5, x6, x7, x8, (0 : Int), (r24).1, x9, x10, x11, ())) (
    br ((ImplStep.kind (get x9 x11)) == (2 : Int)) (
    bnd (impl_within N (ImplStep.a (get x9 x11)) (0 : Int) (IntKind.i64.wrap (x6 - (1 : Int)))) fun r25 =>
    impl_formFits.J27 N G0 (x4, x5, x6, x7, x8, (0 : Int), (r25).1, x9, x10, x11, ())) (
    br ((ImplStep.kind (get x9 x11)) == (3 : Int)) (
    bnd (impl_within N (ImplStep.a (get x9 x11)) (0 : Int) (IntKind.i64.wrap (x7 - (1 : Int)))) fun r26 =>
    impl_formFits.J27 N G0 (x4, x5, x6, x7, x8, (0 : Int), (r26).1, x9, x10, x11, ())) (
    br ((ImplStep.kind (get x9 x11)) == (4 : Int)) (
    bnd (impl_within N (ImplStep.a (get x9 x11)) (0 : Int) (1 : Int)) fun r27 =>
    impl_formFits.J27 N G0 (x4, x5, x6, x7, x8, (0 : Int), (r27).1, x9, x10, x11, ())) (
    br ((ImplStep.kind (get x9 x11)) == (5 : Int)) (
    bnd (impl_within N (ImplStep.a (get x9 x11)) (0 : Int) (6 : Int)) fun r28 =>
    impl_formFits.J27 N G0 (x4, x5, x6, x7, x8, (2 : Int), (r28).1, x9, x10, x11, ())) (
    br ((ImplStep.kind (get x9 x11)) == (6 : Int)) (
    impl_formFits.J27 N G0 (x4, x5, x6, x7, x8, (3 : Int), ((ImplStep.a (get x9 x11)) == (0 : Int)), x9, x10, x11, ())) (
    impl_formFits.J27 N G0 (x4, x5, x6, x7, x8, (0 : Int), false, x9, x10, x11, ())))))))))) (
   br ((ImplStep.kind (get x9 x11)) == (0 : Int)) (
   br ((ImplStep.a (get x9 x11)) == (0 : Int)) (
    bnd (impl_ValOk N (ImplValue.mk (ImplStep.val_Kind (get x9 x11)) (ImplStep.val_Num (get x9 x11)) (ImplStep.val_Text (get x9 x11)))) fun r29 =>
    impl_formFits.J27 N G0 (x4, x5, x6, x7, x8, (0 : Int), (r29).1, x9, x10, x11, ())) (
    impl_formFits.J27 N G0 (x4, x5, x6, x7, x8, (0 : Int), false, x9, x10, x11, ()))) (
   br ((ImplStep.kind (get x9 x11)) == (1 : Int)) (
   bnd (impl_within N (ImplStep.a (get x9 x11)) (0 : Int) (IntKind.i64.wrap (x5 - (1 : Int)))) fun r30 =>
   impl_formFits.J27 N G0 (x4, x5, x6, x7, x8, (0 : Int), (r30).1, x9, x10, x11, ())) (
   br ((ImplStep.kind (get x9 x11)) == (2 : Int)) (
   bnd (impl_within N (ImplStep.a (get x9 x11)) (0 : Int) (IntKind.i64.wrap (x6 - (1 : Int)))) fun r31 =>
   impl_formFits.J27 N G0 (x4, x5, x6, x7, x8, (0 : Int), (r31).1, x9, x10, x11, ())) (
   br ((ImplStep.kind (get x9 x11)) == (3 : Int)) (
   bnd (impl_within N (ImplStep.a (get x9 x11)) (0 : Int) (IntKind.i64.wrap (x7 - (1 : Int)))) fun r32 =>
   impl_formFits.J27 N G0 (x4, x5, x6, x7, x8, (0 : Int), (r32).1, x9, x10, x11, ())) (
   br ((ImplStep.kind (get x9 x11)) == (4 : Int)) (
   bnd (impl_within N (ImplStep.a (get x9 x11)) (0 : Int) (1 : Int)) fun r33 =>
   impl_formFits.J27 N G0 (x4, x5, x6, x7, x8, (0 : Int), (r33).1, x9, x10, x11, ())) (
   br ((ImplStep.kind (get x9 x11)) == (5 : Int)) (
   bnd (impl_within N (ImplStep.a (get x9 x11)) (0 : Int) (6 : Int)) fun r34 =>
   impl_formFits.J27 N G0 (x4, x5, x6, x7, x8, (2 : Int), (r34).1, x9, x10, x11, ())) (
   br ((ImplStep.kind (get x9 x11)) == (6 : Int)) (
   impl_formFits.J27 N G0 (x4, x5, x6, x7, x8, (3 : Int), ((ImplStep.a (get x9 x11)) == (0 : Int)), x9, x10, x11, ())) (
   impl_formFits.J27 N G0 (x4, x5, x6, x7, x8, (0 : Int), false, x9, x10, x11, ())))))))))))) (
  br (x8 == (1 : Int)) (
  some ((decide ((((List.length x4) : Nat) : Int) ≤ (9 : Int))), ())) (
  some (false, ())))

def impl_formFits.B (N : Nat) (E0 : (List (ImplStep)) × Int × Int × Int × Int × (List (ImplStep)) × Int × Int × Unit → Option (Bool × Unit)) (x0 : List (ImplStep)) (x1 : Int) (x2 : Int) (x3 : Int) : Option (Bool × Unit) :=
 E0 (x0, x1, x2, x3, (0 : Int), x0, (((List.length x0) : Nat) : Int), (0 : Int), ())

def impl_formFits.L0 (N : Nat) : Nat → (List (ImplStep)) × Int × Int × Int × Int × (List (ImplStep)) × Int × Int × Unit → Option (Bool × Unit)
  | 0, _ => none
  | n + 1, x => impl_formFits.B0 N (impl_formFits.L0 N n) x

def impl_formFits (N : Nat) (x0 : List (ImplStep)) (x1 : Int) (x2 : Int) (x3 : Int) : Option (Bool × Unit) := impl_formFits.B N (impl_formFits.L0 N N) x0 x1 x2 x3

def impl_FormOk.B (N : Nat) (x0 : List (ImplStep)) (x1 : Int) (x2 : Int) (x3 : Int) : Option (Bool × Unit) :=
 bnd (impl_within N x1 (0 : Int) (3 : Int)) fun r4 =>
 br (r4).1 (
  bnd (impl_within N x2 (0 : Int) (3 : Int)) fun r5 =>
  br (r5).1 (
   bnd (impl_within N x3 (0 : Int) (4 : Int)) fun r6 =>
   br (r6).1 (
    bnd (impl_formFits N x0 x1 x2 x3) fun r7 =>
    some ((r7).1, ())) (
    some (false, ()))) (
   some (false, ()))) (
  some (false, ()))

def impl_FormOk (N : Nat) (x0 : List (ImplStep)) (x1 : Int) (x2 : Int) (x3 : Int) : Option (Bool × Unit) := impl_FormOk.B N x0 x1 x2 x3

def impl_compOk.B2 (N : Nat) (G0 : ImplComp × (List (List (ImplSet))) × Int × Int × Unit → Option (Bool × Unit)) (G2 : ImplComp × (List (List (ImplSet))) × Int × Int × (List (ImplSet)) × Int × Int × Unit → Option (Bool × Unit)) : ImplComp × (List (List (ImplSet))) × Int × Int × (List (ImplSet)) × Int × Int × Unit → Option (Bool × Unit) :=
fun (x9, x10, x11, x12, x13, x14, x15, ()) =>
 br (decide (x15 < x14)) (
  gd (decide ((0 : Int) ≤ x15)) (
  gd (decide (x15 < (((List.length x13) : Nat) : Int))) (
  bnd (impl_within N (ImplSet.state (get x13 x15)) (0 : Int) (IntKind.i64.wrap ((((List.length (ImplComp.states x9)) : Nat) : Int) - (1 : Int)))) fun r17 =>
  br (!(r17).1) (
   some (false, ())) (
   bnd (impl_FormOk N (ImplSet.form (get x13 x15)) (0 : Int) (((List.length (ImplComp.states x9)) : Nat) : Int) (0 : Int)) fun r18 =>
  br (!(r18).1) (
   some (false, ())) (
   G2 (x9, x10, x11, x12, x13, x14, (IntKind.i64.wrap (x15 + (1 : Int))), ())))))) (
  G0 (x9, x10, x11, (IntKind.i64.wrap (x12 + (1 : Int))), ()))

def impl_compOk.B0 (N : Nat) (E2 : ImplComp × (List (List (ImplSet))) × Int × Int × (List (ImplSet)) × Int × Int × Unit → Option (Bool × Unit)) : ImplComp × (List (List (ImplSet))) × Int × Int × Unit → Option (Bool × Unit) :=
fun (x4, x5, x6, x7, ()) =>
 br (decide (x7 < x6)) (
  gd (decide ((0 : Int) ≤ x7)) (
  gd (decide (x7 < (((List.length x5) : Nat) : Int))) (
  br (decide ((((List.length (get x5 x7)) : Nat) : Int) > (3 : Int))) (
   some (false, ())) (
   E2 (x4, x5, x6, x7, (get x5 x7), (((List.length (get x5 x7)) : Nat) : Int), (0 : Int), ()))))) (
  some (true, ()))

def impl_compOk.B (N : Nat) (E0 : ImplComp × (List (List (ImplSet))) × Int × Int × Unit → Option (Bool × Unit)) (x0 : List (ImplComp)) (x1 : Int) : Option (Bool × Unit) :=
 gd (decide ((0 : Int) ≤ x1)) (
 gd (decide (x1 < (((List.length x0) : Nat) : Int))) (
 bnd (impl_within N (ImplComp.props (get x0 x1)) (0 : Int) (3 : Int)) fun r2 =>
 br (!(r2).1) (
  some (false, ())) (
  br (decide ((((List.length (ImplComp.states (get x0 x1))) : Nat) : Int) > (3 : Int))) (
  some (false, ())) (
  bnd (impl_valsOk N (ImplComp.states (get x0 x1))) fun r3 =>
 br (!(r3).1) (
  some (false, ())) (
  br (decide ((((List.length (ImplComp.acts (get x0 x1))) : Nat) : Int) > (3 : Int))) (
  some (false, ())) (
  E0 ((get x0 x1), (ImplComp.acts (get x0 x1)), (((List.length (ImplComp.acts (get x0 x1))) : Nat) : Int), (0 : Int), ())))))))

def impl_compOk.L2 (N : Nat) (G0 : ImplComp × (List (List (ImplSet))) × Int × Int × Unit → Option (Bool × Unit)) : Nat → ImplComp × (List (List (ImplSet))) × Int × Int × (List (ImplSet)) × Int × Int × Unit → Option (Bool × Unit)
  | 0, _ => none
  | n + 1, x => impl_compOk.B2 N G0 (impl_compOk.L2 N G0 n) x

def impl_compOk.L0 (N : Nat) : Nat → ImplComp × (List (List (ImplSet))) × Int × Int × Unit → Option (Bool × Unit)
  | 0, _ => none
  | n + 1, x => impl_compOk.B0 N (impl_compOk.L2 N (impl_compOk.L0 N n) N) x

def impl_compOk (N : Nat) (x0 : List (ImplComp)) (x1 : Int) : Option (Bool × Unit) := impl_compOk.B N (impl_compOk.L0 N N) x0 x1

def impl_formsOk.B0 (N : Nat) (G0 : Int × ImplComp × (List (List (ImplStep))) × Int × Int × Unit → Option (Bool × Unit)) : Int × ImplComp × (List (List (ImplStep))) × Int × Int × Unit → Option (Bool × Unit) :=
fun (x3, x4, x5, x6, x7, ()) =>
 br (decide (x7 < x6)) (
  gd (decide ((0 : Int) ≤ x7)) (
  gd (decide (x7 < (((List.length x5) : Nat) : Int))) (
  bnd (impl_FormOk N (get x5 x7) (ImplComp.props x4) (((List.length (ImplComp.states x4)) : Nat) : Int) x3) fun r9 =>
  br (!(r9).1) (
   some (false, ())) (
   G0 (x3, x4, x5, x6, (IntKind.i64.wrap (x7 + (1 : Int))), ()))))) (
  some (true, ()))

def impl_formsOk.B (N : Nat) (E0 : Int × ImplComp × (List (List (ImplStep))) × Int × Int × Unit → Option (Bool × Unit)) (x0 : ImplComp) (x1 : List (List (ImplStep))) (x2 : Int) : Option (Bool × Unit) :=
 E0 (x2, x0, x1, (((List.length x1) : Nat) : Int), (0 : Int), ())

def impl_formsOk.L0 (N : Nat) : Nat → Int × ImplComp × (List (List (ImplStep))) × Int × Int × Unit → Option (Bool × Unit)
  | 0, _ => none
  | n + 1, x => impl_formsOk.B0 N (impl_formsOk.L0 N n) x

def impl_formsOk (N : Nat) (x0 : ImplComp) (x1 : List (List (ImplStep))) (x2 : Int) : Option (Bool × Unit) := impl_formsOk.B N (impl_formsOk.L0 N N) x0 x1 x2

def impl_tmplOk.B5 (N : Nat) (R_impl_tmplOk : List (ImplComp) → Int → ImplTmpl → Int → Int → Option (Bool × Unit)) (G5 : (List (ImplComp)) × Int × Int × Int × (List (ImplTmpl)) × Int × Int × Unit → Option (Bool × Unit)) : (List (ImplComp)) × Int × Int × Int × (List (ImplTmpl)) × Int × Int × Unit → Option (Bool × Unit) :=
fun (x21, x22, x23, x24, x25, x26, x27, ()) =>
 br (decide (x27 < x26)) (
  gd (decide ((0 : Int) ≤ x27)) (
  gd (decide (x27 < (((List.length x25) : Nat) : Int))) (
  bnd (R_impl_tmplOk x21 x22 (ImplTmpl.mk (ImplTmpl.kind (get x25 x27)) (ImplTmpl.tag (get x25 x27)) (ImplTmpl.names (get x25 x27)) (ImplTmpl.args (get x25 x27)) (ImplTmpl.key (get x25 x27)) (ImplTmpl.ons (get x25 x27)) (ImplTmpl.kids (get x25 x27))) (IntKind.i64.wrap (x23 + (1 : Int))) x24) fun r29 =>
  br (!(r29).1) (
   some (false, ())) (
   G5 (x21, x22, x23, x24, x25, x26, (IntKind.i64.wrap (x27 + (1 : Int))), ()))))) (
  some (true, ()))

def impl_tmplOk.J46 (N : Nat) (R_impl_tmplOk : List (ImplComp) → Int → ImplTmpl → Int → Int → Option (Bool × Unit)) (E5 : (List (ImplComp)) × Int × Int × Int × (List (ImplTmpl)) × Int × Int × Unit → Option (Bool × Unit)) : (List (ImplComp)) × Int × Int × Int × ImplTmpl × Unit → Option (Bool × Unit) :=
fun (x16, x17, x18, x19, x20, ()) =>
 E5 (x16, x17, x18, x19, (ImplTmpl.kids x20), (((List.length (ImplTmpl.kids x20)) : Nat) : Int), (0 : Int), ())

def impl_tmplOk.J42 (N : Nat) (R_impl_tmplOk : List (ImplComp) → Int → ImplTmpl → Int → Int → Option (Bool × Unit)) (E5 : (List (ImplComp)) × Int × Int × Int × (List (ImplTmpl)) × Int × Int × Unit → Option (Bool × Unit)) : (List (ImplComp)) × Int × Int × Int × ImplTmpl × ImplComp × Int × Int × Int × Unit → Option (Bool × Unit) :=
fun (x5, x6, x7, x8, x9, x10, x11, x12, x13, ()) =>
 br ((((List.length (ImplTmpl.args x9)) : Nat) : Int) != x11) (
  some (false, ())) (
  bnd (impl_within N (((List.length (ImplTmpl.kids x9)) : Nat) : Int) x12 x13) fun r14 =>
 br (!(r14).1) (
  some (false, ())) (
  bnd (impl_formsOk N x10 (ImplTmpl.args x9) x8) fun r15 =>
 br (!(r15).1) (
  some (false, ())) (
  br ((ImplTmpl.kind x9) == (3 : Int)) (
  impl_tmplOk.J46 N R_impl_tmplOk E5 (x5, x6, x7, (IntKind.i64.wrap (x8 + (1 : Int))), (ImplTmpl.mk (ImplTmpl.kind x9) (ImplTmpl.tag x9) (ImplTmpl.names x9) (ImplTmpl.args x9) (ImplTmpl.key x9) (ImplTmpl.ons x9) (ImplTmpl.kids x9)), ())) (
  impl_tmplOk.J46 N R_impl_tmplOk E5 (x5, x6, x7, x8, (ImplTmpl.mk (ImplTmpl.kind x9) (ImplTmpl.tag x9) (ImplTmpl.names x9) (ImplTmpl.args x9) (ImplTmpl.key x9) (ImplTmpl.ons x9) (ImplTmpl.kids x9)), ())))))

def impl_tmplOk.B3 (N : Nat) (R_impl_tmplOk : List (ImplComp) → Int → ImplTmpl → Int → Int → Option (Bool × Unit)) (G3 : (List (ImplComp)) × Int × Int × Int × ImplTmpl × ImplComp × Int × Int × Int × (List (ImplOn)) × Int × Int × Unit → Option (Bool × Unit)) (E5 : (List (ImplComp)) × Int × Int × Int × (List (ImplTmpl)) × Int × Int × Unit → Option (Bool × Unit)) : (List (ImplComp)) × Int × Int × Int × ImplTmpl × ImplComp × Int × Int × Int × (List (ImplOn)) × Int × Int × Unit → Option (Bool × Unit) :=
fun (x45, x46, x47, x48, x49, x50, x51, x52, x53, x54, x55, x56, ()) =>
 br (decide (x56 < x55)) (
  gd (decide ((0 : Int) ≤ x56)) (
  gd (decide (x56 < (((List.length x54) : Nat) : Int))) (
  bnd (impl_within N (ImplOn.event (get x54 x56)) (0 : Int) (2 : Int)) fun r58 =>
  br (!(r58).1) (
   some (false, ())) (
   br (decide (x56 > (0 : Int))) (
   gd (decide ((0 : Int) ≤ (IntKind.i64.wrap (x56 - (1 : Int))))) (
   gd (decide ((IntKind.i64.wrap (x56 - (1 : Int))) < (((List.length (ImplTmpl.ons x49)) : Nat) : Int))) (
   br (decide ((ImplOn.event (get x54 x56)) ≤ (ImplOn.event (get (ImplTmpl.ons x49) (IntKind.i64.wrap (x56 - (1 : Int))))))) (
    some (false, ())) (
    bnd (impl_within N (ImplOn.act (get x54 x56)) (0 : Int) (IntKind.i64.wrap ((((List.length (ImplComp.acts x50)) : Nat) : Int) - (1 : Int)))) fun r59 =>
   br (!(r59).1) (
    some (false, ())) (
    G3 (x45, x46, x47, x48, (ImplTmpl.mk (ImplTmpl.kind x49) (ImplTmpl.tag x49) (ImplTmpl.names x49) (ImplTmpl.args x49) (ImplTmpl.key x49) (ImplTmpl.ons x49) (ImplTmpl.kids x49)), x50, x51, x52, x53, x54, x55, (IntKind.i64.wrap (x56 + (1 : Int))), ())))))) (
   bnd (impl_within N (ImplOn.act (get x54 x56)) (0 : Int) (IntKind.i64.wrap ((((List.length (ImplComp.acts x50)) : Nat) : Int) - (1 : Int)))) fun r60 =>
  br (!(r60).1) (
   some (false, ())) (
   G3 (x45, x46, x47, x48, (ImplTmpl.mk (ImplTmpl.kind x49) (ImplTmpl.tag x49) (ImplTmpl.names x49) (ImplTmpl.args x49) (ImplTmpl.key x49) (ImplTmpl.ons x49) (ImplTmpl.kids x49)), x50, x51, x52, x53, x54, x55, (IntKind.i64.wrap (x56 + (1 : Int))), ()))))))) (
  impl_tmplOk.J42 N R_impl_tmplOk E5 (x45, x46, x47, x48, (ImplTmpl.mk (ImplTmpl.kind x49) (ImplTmpl.tag x49) (ImplTmpl.names x49) (ImplTmpl.args x49) (ImplTmpl.key x49) (ImplTmpl.ons x49) (ImplTmpl.kids x49)), x50, x51, x52, x53, ()))

def impl_tmplOk.B1 (N : Nat) (R_impl_tmplOk : List (ImplComp) → Int → ImplTmpl → Int → Int → Option (Bool × Unit)) (G1 : (List (ImplComp)) × Int × Int × Int × ImplTmpl × ImplComp × Int × Int × Int × (List (Int)) × Int × Int × Unit → Option (Bool × Unit)) (E3 : (List (ImplComp)) × Int × Int × Int × ImplTmpl × ImplComp × Int × Int × Int × (List (ImplOn)) × Int × Int × Unit → Option (Bool × Unit)) : (List (ImplComp)) × Int × Int × Int × ImplTmpl × ImplComp × Int × Int × Int × (List (Int)) × Int × Int × Unit → Option (Bool × Unit) :=
fun (x31, x32, x33, x34, x35, x36, x37, x38, x39, x40, x41, x42, ()) =>
 br (decide (x42 < x41)) (
  gd (decide ((0 : Int) ≤ x42)) (
  gd (decide (x42 < (((List.length x40) : Nat) : Int))) (
  bnd (impl_within N (get x40 x42) (0 : Int) (3 : Int)) fun r44 =>
  br (!(r44).1) (
   some (false, ())) (
   br (decide (x42 > (0 : Int))) (
   gd (decide ((0 : Int) ≤ (IntKind.i64.wrap (x42 - (1 : Int))))) (
   gd (decide ((IntKind.i64.wrap (x42 - (1 : Int))) < (((List.length (ImplTmpl.names x35)) : Nat) : Int))) (
   br (decide ((get x40 x42) ≤ (get (ImplTmpl.names x35) (IntKind.i64.wrap (x42 - (1 : Int)))))) (
    some (false, ())) (
    G1 (x31, x32, x33, x34, (ImplTmpl.mk (ImplTmpl.kind x35) (ImplTmpl.tag x35) (ImplTmpl.names x35) (ImplTmpl.args x35) (ImplTmpl.key x35) (ImplTmpl.ons x35) (ImplTmpl.kids x35)), x36, x37, x38, x39, x40, x41, (IntKind.i64.wrap (x42 + (1 : Int))), ()))))) (
   G1 (x31, x32, x33, x34, (ImplTmpl.mk (ImplTmpl.kind x35) (ImplTmpl.tag x35) (ImplTmpl.names x35) (ImplTmpl.args x35) (ImplTmpl.key x35) (ImplTmpl.ons x35) (ImplTmpl.kids x35)), x36, x37, x38, x39, x40, x41, (IntKind.i64.wrap (x42 + (1 : Int))), ())))))) (
  E3 (x31, x32, x33, x34, (ImplTmpl.mk (ImplTmpl.kind x35) (ImplTmpl.tag x35) (ImplTmpl.names x35) (ImplTmpl.args x35) (ImplTmpl.key x35) (ImplTmpl.ons x35) (ImplTmpl.kids x35)), x36, x37, x38, x39, (ImplTmpl.ons x35), (((List.length (ImplTmpl.ons x35)) : Nat) : Int), (0 : Int), ()))

def impl_tmplOk.B (N : Nat) (R_impl_tmplOk : List (ImplComp) → Int → ImplTmpl → Int → Int → Option (Bool × Unit)) (E1 : (List (ImplComp)) × Int × Int × Int × ImplTmpl × ImplComp × Int × Int × Int × (List (Int)) × Int × Int × Unit → Option (Bool × Unit)) (E5 : (List (ImplComp)) × Int × Int × Int × (List (ImplTmpl)) × Int × Int × Unit → Option (Bool × Unit)) (x0 : List (ImplComp)) (x1 : Int) (x2 : ImplTmpl) (x3 : Int) (x4 : Int) : Option (Bool × Unit) :=
 gd (decide ((0 : Int) ≤ x1)) (
 gd (decide (x1 < (((List.length x0) : Nat) : Int))) (
 br (decide (x3 > (4 : Int))) (
  some (false, ())) (
  br ((ImplTmpl.kind x2) != (1 : Int)) (
  br (decide ((((List.length (ImplTmpl.names x2)) : Nat) : Int) > (0 : Int))) (
   some (false, ())) (
   br (decide ((((List.length (ImplTmpl.ons x2)) : Nat) : Int) > (0 : Int))) (
   some (false, ())) (
   br ((ImplTmpl.kind x2) != (3 : Int)) (
   br (decide ((((List.length (ImplTmpl.key x2)) : Nat) : Int) > (0 : Int))) (
    some (false, ())) (
    br ((ImplTmpl.kind x2) == (0 : Int)) (
    br ((ImplTmpl.tag x2) != (0 : Int)) (
     some (false, ())) (
     br ((ImplTmpl.kind x2) == (0 : Int)) (
     impl_tmplOk.J42 N R_impl_tmplOk E5 (x0, x1, x3, x4, (ImplTmpl.mk (ImplTmpl.kind x2) (ImplTmpl.tag x2) (ImplTmpl.names x2) (ImplTmpl.args x2) (ImplTmpl.key x2) (ImplTmpl.ons x2) (ImplTmpl.kids x2)), (get x0 x1), (1 : Int), (0 : Int), (0 : Int), ())) (
     br ((ImplTmpl.kind x2) == (1 : Int)) (
     bnd (impl_within N (ImplTmpl.tag x2) (0 : Int) (4 : Int)) fun r30 =>
     br (!(r30).1) (
      some (false, ())) (
      E1 (x0, x1, x3, x4, (ImplTmpl.mk (ImplTmpl.kind x2) (ImplTmpl.tag x2) (ImplTmpl.names x2) (ImplTmpl.args x2) (ImplTmpl.key x2) (ImplTmpl.ons x2) (ImplTmpl.kids x2)), (get x0 x1), (((List.length (ImplTmpl.names x2)) : Nat) : Int), (0 : Int), (4 : Int), (ImplTmpl.names x2), (((List.length (ImplTmpl.names x2)) : Nat) : Int), (0 : Int), ()))) (
     br ((ImplTmpl.kind x2) == (2 : Int)) (
     impl_tmplOk.J42 N R_impl_tmplOk E5 (x0, x1, x3, x4, (ImplTmpl.mk (ImplTmpl.kind x2) (ImplTmpl.tag x2) (ImplTmpl.names x2) (ImplTmpl.args x2) (ImplTmpl.key x2) (ImplTmpl.ons x2) (ImplTmpl.kids x2)), (get x0 x1), (1 : Int), (1 : Int), (2 : Int), ())) (
     br ((ImplTmpl.kind x2) == (3 : Int)) (
     br (decide ((((List.length (ImplTmpl.key x2)) : Nat) : Int) > (0 : Int))) (
      bnd (impl_FormOk N (ImplTmpl.key x2) (ImplComp.props (get x0 x1)) (((List.length (ImplComp.states (get x0 x1))) : Nat) : Int) (IntKind.i64.wrap (x4 + (1 : Int)))) fun r61 =>
      br (!(r61).1) (
       some (false, ())) (
       impl_tmplOk.J42 N R_impl_tmplOk E5 (x0, x1, x3, x4, (ImplTmpl.mk (ImplTmpl.kind x2) (ImplTmpl.tag x2) (ImplTmpl.names x2) (ImplTmpl.args x2) (ImplTmpl.key x2) (ImplTmpl.ons x2) (ImplTmpl.kids x2)), (get x0 x1), (1 : Int), (1 : Int), (1 : Int), ()))) (
      impl_tmplOk.J42 N R_impl_tmplOk E5 (x0, x1, x3, x4, (ImplTmpl.mk (ImplTmpl.kind x2) (ImplTmpl.tag x2) (ImplTmpl.names x2) (ImplTmpl.args x2) (ImplTmpl.key x2) (ImplTmpl.ons x2) (ImplTmpl.kids x2)), (get x0 x1), (1 : Int), (1 : Int), (1 : Int), ()))) (
     br ((ImplTmpl.kind x2) == (4 : Int)) (
     bnd (impl_within N (ImplTmpl.tag x2) (IntKind.i64.wrap (x1 + (1 : Int))) (IntKind.i64.wrap ((((List.length x0) : Nat) : Int) - (1 : Int)))) fun r62 =>
     br (!(r62).1) (
      some (false, ())) (
      gd (decide ((0 : Int) ≤ (ImplTmpl.tag x2))) (
     gd (decide ((ImplTmpl.tag x2) < (((List.length x0) : Nat) : Int))) (
     impl_tmplOk.J42 N R_impl_tmplOk E5 (x0, x1, x3, x4, (ImplTmpl.mk (ImplTmpl.kind x2) (ImplTmpl.tag x2) (ImplTmpl.names x2) (ImplTmpl.args x2) (ImplTmpl.key x2) (ImplTmpl.ons x2) (ImplTmpl.kids x2)), (get x0 x1), (ImplComp.props (get x0 (ImplTmpl.tag x2))), (0 : Int), (0 : Int), ()))))) (
     br ((ImplTmpl.kind x2) == (5 : Int)) (
     bnd (impl_within N (ImplTmpl.tag x2) (0 : Int) (1 : Int)) fun r63 =>
     br (!(r63).1) (
      some (false, ())) (
      impl_tmplOk.J42 N R_impl_tmplOk E5 (x0, x1, x3, x4, (ImplTmpl.mk (ImplTmpl.kind x2) (ImplTmpl.tag x2) (ImplTmpl.names x2) (ImplTmpl.args x2) (ImplTmpl.key x2) (ImplTmpl.ons x2) (ImplTmpl.kids x2)), (get x0 x1), (1 : Int), (0 : Int), (4 : Int), ()))) (
     some (false, ()))))))))) (
    br ((ImplTmpl.kind x2) == (2 : Int)) (
    br ((ImplTmpl.tag x2) != (0 : Int)) (
     some (false, ())) (
     br ((ImplTmpl.kind x2) == (0 : Int)) (
     impl_tmplOk.J42 N R_impl_tmplOk E5 (x0, x1, x3, x4, (ImplTmpl.mk (ImplTmpl.kind x2) (ImplTmpl.tag x2) (ImplTmpl.names x2) (ImplTmpl.args x2) (ImplTmpl.key x2) (ImplTmpl.ons x2) (ImplTmpl.kids x2)), (get x0 x1), (1 : Int), (0 : Int), (0 : Int), ())) (
     br ((ImplTmpl.kind x2) == (1 : Int)) (
     bnd (impl_within N (ImplTmpl.tag x2) (0 : Int) (4 : Int)) fun r64 =>
     br (!(r64).1) (
      some (false, ())) (
      E1 (x0, x1, x3, x4, (ImplTmpl.mk (ImplTmpl.kind x2) (ImplTmpl.tag x2) (ImplTmpl.names x2) (ImplTmpl.args x2) (ImplTmpl.key x2) (ImplTmpl.ons x2) (ImplTmpl.kids x2)), (get x0 x1), (((List.length (ImplTmpl.names x2)) : Nat) : Int), (0 : Int), (4 : Int), (ImplTmpl.names x2), (((List.length (ImplTmpl.names x2)) : Nat) : Int), (0 : Int), ()))) (
     br ((ImplTmpl.kind x2) == (2 : Int)) (
     impl_tmplOk.J42 N R_impl_tmplOk E5 (x0, x1, x3, x4, (ImplTmpl.mk (ImplTmpl.kind x2) (ImplTmpl.tag x2) (ImplTmpl.names x2) (ImplTmpl.args x2) (ImplTmpl.key x2) (ImplTmpl.ons x2) (ImplTmpl.kids x2)), (get x0 x1), (1 : Int), (1 : Int), (2 : Int), ())) (
     br ((ImplTmpl.kind x2) == (3 : Int)) (
     br (decide ((((List.length (ImplTmpl.key x2)) : Nat) : Int) > (0 : Int))) (
      bnd (impl_FormOk N (ImplTmpl.key x2) (ImplComp.props (get x0 x1)) (((List.length (ImplComp.states (get x0 x1))) : Nat) : Int) (IntKind.i64.wrap (x4 + (1 : Int)))) fun r65 =>
      br (!(r65).1) (
       some (false, ())) (
       impl_tmplOk.J42 N R_impl_tmplOk E5 (x0, x1, x3, x4, (ImplTmpl.mk (ImplTmpl.kind x2) (ImplTmpl.tag x2) (ImplTmpl.names x2) (ImplTmpl.args x2) (ImplTmpl.key x2) (ImplTmpl.ons x2) (ImplTmpl.kids x2)), (get x0 x1), (1 : Int), (1 : Int), (1 : Int), ()))) (
      impl_tmplOk.J42 N R_impl_tmplOk E5 (x0, x1, x3, x4, (ImplTmpl.mk (ImplTmpl.kind x2) (ImplTmpl.tag x2) (ImplTmpl.names x2) (ImplTmpl.args x2) (ImplTmpl.key x2) (ImplTmpl.ons x2) (ImplTmpl.kids x2)), (get x0 x1), (1 : Int), (1 : Int), (1 : Int), ()))) (
     br ((ImplTmpl.kind x2) == (4 : Int)) (
     bnd (impl_within N (ImplTmpl.tag x2) (IntKind.i64.wrap (x1 + (1 : Int))) (IntKind.i64.wrap ((((List.length x0) : Nat) : Int) - (1 : Int)))) fun r66 =>
     br (!(r66).1) (
      some (false, ())) (
      gd (decide ((0 : Int) ≤ (ImplTmpl.tag x2))) (
     gd (decide ((ImplTmpl.tag x2) < (((List.length x0) : Nat) : Int))) (
     impl_tmplOk.J42 N R_impl_tmplOk E5 (x0, x1, x3, x4, (ImplTmpl.mk (ImplTmpl.kind x2) (ImplTmpl.tag x2) (ImplTmpl.names x2) (ImplTmpl.args x2) (ImplTmpl.key x2) (ImplTmpl.ons x2) (ImplTmpl.kids x2)), (get x0 x1), (ImplComp.props (get x0 (ImplTmpl.tag x2))), (0 : Int), (0 : Int), ()))))) (
     br ((ImplTmpl.kind x2) == (5 : Int)) (
     bnd (impl_within N (ImplTmpl.tag x2) (0 : Int) (1 : Int)) fun r67 =>
     br (!(r67).1) (
      some (false, ())) (
      impl_tmplOk.J42 N R_impl_tmplOk E5 (x0, x1, x3, x4, (ImplTmpl.mk (ImplTmpl.kind x2) (ImplTmpl.tag x2) (ImplTmpl.names x2) (ImplTmpl.args x2) (ImplTmpl.key x2) (ImplTmpl.ons x2) (ImplTmpl.kids x2)), (get x0 x1), (1 : Int), (0 : Int), (4 : Int), ()))) (
     some (false, ()))))))))) (
    br ((ImplTmpl.kind x2) == (3 : Int)) (
    br ((ImplTmpl.tag x2) != (0 : Int)) (
     some (false, ())) (
     br ((ImplTmpl.kind x2) == (0 : Int)) (
     impl_tmplOk.J42 N R_impl_tmplOk E5 (x0, x1, x3, x4, (ImplTmpl.mk (ImplTmpl.kind x2) (ImplTmpl.tag x2) (ImplTmpl.names x2) (ImplTmpl.args x2) (ImplTmpl.key x2) (ImplTmpl.ons x2) (ImplTmpl.kids x2)), (get x0 x1), (1 : Int), (0 : Int), (0 : Int), ())) (
     br ((ImplTmpl.kind x2) == (1 : Int)) (
     bnd (impl_within N (ImplTmpl.tag x2) (0 : Int) (4 : Int)) fun r68 =>
     br (!(r68).1) (
      some (false, ())) (
      E1 (x0, x1, x3, x4, (ImplTmpl.mk (ImplTmpl.kind x2) (ImplTmpl.tag x2) (ImplTmpl.names x2) (ImplTmpl.args x2) (ImplTmpl.key x2) (ImplTmpl.ons x2) (ImplTmpl.kids x2)), (get x0 x1), (((List.length (ImplTmpl.names x2)) : Nat) : Int), (0 : Int), (4 : Int), (ImplTmpl.names x2), (((List.length (ImplTmpl.names x2)) : Nat) : Int), (0 : Int), ()))) (
     br ((ImplTmpl.kind x2) == (2 : Int)) (
     impl_tmplOk.J42 N R_impl_tmplOk E5 (x0, x1, x3, x4, (ImplTmpl.mk (ImplTmpl.kind x2) (ImplTmpl.tag x2) (ImplTmpl.names x2) (ImplTmpl.args x2) (ImplTmpl.key x2) (ImplTmpl.ons x2) (ImplTmpl.kids x2)), (get x0 x1), (1 : Int), (1 : Int), (2 : Int), ())) (
     br ((ImplTmpl.kind x2) == (3 : Int)) (
     br (decide ((((List.length (ImplTmpl.key x2)) : Nat) : Int) > (0 : Int))) (
      bnd (impl_FormOk N (ImplTmpl.key x2) (ImplComp.props (get x0 x1)) (((List.length (ImplComp.states (get x0 x1))) : Nat) : Int) (IntKind.i64.wrap (x4 + (1 : Int)))) fun r69 =>
      br (!(r69).1) (
       some (false, ())) (
       impl_tmplOk.J42 N R_impl_tmplOk E5 (x0, x1, x3, x4, (ImplTmpl.mk (ImplTmpl.kind x2) (ImplTmpl.tag x2) (ImplTmpl.names x2) (ImplTmpl.args x2) (ImplTmpl.key x2) (ImplTmpl.ons x2) (ImplTmpl.kids x2)), (get x0 x1), (1 : Int), (1 : Int), (1 : Int), ()))) (
      impl_tmplOk.J42 N R_impl_tmplOk E5 (x0, x1, x3, x4, (ImplTmpl.mk (ImplTmpl.kind x2) (ImplTmpl.tag x2) (ImplTmpl.names x2) (ImplTmpl.args x2) (ImplTmpl.key x2) (ImplTmpl.ons x2) (ImplTmpl.kids x2)), (get x0 x1), (1 : Int), (1 : Int), (1 : Int), ()))) (
     br ((ImplTmpl.kind x2) == (4 : Int)) (
     bnd (impl_within N (ImplTmpl.tag x2) (IntKind.i64.wrap (x1 + (1 : Int))) (IntKind.i64.wrap ((((List.length x0) : Nat) : Int) - (1 : Int)))) fun r70 =>
     br (!(r70).1) (
      some (false, ())) (
      gd (decide ((0 : Int) ≤ (ImplTmpl.tag x2))) (
     gd (decide ((ImplTmpl.tag x2) < (((List.length x0) : Nat) : Int))) (
     impl_tmplOk.J42 N R_impl_tmplOk E5 (x0, x1, x3, x4, (ImplTmpl.mk (ImplTmpl.kind x2) (ImplTmpl.tag x2) (ImplTmpl.names x2) (ImplTmpl.args x2) (ImplTmpl.key x2) (ImplTmpl.ons x2) (ImplTmpl.kids x2)), (get x0 x1), (ImplComp.props (get x0 (ImplTmpl.tag x2))), (0 : Int), (0 : Int), ()))))) (
     br ((ImplTmpl.kind x2) == (5 : Int)) (
     bnd (impl_within N (ImplTmpl.tag x2) (0 : Int) (1 : Int)) fun r71 =>
     br (!(r71).1) (
      some (false, ())) (
      impl_tmplOk.J42 N R_impl_tmplOk E5 (x0, x1, x3, x4, (ImplTmpl.mk (ImplTmpl.kind x2) (ImplTmpl.tag x2) (ImplTmpl.names x2) (ImplTmpl.args x2) (ImplTmpl.key x2) (ImplTmpl.ons x2) (ImplTmpl.kids x2)), (get x0 x1), (1 : Int), (0 : Int), (4 : Int), ()))) (
     some (false, ()))))))))) (
    br ((ImplTmpl.kind x2) == (0 : Int)) (
    impl_tmplOk.J42 N R_impl_tmplOk E5 (x0, x1, x3, x4, (ImplTmpl.mk (ImplTmpl.kind x2) (ImplTmpl.tag x2) (ImplTmpl.names x2) (ImplTmpl.args x2) (ImplTmpl.key x2) (ImplTmpl.ons x2) (ImplTmpl.kids x2)), (get x0 x1), (1 : Int), (0 : Int), (0 : Int), ())) (
    br ((ImplTmpl.kind x2) == (1 : Int)) (
    bnd (impl_within N (ImplTmpl.tag x2) (0 : Int) (4 : Int)) fun r72 =>
    br (!(r72).1) (
     some (false, ())) (
     E1 (x0, x1, x3, x4, (ImplTmpl.mk (ImplTmpl.kind x2) (ImplTmpl.tag x2) (ImplTmpl.names x2) (ImplTmpl.args x2) (ImplTmpl.key x2) (ImplTmpl.ons x2) (ImplTmpl.kids x2)), (get x0 x1), (((List.length (ImplTmpl.names x2)) : Nat) : Int), (0 : Int), (4 : Int), (ImplTmpl.names x2), (((List.length (ImplTmpl.names x2)) : Nat) : Int), (0 : Int), ()))) (
    br ((ImplTmpl.kind x2) == (2 : Int)) (
    impl_tmplOk.J42 N R_impl_tmplOk E5 (x0, x1, x3, x4, (ImplTmpl.mk (ImplTmpl.kind x2) (ImplTmpl.tag x2) (ImplTmpl.names x2) (ImplTmpl.args x2) (ImplTmpl.key x2) (ImplTmpl.ons x2) (ImplTmpl.kids x2)), (get x0 x1), (1 : Int), (1 : Int), (2 : Int), ())) (
    br ((ImplTmpl.kind x2) == (3 : Int)) (
    br (decide ((((List.length (ImplTmpl.key x2)) : Nat) : Int) > (0 : Int))) (
     bnd (impl_FormOk N (ImplTmpl.key x2) (ImplComp.props (get x0 x1)) (((List.length (ImplComp.states (get x0 x1))) : Nat) : Int) (IntKind.i64.wrap (x4 + (1 : Int)))) fun r73 =>
     br (!(r73).1) (
      some (false, ())) (
      impl_tmplOk.J42 N R_impl_tmplOk E5 (x0, x1, x3, x4, (ImplTmpl.mk (ImplTmpl.kind x2) (ImplTmpl.tag x2) (ImplTmpl.names x2) (ImplTmpl.args x2) (ImplTmpl.key x2) (ImplTmpl.ons x2) (ImplTmpl.kids x2)), (get x0 x1), (1 : Int), (1 : Int), (1 : Int), ()))) (
     impl_tmplOk.J42 N R_impl_tmplOk E5 (x0, x1, x3, x4, (ImplTmpl.mk (ImplTmpl.kind x2) (ImplTmpl.tag x2) (ImplTmpl.names x2) (ImplTmpl.args x2) (ImplTmpl.key x2) (ImplTmpl.ons x2) (ImplTmpl.kids x2)), (get x0 x1), (1 : Int), (1 : Int), (1 : Int), ()))) (
    br ((ImplTmpl.kind x2) == (4 : Int)) (
    bnd (impl_within N (ImplTmpl.tag x2) (IntKind.i64.wrap (x1 + (1 : Int))) (IntKind.i64.wrap ((((List.length x0) : Nat) : Int) - (1 : Int)))) fun r74 =>
    br (!(r74).1) (
     some (false, ())) (
     gd (decide ((0 : Int) ≤ (ImplTmpl.tag x2))) (
    gd (decide ((ImplTmpl.tag x2) < (((List.length x0) : Nat) : Int))) (
    impl_tmplOk.J42 N R_impl_tmplOk E5 (x0, x1, x3, x4, (ImplTmpl.mk (ImplTmpl.kind x2) (ImplTmpl.tag x2) (ImplTmpl.names x2) (ImplTmpl.args x2) (ImplTmpl.key x2) (ImplTmpl.ons x2) (ImplTmpl.kids x2)), (get x0 x1), (ImplComp.props (get x0 (ImplTmpl.tag x2))), (0 : Int), (0 : Int), ()))))) (
    br ((ImplTmpl.kind x2) == (5 : Int)) (
    bnd (impl_within N (ImplTmpl.tag x2) (0 : Int) (1 : Int)) fun r75 =>
    br (!(r75).1) (
     some (false, ())) (
     impl_tmplOk.J42 N R_impl_tmplOk E5 (x0, x1, x3, x4, (ImplTmpl.mk (ImplTmpl.kind x2) (ImplTmpl.tag x2) (ImplTmpl.names x2) (ImplTmpl.args x2) (ImplTmpl.key x2) (ImplTmpl.ons x2) (ImplTmpl.kids x2)), (get x0 x1), (1 : Int), (0 : Int), (4 : Int), ()))) (
    some (false, ())))))))))))) (
   br ((ImplTmpl.kind x2) == (0 : Int)) (
   br ((ImplTmpl.tag x2) != (0 : Int)) (
    some (false, ())) (
    br ((ImplTmpl.kind x2) == (0 : Int)) (
    impl_tmplOk.J42 N R_impl_tmplOk E5 (x0, x1, x3, x4, (ImplTmpl.mk (ImplTmpl.kind x2) (ImplTmpl.tag x2) (ImplTmpl.names x2) (ImplTmpl.args x2) (ImplTmpl.key x2) (ImplTmpl.ons x2) (ImplTmpl.kids x2)), (get x0 x1), (1 : Int), (0 : Int), (0 : Int), ())) (
    br ((ImplTmpl.kind x2) == (1 : Int)) (
    bnd (impl_within N (ImplTmpl.tag x2) (0 : Int) (4 : Int)) fun r76 =>
    br (!(r76).1) (
     some (false, ())) (
     E1 (x0, x1, x3, x4, (ImplTmpl.mk (ImplTmpl.kind x2) (ImplTmpl.tag x2) (ImplTmpl.names x2) (ImplTmpl.args x2) (ImplTmpl.key x2) (ImplTmpl.ons x2) (ImplTmpl.kids x2)), (get x0 x1), (((List.length (ImplTmpl.names x2)) : Nat) : Int), (0 : Int), (4 : Int), (ImplTmpl.names x2), (((List.length (ImplTmpl.names x2)) : Nat) : Int), (0 : Int), ()))) (
    br ((ImplTmpl.kind x2) == (2 : Int)) (
    impl_tmplOk.J42 N R_impl_tmplOk E5 (x0, x1, x3, x4, (ImplTmpl.mk (ImplTmpl.kind x2) (ImplTmpl.tag x2) (ImplTmpl.names x2) (ImplTmpl.args x2) (ImplTmpl.key x2) (ImplTmpl.ons x2) (ImplTmpl.kids x2)), (get x0 x1), (1 : Int), (1 : Int), (2 : Int), ())) (
    br ((ImplTmpl.kind x2) == (3 : Int)) (
    br (decide ((((List.length (ImplTmpl.key x2)) : Nat) : Int) > (0 : Int))) (
     bnd (impl_FormOk N (ImplTmpl.key x2) (ImplComp.props (get x0 x1)) (((List.length (ImplComp.states (get x0 x1))) : Nat) : Int) (IntKind.i64.wrap (x4 + (1 : Int)))) fun r77 =>
     br (!(r77).1) (
      some (false, ())) (
      impl_tmplOk.J42 N R_impl_tmplOk E5 (x0, x1, x3, x4, (ImplTmpl.mk (ImplTmpl.kind x2) (ImplTmpl.tag x2) (ImplTmpl.names x2) (ImplTmpl.args x2) (ImplTmpl.key x2) (ImplTmpl.ons x2) (ImplTmpl.kids x2)), (get x0 x1), (1 : Int), (1 : Int), (1 : Int), ()))) (
     impl_tmplOk.J42 N R_impl_tmplOk E5 (x0, x1, x3, x4, (ImplTmpl.mk (ImplTmpl.kind x2) (ImplTmpl.tag x2) (ImplTmpl.names x2) (ImplTmpl.args x2) (ImplTmpl.key x2) (ImplTmpl.ons x2) (ImplTmpl.kids x2)), (get x0 x1), (1 : Int), (1 : Int), (1 : Int), ()))) (
    br ((ImplTmpl.kind x2) == (4 : Int)) (
    bnd (impl_within N (ImplTmpl.tag x2) (IntKind.i64.wrap (x1 + (1 : Int))) (IntKind.i64.wrap ((((List.length x0) : Nat) : Int) - (1 : Int)))) fun r78 =>
    br (!(r78).1) (
     some (false, ())) (
     gd (decide ((0 : Int) ≤ (ImplTmpl.tag x2))) (
    gd (decide ((ImplTmpl.tag x2) < (((List.length x0) : Nat) : Int))) (
    impl_tmplOk.J42 N R_impl_tmplOk E5 (x0, x1, x3, x4, (ImplTmpl.mk (ImplTmpl.kind x2) (ImplTmpl.tag x2) (ImplTmpl.names x2) (ImplTmpl.args x2) (ImplTmpl.key x2) (ImplTmpl.ons x2) (ImplTmpl.kids x2)), (get x0 x1), (ImplComp.props (get x0 (ImplTmpl.tag x2))), (0 : Int), (0 : Int), ()))))) (
    br ((ImplTmpl.kind x2) == (5 : Int)) (
    bnd (impl_within N (ImplTmpl.tag x2) (0 : Int) (1 : Int)) fun r79 =>
    br (!(r79).1) (
     some (false, ())) (
     impl_tmplOk.J42 N R_impl_tmplOk E5 (x0, x1, x3, x4, (ImplTmpl.mk (ImplTmpl.kind x2) (ImplTmpl.tag x2) (ImplTmpl.names x2) (ImplTmpl.args x2) (ImplTmpl.key x2) (ImplTmpl.ons x2) (ImplTmpl.kids x2)), (get x0 x1), (1 : Int), (0 : Int), (4 : Int), ()))) (
    some (false, ()))))))))) (
   br ((ImplTmpl.kind x2) == (2 : Int)) (
   br ((ImplTmpl.tag x2) != (0 : Int)) (
    some (false, ())) (
    br ((ImplTmpl.kind x2) == (0 : Int)) (
    impl_tmplOk.J42 N R_impl_tmplOk E5 (x0, x1, x3, x4, (ImplTmpl.mk (ImplTmpl.kind x2) (ImplTmpl.tag x2) (ImplTmpl.names x2) (ImplTmpl.args x2) (ImplTmpl.key x2) (ImplTmpl.ons x2) (ImplTmpl.kids x2)), (get x0 x1), (1 : Int), (0 : Int), (0 : Int), ())) (
    br ((ImplTmpl.kind x2) == (1 : Int)) (
    bnd (impl_within N (ImplTmpl.tag x2) (0 : Int) (4 : Int)) fun r80 =>
    br (!(r80).1) (
     some (false, ())) (
     E1 (x0, x1, x3, x4, (ImplTmpl.mk (ImplTmpl.kind x2) (ImplTmpl.tag x2) (ImplTmpl.names x2) (ImplTmpl.args x2) (ImplTmpl.key x2) (ImplTmpl.ons x2) (ImplTmpl.kids x2)), (get x0 x1), (((List.length (ImplTmpl.names x2)) : Nat) : Int), (0 : Int), (4 : Int), (ImplTmpl.names x2), (((List.length (ImplTmpl.names x2)) : Nat) : Int), (0 : Int), ()))) (
    br ((ImplTmpl.kind x2) == (2 : Int)) (
    impl_tmplOk.J42 N R_impl_tmplOk E5 (x0, x1, x3, x4, (ImplTmpl.mk (ImplTmpl.kind x2) (ImplTmpl.tag x2) (ImplTmpl.names x2) (ImplTmpl.args x2) (ImplTmpl.key x2) (ImplTmpl.ons x2) (ImplTmpl.kids x2)), (get x0 x1), (1 : Int), (1 : Int), (2 : Int), ())) (
    br ((ImplTmpl.kind x2) == (3 : Int)) (
    br (decide ((((List.length (ImplTmpl.key x2)) : Nat) : Int) > (0 : Int))) (
     bnd (impl_FormOk N (ImplTmpl.key x2) (ImplComp.props (get x0 x1)) (((List.length (ImplComp.states (get x0 x1))) : Nat) : Int) (IntKind.i64.wrap (x4 + (1 : Int)))) fun r81 =>
     br (!(r81).1) (
      some (false, ())) (
      impl_tmplOk.J42 N R_impl_tmplOk E5 (x0, x1, x3, x4, (ImplTmpl.mk (ImplTmpl.kind x2) (ImplTmpl.tag x2) (ImplTmpl.names x2) (ImplTmpl.args x2) (ImplTmpl.key x2) (ImplTmpl.ons x2) (ImplTmpl.kids x2)), (get x0 x1), (1 : Int), (1 : Int), (1 : Int), ()))) (
     impl_tmplOk.J42 N R_impl_tmplOk E5 (x0, x1, x3, x4, (ImplTmpl.mk (ImplTmpl.kind x2) (ImplTmpl.tag x2) (ImplTmpl.names x2) (ImplTmpl.args x2) (ImplTmpl.key x2) (ImplTmpl.ons x2) (ImplTmpl.kids x2)), (get x0 x1), (1 : Int), (1 : Int), (1 : Int), ()))) (
    br ((ImplTmpl.kind x2) == (4 : Int)) (
    bnd (impl_within N (ImplTmpl.tag x2) (IntKind.i64.wrap (x1 + (1 : Int))) (IntKind.i64.wrap ((((List.length x0) : Nat) : Int) - (1 : Int)))) fun r82 =>
    br (!(r82).1) (
     some (false, ())) (
     gd (decide ((0 : Int) ≤ (ImplTmpl.tag x2))) (
    gd (decide ((ImplTmpl.tag x2) < (((List.length x0) : Nat) : Int))) (
    impl_tmplOk.J42 N R_impl_tmplOk E5 (x0, x1, x3, x4, (ImplTmpl.mk (ImplTmpl.kind x2) (ImplTmpl.tag x2) (ImplTmpl.names x2) (ImplTmpl.args x2) (ImplTmpl.key x2) (ImplTmpl.ons x2) (ImplTmpl.kids x2)), (get x0 x1), (ImplComp.props (get x0 (ImplTmpl.tag x2))), (0 : Int), (0 : Int), ()))))) (
    br ((ImplTmpl.kind x2) == (5 : Int)) (
    bnd (impl_within N (ImplTmpl.tag x2) (0 : Int) (1 : Int)) fun r83 =>
    br (!(r83).1) (
     some (false, ())) (
     impl_tmplOk.J42 N R_impl_tmplOk E5 (x0, x1, x3, x4, (ImplTmpl.mk (ImplTmpl.kind x2) (ImplTmpl.tag x2) (ImplTmpl.names x2) (ImplTmpl.args x2) (ImplTmpl.key x2) (ImplTmpl.ons x2) (ImplTmpl.kids x2)), (get x0 x1), (1 : Int), (0 : Int), (4 : Int), ()))) (
    some (false, ()))))))))) (
   br ((ImplTmpl.kind x2) == (3 : Int)) (
   br ((ImplTmpl.tag x2) != (0 : Int)) (
    some (false, ())) (
    br ((ImplTmpl.kind x2) == (0 : Int)) (
    impl_tmplOk.J42 N R_impl_tmplOk E5 (x0, x1, x3, x4, (ImplTmpl.mk (ImplTmpl.kind x2) (ImplTmpl.tag x2) (ImplTmpl.names x2) (ImplTmpl.args x2) (ImplTmpl.key x2) (ImplTmpl.ons x2) (ImplTmpl.kids x2)), (get x0 x1), (1 : Int), (0 : Int), (0 : Int), ())) (
    br ((ImplTmpl.kind x2) == (1 : Int)) (
    bnd (impl_within N (ImplTmpl.tag x2) (0 : Int) (4 : Int)) fun r84 =>
    br (!(r84).1) (
     some (false, ())) (
     E1 (x0, x1, x3, x4, (ImplTmpl.mk (ImplTmpl.kind x2) (ImplTmpl.tag x2) (ImplTmpl.names x2) (ImplTmpl.args x2) (ImplTmpl.key x2) (ImplTmpl.ons x2) (ImplTmpl.kids x2)), (get x0 x1), (((List.length (ImplTmpl.names x2)) : Nat) : Int), (0 : Int), (4 : Int), (ImplTmpl.names x2), (((List.length (ImplTmpl.names x2)) : Nat) : Int), (0 : Int), ()))) (
    br ((ImplTmpl.kind x2) == (2 : Int)) (
    impl_tmplOk.J42 N R_impl_tmplOk E5 (x0, x1, x3, x4, (ImplTmpl.mk (ImplTmpl.kind x2) (ImplTmpl.tag x2) (ImplTmpl.names x2) (ImplTmpl.args x2) (ImplTmpl.key x2) (ImplTmpl.ons x2) (ImplTmpl.kids x2)), (get x0 x1), (1 : Int), (1 : Int), (2 : Int), ())) (
    br ((ImplTmpl.kind x2) == (3 : Int)) (
    br (decide ((((List.length (ImplTmpl.key x2)) : Nat) : Int) > (0 : Int))) (
     bnd (impl_FormOk N (ImplTmpl.key x2) (ImplComp.props (get x0 x1)) (((List.length (ImplComp.states (get x0 x1))) : Nat) : Int) (IntKind.i64.wrap (x4 + (1 : Int)))) fun r85 =>
     br (!(r85).1) (
      some (false, ())) (
      impl_tmplOk.J42 N R_impl_tmplOk E5 (x0, x1, x3, x4, (ImplTmpl.mk (ImplTmpl.kind x2) (ImplTmpl.tag x2) (ImplTmpl.names x2) (ImplTmpl.args x2) (ImplTmpl.key x2) (ImplTmpl.ons x2) (ImplTmpl.kids x2)), (get x0 x1), (1 : Int), (1 : Int), (1 : Int), ()))) (
     impl_tmplOk.J42 N R_impl_tmplOk E5 (x0, x1, x3, x4, (ImplTmpl.mk (ImplTmpl.kind x2) (ImplTmpl.tag x2) (ImplTmpl.names x2) (ImplTmpl.args x2) (ImplTmpl.key x2) (ImplTmpl.ons x2) (ImplTmpl.kids x2)), (get x0 x1), (1 : Int), (1 : Int), (1 : Int), ()))) (
    br ((ImplTmpl.kind x2) == (4 : Int)) (
    bnd (impl_within N (ImplTmpl.tag x2) (IntKind.i64.wrap (x1 + (1 : Int))) (IntKind.i64.wrap ((((List.length x0) : Nat) : Int) - (1 : Int)))) fun r86 =>
    br (!(r86).1) (
     some (false, ())) (
     gd (decide ((0 : Int) ≤ (ImplTmpl.tag x2))) (
    gd (decide ((ImplTmpl.tag x2) < (((List.length x0) : Nat) : Int))) (
    impl_tmplOk.J42 N R_impl_tmplOk E5 (x0, x1, x3, x4, (ImplTmpl.mk (ImplTmpl.kind x2) (ImplTmpl.tag x2) (ImplTmpl.names x2) (ImplTmpl.args x2) (ImplTmpl.key x2) (ImplTmpl.ons x2) (ImplTmpl.kids x2)), (get x0 x1), (ImplComp.props (get x0 (ImplTmpl.tag x2))), (0 : Int), (0 : Int), ()))))) (
    br ((ImplTmpl.kind x2) == (5 : Int)) (
    bnd (impl_within N (ImplTmpl.tag x2) (0 : Int) (1 : Int)) fun r87 =>
    br (!(r87).1) (
     some (false, ())) (
     impl_tmplOk.J42 N R_impl_tmplOk E5 (x0, x1, x3, x4, (ImplTmpl.mk (ImplTmpl.kind x2) (ImplTmpl.tag x2) (ImplTmpl.names x2) (ImplTmpl.args x2) (ImplTmpl.key x2) (ImplTmpl.ons x2) (ImplTmpl.kids x2)), (get x0 x1), (1 : Int), (0 : Int), (4 : Int), ()))) (
    some (false, ()))))))))) (
   br ((ImplTmpl.kind x2) == (0 : Int)) (
   impl_tmplOk.J42 N R_impl_tmplOk E5 (x0, x1, x3, x4, (ImplTmpl.mk (ImplTmpl.kind x2) (ImplTmpl.tag x2) (ImplTmpl.names x2) (ImplTmpl.args x2) (ImplTmpl.key x2) (ImplTmpl.ons x2) (ImplTmpl.kids x2)), (get x0 x1), (1 : Int), (0 : Int), (0 : Int), ())) (
   br ((ImplTmpl.kind x2) == (1 : Int)) (
   bnd (impl_within N (ImplTmpl.tag x2) (0 : Int) (4 : Int)) fun r88 =>
   br (!(r88).1) (
    some (false, ())) (
    E1 (x0, x1, x3, x4, (ImplTmpl.mk (ImplTmpl.kind x2) (ImplTmpl.tag x2) (ImplTmpl.names x2) (ImplTmpl.args x2) (ImplTmpl.key x2) (ImplTmpl.ons x2) (ImplTmpl.kids x2)), (get x0 x1), (((List.length (ImplTmpl.names x2)) : Nat) : Int), (0 : Int), (4 : Int), (ImplTmpl.names x2), (((List.length (ImplTmpl.names x2)) : Nat) : Int), (0 : Int), ()))) (
   br ((ImplTmpl.kind x2) == (2 : Int)) (
   impl_tmplOk.J42 N R_impl_tmplOk E5 (x0, x1, x3, x4, (ImplTmpl.mk (ImplTmpl.kind x2) (ImplTmpl.tag x2) (ImplTmpl.names x2) (ImplTmpl.args x2) (ImplTmpl.key x2) (ImplTmpl.ons x2) (ImplTmpl.kids x2)), (get x0 x1), (1 : Int), (1 : Int), (2 : Int), ())) (
   br ((ImplTmpl.kind x2) == (3 : Int)) (
   br (decide ((((List.length (ImplTmpl.key x2)) : Nat) : Int) > (0 : Int))) (
    bnd (impl_FormOk N (ImplTmpl.key x2) (ImplComp.props (get x0 x1)) (((List.length (ImplComp.states (get x0 x1))) : Nat) : Int) (IntKind.i64.wrap (x4 + (1 : Int)))) fun r89 =>
    br (!(r89).1) (
     some (false, ())) (
     impl_tmplOk.J42 N R_impl_tmplOk E5 (x0, x1, x3, x4, (ImplTmpl.mk (ImplTmpl.kind x2) (ImplTmpl.tag x2) (ImplTmpl.names x2) (ImplTmpl.args x2) (ImplTmpl.key x2) (ImplTmpl.ons x2) (ImplTmpl.kids x2)), (get x0 x1), (1 : Int), (1 : Int), (1 : Int), ()))) (
    impl_tmplOk.J42 N R_impl_tmplOk E5 (x0, x1, x3, x4, (ImplTmpl.mk (ImplTmpl.kind x2) (ImplTmpl.tag x2) (ImplTmpl.names x2) (ImplTmpl.args x2) (ImplTmpl.key x2) (ImplTmpl.ons x2) (ImplTmpl.kids x2)), (get x0 x1), (1 : Int), (1 : Int), (1 : Int), ()))) (
   br ((ImplTmpl.kind x2) == (4 : Int)) (
   bnd (impl_within N (ImplTmpl.tag x2) (IntKind.i64.wrap (x1 + (1 : Int))) (IntKind.i64.wrap ((((List.length x0) : Nat) : Int) - (1 : Int)))) fun r90 =>
   br (!(r90).1) (
    some (false, ())) (
    gd (decide ((0 : Int) ≤ (ImplTmpl.tag x2))) (
   gd (decide ((ImplTmpl.tag x2) < (((List.length x0) : Nat) : Int))) (
   impl_tmplOk.J42 N R_impl_tmplOk E5 (x0, x1, x3, x4, (ImplTmpl.mk (ImplTmpl.kind x2) (ImplTmpl.tag x2) (ImplTmpl.names x2) (ImplTmpl.args x2) (ImplTmpl.key x2) (ImplTmpl.ons x2) (ImplTmpl.kids x2)), (get x0 x1), (ImplComp.props (get x0 (ImplTmpl.tag x2))), (0 : Int), (0 : Int), ()))))) (
   br ((ImplTmpl.kind x2) == (5 : Int)) (
   bnd (impl_within N (ImplTmpl.tag x2) (0 : Int) (1 : Int)) fun r91 =>
   br (!(r91).1) (
    some (false, ())) (
    impl_tmplOk.J42 N R_impl_tmplOk E5 (x0, x1, x3, x4, (ImplTmpl.mk (ImplTmpl.kind x2) (ImplTmpl.tag x2) (ImplTmpl.names x2) (ImplTmpl.args x2) (ImplTmpl.key x2) (ImplTmpl.ons x2) (ImplTmpl.kids x2)), (get x0 x1), (1 : Int), (0 : Int), (4 : Int), ()))) (
   some (false, ())))))))))))))) (
  br ((ImplTmpl.kind x2) != (3 : Int)) (
  br (decide ((((List.length (ImplTmpl.key x2)) : Nat) : Int) > (0 : Int))) (
   some (false, ())) (
   br ((ImplTmpl.kind x2) == (0 : Int)) (
   br ((ImplTmpl.tag x2) != (0 : Int)) (
    some (false, ())) (
    br ((ImplTmpl.kind x2) == (0 : Int)) (
    impl_tmplOk.J42 N R_impl_tmplOk E5 (x0, x1, x3, x4, (ImplTmpl.mk (ImplTmpl.kind x2) (ImplTmpl.tag x2) (ImplTmpl.names x2) (ImplTmpl.args x2) (ImplTmpl.key x2) (ImplTmpl.ons x2) (ImplTmpl.kids x2)), (get x0 x1), (1 : Int), (0 : Int), (0 : Int), ())) (
    br ((ImplTmpl.kind x2) == (1 : Int)) (
    bnd (impl_within N (ImplTmpl.tag x2) (0 : Int) (4 : Int)) fun r92 =>
    br (!(r92).1) (
     some (false, ())) (
     E1 (x0, x1, x3, x4, (ImplTmpl.mk (ImplTmpl.kind x2) (ImplTmpl.tag x2) (ImplTmpl.names x2) (ImplTmpl.args x2) (ImplTmpl.key x2) (ImplTmpl.ons x2) (ImplTmpl.kids x2)), (get x0 x1), (((List.length (ImplTmpl.names x2)) : Nat) : Int), (0 : Int), (4 : Int), (ImplTmpl.names x2), (((List.length (ImplTmpl.names x2)) : Nat) : Int), (0 : Int), ()))) (
    br ((ImplTmpl.kind x2) == (2 : Int)) (
    impl_tmplOk.J42 N R_impl_tmplOk E5 (x0, x1, x3, x4, (ImplTmpl.mk (ImplTmpl.kind x2) (ImplTmpl.tag x2) (ImplTmpl.names x2) (ImplTmpl.args x2) (ImplTmpl.key x2) (ImplTmpl.ons x2) (ImplTmpl.kids x2)), (get x0 x1), (1 : Int), (1 : Int), (2 : Int), ())) (
    br ((ImplTmpl.kind x2) == (3 : Int)) (
    br (decide ((((List.length (ImplTmpl.key x2)) : Nat) : Int) > (0 : Int))) (
     bnd (impl_FormOk N (ImplTmpl.key x2) (ImplComp.props (get x0 x1)) (((List.length (ImplComp.states (get x0 x1))) : Nat) : Int) (IntKind.i64.wrap (x4 + (1 : Int)))) fun r93 =>
     br (!(r93).1) (
      some (false, ())) (
      impl_tmplOk.J42 N R_impl_tmplOk E5 (x0, x1, x3, x4, (ImplTmpl.mk (ImplTmpl.kind x2) (ImplTmpl.tag x2) (ImplTmpl.names x2) (ImplTmpl.args x2) (ImplTmpl.key x2) (ImplTmpl.ons x2) (ImplTmpl.kids x2)), (get x0 x1), (1 : Int), (1 : Int), (1 : Int), ()))) (
     impl_tmplOk.J42 N R_impl_tmplOk E5 (x0, x1, x3, x4, (ImplTmpl.mk (ImplTmpl.kind x2) (ImplTmpl.tag x2) (ImplTmpl.names x2) (ImplTmpl.args x2) (ImplTmpl.key x2) (ImplTmpl.ons x2) (ImplTmpl.kids x2)), (get x0 x1), (1 : Int), (1 : Int), (1 : Int), ()))) (
    br ((ImplTmpl.kind x2) == (4 : Int)) (
    bnd (impl_within N (ImplTmpl.tag x2) (IntKind.i64.wrap (x1 + (1 : Int))) (IntKind.i64.wrap ((((List.length x0) : Nat) : Int) - (1 : Int)))) fun r94 =>
    br (!(r94).1) (
     some (false, ())) (
     gd (decide ((0 : Int) ≤ (ImplTmpl.tag x2))) (
    gd (decide ((ImplTmpl.tag x2) < (((List.length x0) : Nat) : Int))) (
    impl_tmplOk.J42 N R_impl_tmplOk E5 (x0, x1, x3, x4, (ImplTmpl.mk (ImplTmpl.kind x2) (ImplTmpl.tag x2) (ImplTmpl.names x2) (ImplTmpl.args x2) (ImplTmpl.key x2) (ImplTmpl.ons x2) (ImplTmpl.kids x2)), (get x0 x1), (ImplComp.props (get x0 (ImplTmpl.tag x2))), (0 : Int), (0 : Int), ()))))) (
    br ((ImplTmpl.kind x2) == (5 : Int)) (
    bnd (impl_within N (ImplTmpl.tag x2) (0 : Int) (1 : Int)) fun r95 =>
    br (!(r95).1) (
     some (false, ())) (
     impl_tmplOk.J42 N R_impl_tmplOk E5 (x0, x1, x3, x4, (ImplTmpl.mk (ImplTmpl.kind x2) (ImplTmpl.tag x2) (ImplTmpl.names x2) (ImplTmpl.args x2) (ImplTmpl.key x2) (ImplTmpl.ons x2) (ImplTmpl.kids x2)), (get x0 x1), (1 : Int), (0 : Int), (4 : Int), ()))) (
    some (false, ()))))))))) (
   br ((ImplTmpl.kind x2) == (2 : Int)) (
   br ((ImplTmpl.tag x2) != (0 : Int)) (
    some (false, ())) (
    br ((ImplTmpl.kind x2) == (0 : Int)) (
    impl_tmplOk.J42 N R_impl_tmplOk E5 (x0, x1, x3, x4, (ImplTmpl.mk (ImplTmpl.kind x2) (ImplTmpl.tag x2) (ImplTmpl.names x2) (ImplTmpl.args x2) (ImplTmpl.key x2) (ImplTmpl.ons x2) (ImplTmpl.kids x2)), (get x0 x1), (1 : Int), (0 : Int), (0 : Int), ())) (
    br ((ImplTmpl.kind x2) == (1 : Int)) (
    bnd (impl_within N (ImplTmpl.tag x2) (0 : Int) (4 : Int)) fun r96 =>
    br (!(r96).1) (
     some (false, ())) (
     E1 (x0, x1, x3, x4, (ImplTmpl.mk (ImplTmpl.kind x2) (ImplTmpl.tag x2) (ImplTmpl.names x2) (ImplTmpl.args x2) (ImplTmpl.key x2) (ImplTmpl.ons x2) (ImplTmpl.kids x2)), (get x0 x1), (((List.length (ImplTmpl.names x2)) : Nat) : Int), (0 : Int), (4 : Int), (ImplTmpl.names x2), (((List.length (ImplTmpl.names x2)) : Nat) : Int), (0 : Int), ()))) (
    br ((ImplTmpl.kind x2) == (2 : Int)) (
    impl_tmplOk.J42 N R_impl_tmplOk E5 (x0, x1, x3, x4, (ImplTmpl.mk (ImplTmpl.kind x2) (ImplTmpl.tag x2) (ImplTmpl.names x2) (ImplTmpl.args x2) (ImplTmpl.key x2) (ImplTmpl.ons x2) (ImplTmpl.kids x2)), (get x0 x1), (1 : Int), (1 : Int), (2 : Int), ())) (
    br ((ImplTmpl.kind x2) == (3 : Int)) (
    br (decide ((((List.length (ImplTmpl.key x2)) : Nat) : Int) > (0 : Int))) (
     bnd (impl_FormOk N (ImplTmpl.key x2) (ImplComp.props (get x0 x1)) (((List.length (ImplComp.states (get x0 x1))) : Nat) : Int) (IntKind.i64.wrap (x4 + (1 : Int)))) fun r97 =>
     br (!(r97).1) (
      some (false, ())) (
      impl_tmplOk.J42 N R_impl_tmplOk E5 (x0, x1, x3, x4, (ImplTmpl.mk (ImplTmpl.kind x2) (ImplTmpl.tag x2) (ImplTmpl.names x2) (ImplTmpl.args x2) (ImplTmpl.key x2) (ImplTmpl.ons x2) (ImplTmpl.kids x2)), (get x0 x1), (1 : Int), (1 : Int), (1 : Int), ()))) (
     impl_tmplOk.J42 N R_impl_tmplOk E5 (x0, x1, x3, x4, (ImplTmpl.mk (ImplTmpl.kind x2) (ImplTmpl.tag x2) (ImplTmpl.names x2) (ImplTmpl.args x2) (ImplTmpl.key x2) (ImplTmpl.ons x2) (ImplTmpl.kids x2)), (get x0 x1), (1 : Int), (1 : Int), (1 : Int), ()))) (
    br ((ImplTmpl.kind x2) == (4 : Int)) (
    bnd (impl_within N (ImplTmpl.tag x2) (IntKind.i64.wrap (x1 + (1 : Int))) (IntKind.i64.wrap ((((List.length x0) : Nat) : Int) - (1 : Int)))) fun r98 =>
    br (!(r98).1) (
     some (false, ())) (
     gd (decide ((0 : Int) ≤ (ImplTmpl.tag x2))) (
    gd (decide ((ImplTmpl.tag x2) < (((List.length x0) : Nat) : Int))) (
    impl_tmplOk.J42 N R_impl_tmplOk E5 (x0, x1, x3, x4, (ImplTmpl.mk (ImplTmpl.kind x2) (ImplTmpl.tag x2) (ImplTmpl.names x2) (ImplTmpl.args x2) (ImplTmpl.key x2) (ImplTmpl.ons x2) (ImplTmpl.kids x2)), (get x0 x1), (ImplComp.props (get x0 (ImplTmpl.tag x2))), (0 : Int), (0 : Int), ()))))) (
    br ((ImplTmpl.kind x2) == (5 : Int)) (
    bnd (impl_within N (ImplTmpl.tag x2) (0 : Int) (1 : Int)) fun r99 =>
    br (!(r99).1) (
     some (false, ())) (
     impl_tmplOk.J42 N R_impl_tmplOk E5 (x0, x1, x3, x4, (ImplTmpl.mk (ImplTmpl.kind x2) (ImplTmpl.tag x2) (ImplTmpl.names x2) (ImplTmpl.args x2) (ImplTmpl.key x2) (ImplTmpl.ons x2) (ImplTmpl.kids x2)), (get x0 x1), (1 : Int), (0 : Int), (4 : Int), ()))) (
    some (false, ()))))))))) (
   br ((ImplTmpl.kind x2) == (3 : Int)) (
   br ((ImplTmpl.tag x2) != (0 : Int)) (
    some (false, ())) (
    br ((ImplTmpl.kind x2) == (0 : Int)) (
    impl_tmplOk.J42 N R_impl_tmplOk E5 (x0, x1, x3, x4, (ImplTmpl.mk (ImplTmpl.kind x2) (ImplTmpl.tag x2) (ImplTmpl.names x2) (ImplTmpl.args x2) (ImplTmpl.key x2) (ImplTmpl.ons x2) (ImplTmpl.kids x2)), (get x0 x1), (1 : Int), (0 : Int), (0 : Int), ())) (
    br ((ImplTmpl.kind x2) == (1 : Int)) (
    bnd (impl_within N (ImplTmpl.tag x2) (0 : Int) (4 : Int)) fun r100 =>
    br (!(r100).1) (
     some (false, ())) (
     E1 (x0, x1, x3, x4, (ImplTmpl.mk (ImplTmpl.kind x2) (ImplTmpl.tag x2) (ImplTmpl.names x2) (ImplTmpl.args x2) (ImplTmpl.key x2) (ImplTmpl.ons x2) (ImplTmpl.kids x2)), (get x0 x1), (((List.length (ImplTmpl.names x2)) : Nat) : Int), (0 : Int), (4 : Int), (ImplTmpl.names x2), (((List.length (ImplTmpl.names x2)) : Nat) : Int), (0 : Int), ()))) (
    br ((ImplTmpl.kind x2) == (2 : Int)) (
    impl_tmplOk.J42 N R_impl_tmplOk E5 (x0, x1, x3, x4, (ImplTmpl.mk (ImplTmpl.kind x2) (ImplTmpl.tag x2) (ImplTmpl.names x2) (ImplTmpl.args x2) (ImplTmpl.key x2) (ImplTmpl.ons x2) (ImplTmpl.kids x2)), (get x0 x1), (1 : Int), (1 : Int), (2 : Int), ())) (
    br ((ImplTmpl.kind x2) == (3 : Int)) (
    br (decide ((((List.length (ImplTmpl.key x2)) : Nat) : Int) > (0 : Int))) (
     bnd (impl_FormOk N (ImplTmpl.key x2) (ImplComp.props (get x0 x1)) (((List.length (ImplComp.states (get x0 x1))) : Nat) : Int) (IntKind.i64.wrap (x4 + (1 : Int)))) fun r101 =>
     br (!(r101).1) (
      some (false, ())) (
      impl_tmplOk.J42 N R_impl_tmplOk E5 (x0, x1, x3, x4, (ImplTmpl.mk (ImplTmpl.kind x2) (ImplTmpl.tag x2) (ImplTmpl.names x2) (ImplTmpl.args x2) (ImplTmpl.key x2) (ImplTmpl.ons x2) (ImplTmpl.kids x2)), (get x0 x1), (1 : Int), (1 : Int), (1 : Int), ()))) (
     impl_tmplOk.J42 N R_impl_tmplOk E5 (x0, x1, x3, x4, (ImplTmpl.mk (ImplTmpl.kind x2) (ImplTmpl.tag x2) (ImplTmpl.names x2) (ImplTmpl.args x2) (ImplTmpl.key x2) (ImplTmpl.ons x2) (ImplTmpl.kids x2)), (get x0 x1), (1 : Int), (1 : Int), (1 : Int), ()))) (
    br ((ImplTmpl.kind x2) == (4 : Int)) (
    bnd (impl_within N (ImplTmpl.tag x2) (IntKind.i64.wrap (x1 + (1 : Int))) (IntKind.i64.wrap ((((List.length x0) : Nat) : Int) - (1 : Int)))) fun r102 =>
    br (!(r102).1) (
     some (false, ())) (
     gd (decide ((0 : Int) ≤ (ImplTmpl.tag x2))) (
    gd (decide ((ImplTmpl.tag x2) < (((List.length x0) : Nat) : Int))) (
    impl_tmplOk.J42 N R_impl_tmplOk E5 (x0, x1, x3, x4, (ImplTmpl.mk (ImplTmpl.kind x2) (ImplTmpl.tag x2) (ImplTmpl.names x2) (ImplTmpl.args x2) (ImplTmpl.key x2) (ImplTmpl.ons x2) (ImplTmpl.kids x2)), (get x0 x1), (ImplComp.props (get x0 (ImplTmpl.tag x2))), (0 : Int), (0 : Int), ()))))) (
    br ((ImplTmpl.kind x2) == (5 : Int)) (
    bnd (impl_within N (ImplTmpl.tag x2) (0 : Int) (1 : Int)) fun r103 =>
    br (!(r103).1) (
     some (false, ())) (
     impl_tmplOk.J42 N R_impl_tmplOk E5 (x0, x1, x3, x4, (ImplTmpl.mk (ImplTmpl.kind x2) (ImplTmpl.tag x2) (ImplTmpl.names x2) (ImplTmpl.args x2) (ImplTmpl.key x2) (ImplTmpl.ons x2) (ImplTmpl.kids x2)), (get x0 x1), (1 : Int), (0 : Int), (4 : Int), ()))) (
    some (false, ()))))))))) (
   br ((ImplTmpl.kind x2) == (0 : Int)) (
   impl_tmplOk.J42 N R_impl_tmplOk E5 (x0, x1, x3, x4, (ImplTmpl.mk (ImplTmpl.kind x2) (ImplTmpl.tag x2) (ImplTmpl.names x2) (ImplTmpl.args x2) (ImplTmpl.key x2) (ImplTmpl.ons x2) (ImplTmpl.kids x2)), (get x0 x1), (1 : Int), (0 : Int), (0 : Int), ())) (
   br ((ImplTmpl.kind x2) == (1 : Int)) (
   bnd (impl_within N (ImplTmpl.tag x2) (0 : Int) (4 : Int)) fun r104 =>
   br (!(r104).1) (
    some (false, ())) (
    E1 (x0, x1, x3, x4, (ImplTmpl.mk (ImplTmpl.kind x2) (ImplTmpl.tag x2) (ImplTmpl.names x2) (ImplTmpl.args x2) (ImplTmpl.key x2) (ImplTmpl.ons x2) (ImplTmpl.kids x2)), (get x0 x1), (((List.length (ImplTmpl.names x2)) : Nat) : Int), (0 : Int), (4 : Int), (ImplTmpl.names x2), (((List.length (ImplTmpl.names x2)) : Nat) : Int), (0 : Int), ()))) (
   br ((ImplTmpl.kind x2) == (2 : Int)) (
   impl_tmplOk.J42 N R_impl_tmplOk E5 (x0, x1, x3, x4, (ImplTmpl.mk (ImplTmpl.kind x2) (ImplTmpl.tag x2) (ImplTmpl.names x2) (ImplTmpl.args x2) (ImplTmpl.key x2) (ImplTmpl.ons x2) (ImplTmpl.kids x2)), (get x0 x1), (1 : Int), (1 : Int), (2 : Int), ())) (
   br ((ImplTmpl.kind x2) == (3 : Int)) (
   br (decide ((((List.length (ImplTmpl.key x2)) : Nat) : Int) > (0 : Int))) (
    bnd (impl_FormOk N (ImplTmpl.key x2) (ImplComp.props (get x0 x1)) (((List.length (ImplComp.states (get x0 x1))) : Nat) : Int) (IntKind.i64.wrap (x4 + (1 : Int)))) fun r105 =>
    br (!(r105).1) (
     some (false, ())) (
     impl_tmplOk.J42 N R_impl_tmplOk E5 (x0, x1, x3, x4, (ImplTmpl.mk (ImplTmpl.kind x2) (ImplTmpl.tag x2) (ImplTmpl.names x2) (ImplTmpl.args x2) (ImplTmpl.key x2) (ImplTmpl.ons x2) (ImplTmpl.kids x2)), (get x0 x1), (1 : Int), (1 : Int), (1 : Int), ()))) (
    impl_tmplOk.J42 N R_impl_tmplOk E5 (x0, x1, x3, x4, (ImplTmpl.mk (ImplTmpl.kind x2) (ImplTmpl.tag x2) (ImplTmpl.names x2) (ImplTmpl.args x2) (ImplTmpl.key x2) (ImplTmpl.ons x2) (ImplTmpl.kids x2)), (get x0 x1), (1 : Int), (1 : Int), (1 : Int), ()))) (
   br ((ImplTmpl.kind x2) == (4 : Int)) (
   bnd (impl_within N (ImplTmpl.tag x2) (IntKind.i64.wrap (x1 + (1 : Int))) (IntKind.i64.wrap ((((List.length x0) : Nat) : Int) - (1 : Int)))) fun r106 =>
   br (!(r106).1) (
    some (false, ())) (
    gd (decide ((0 : Int) ≤ (ImplTmpl.tag x2))) (
   gd (decide ((ImplTmpl.tag x2) < (((List.length x0) : Nat) : Int))) (
   impl_tmplOk.J42 N R_impl_tmplOk E5 (x0, x1, x3, x4, (ImplTmpl.mk (ImplTmpl.kind x2) (ImplTmpl.tag x2) (ImplTmpl.names x2) (ImplTmpl.args x2) (ImplTmpl.key x2) (ImplTmpl.ons x2) (ImplTmpl.kids x2)), (get x0 x1), (ImplComp.props (get x0 (ImplTmpl.tag x2))), (0 : Int), (0 : Int), ()))))) (
   br ((ImplTmpl.kind x2) == (5 : Int)) (
   bnd (impl_within N (ImplTmpl.tag x2) (0 : Int) (1 : Int)) fun r107 =>
   br (!(r107).1) (
    some (false, ())) (
    impl_tmplOk.J42 N R_impl_tmplOk E5 (x0, x1, x3, x4, (ImplTmpl.mk (ImplTmpl.kind x2) (ImplTmpl.tag x2) (ImplTmpl.names x2) (ImplTmpl.args x2) (ImplTmpl.key x2) (ImplTmpl.ons x2) (ImplTmpl.kids x2)), (get x0 x1), (1 : Int), (0 : Int), (4 : Int), ()))) (
   some (false, ())))))))))))) (
  br ((ImplTmpl.kind x2) == (0 : Int)) (
  br ((ImplTmpl.tag x2) != (0 : Int)) (
   some (false, ())) (
   br ((ImplTmpl.kind x2) == (0 : Int)) (
   impl_tmplOk.J42 N R_impl_tmplOk E5 (x0, x1, x3, x4, (ImplTmpl.mk (ImplTmpl.kind x2) (ImplTmpl.tag x2) (ImplTmpl.names x2) (ImplTmpl.args x2) (ImplTmpl.key x2) (ImplTmpl.ons x2) (ImplTmpl.kids x2)), (get x0 x1), (1 : Int), (0 : Int), (0 : Int), ())) (
   br ((ImplTmpl.kind x2) == (1 : Int)) (
   bnd (impl_within N (ImplTmpl.tag x2) (0 : Int) (4 : Int)) fun r108 =>
   br (!(r108).1) (
    some (false, ())) (
    E1 (x0, x1, x3, x4, (ImplTmpl.mk (ImplTmpl.kind x2) (ImplTmpl.tag x2) (ImplTmpl.names x2) (ImplTmpl.args x2) (ImplTmpl.key x2) (ImplTmpl.ons x2) (ImplTmpl.kids x2)), (get x0 x1), (((List.length (ImplTmpl.names x2)) : Nat) : Int), (0 : Int), (4 : Int), (ImplTmpl.names x2), (((List.length (ImplTmpl.names x2)) : Nat) : Int), (0 : Int), ()))) (
   br ((ImplTmpl.kind x2) == (2 : Int)) (
   impl_tmplOk.J42 N R_impl_tmplOk E5 (x0, x1, x3, x4, (ImplTmpl.mk (ImplTmpl.kind x2) (ImplTmpl.tag x2) (ImplTmpl.names x2) (ImplTmpl.args x2) (ImplTmpl.key x2) (ImplTmpl.ons x2) (ImplTmpl.kids x2)), (get x0 x1), (1 : Int), (1 : Int), (2 : Int), ())) (
   br ((ImplTmpl.kind x2) == (3 : Int)) (
   br (decide ((((List.length (ImplTmpl.key x2)) : Nat) : Int) > (0 : Int))) (
    bnd (impl_FormOk N (ImplTmpl.key x2) (ImplComp.props (get x0 x1)) (((List.length (ImplComp.states (get x0 x1))) : Nat) : Int) (IntKind.i64.wrap (x4 + (1 : Int)))) fun r109 =>
    br (!(r109).1) (
     some (false, ())) (
     impl_tmplOk.J42 N R_impl_tmplOk E5 (x0, x1, x3, x4, (ImplTmpl.mk (ImplTmpl.kind x2) (ImplTmpl.tag x2) (ImplTmpl.names x2) (ImplTmpl.args x2) (ImplTmpl.key x2) (ImplTmpl.ons x2) (ImplTmpl.kids x2)), (get x0 x1), (1 : Int), (1 : Int), (1 : Int), ()))) (
    impl_tmplOk.J42 N R_impl_tmplOk E5 (x0, x1, x3, x4, (ImplTmpl.mk (ImplTmpl.kind x2) (ImplTmpl.tag x2) (ImplTmpl.names x2) (ImplTmpl.args x2) (ImplTmpl.key x2) (ImplTmpl.ons x2) (ImplTmpl.kids x2)), (get x0 x1), (1 : Int), (1 : Int), (1 : Int), ()))) (
   br ((ImplTmpl.kind x2) == (4 : Int)) (
   bnd (impl_within N (ImplTmpl.tag x2) (IntKind.i64.wrap (x1 + (1 : Int))) (IntKind.i64.wrap ((((List.length x0) : Nat) : Int) - (1 : Int)))) fun r110 =>
   br (!(r110).1) (
    some (false, ())) (
    gd (decide ((0 : Int) ≤ (ImplTmpl.tag x2))) (
   gd (decide ((ImplTmpl.tag x2) < (((List.length x0) : Nat) : Int))) (
   impl_tmplOk.J42 N R_impl_tmplOk E5 (x0, x1, x3, x4, (ImplTmpl.mk (ImplTmpl.kind x2) (ImplTmpl.tag x2) (ImplTmpl.names x2) (ImplTmpl.args x2) (ImplTmpl.key x2) (ImplTmpl.ons x2) (ImplTmpl.kids x2)), (get x0 x1), (ImplComp.props (get x0 (ImplTmpl.tag x2))), (0 : Int), (0 : Int), ()))))) (
   br ((ImplTmpl.kind x2) == (5 : Int)) (
   bnd (impl_within N (ImplTmpl.tag x2) (0 : Int) (1 : Int)) fun r111 =>
   br (!(r111).1) (
    some (false, ())) (
    impl_tmplOk.J42 N R_impl_tmplOk E5 (x0, x1, x3, x4, (ImplTmpl.mk (ImplTmpl.kind x2) (ImplTmpl.tag x2) (ImplTmpl.names x2) (ImplTmpl.args x2) (ImplTmpl.key x2) (ImplTmpl.ons x2) (ImplTmpl.kids x2)), (get x0 x1), (1 : Int), (0 : Int), (4 : Int), ()))) (
   some (false, ()))))))))) (
  br ((ImplTmpl.kind x2) == (2 : Int)) (
  br ((ImplTmpl.tag x2) != (0 : Int)) (
   some (false, ())) (
   br ((ImplTmpl.kind x2) == (0 : Int)) (
   impl_tmplOk.J42 N R_impl_tmplOk E5 (x0, x1, x3, x4, (ImplTmpl.mk (ImplTmpl.kind x2) (ImplTmpl.tag x2) (ImplTmpl.names x2) (ImplTmpl.args x2) (ImplTmpl.key x2) (ImplTmpl.ons x2) (ImplTmpl.kids x2)), (get x0 x1), (1 : Int), (0 : Int), (0 : Int), ())) (
   br ((ImplTmpl.kind x2) == (1 : Int)) (
   bnd (impl_within N (ImplTmpl.tag x2) (0 : Int) (4 : Int)) fun r112 =>
   br (!(r112).1) (
    some (false, ())) (
    E1 (x0, x1, x3, x4, (ImplTmpl.mk (ImplTmpl.kind x2) (ImplTmpl.tag x2) (ImplTmpl.names x2) (ImplTmpl.args x2) (ImplTmpl.key x2) (ImplTmpl.ons x2) (ImplTmpl.kids x2)), (get x0 x1), (((List.length (ImplTmpl.names x2)) : Nat) : Int), (0 : Int), (4 : Int), (ImplTmpl.names x2), (((List.length (ImplTmpl.names x2)) : Nat) : Int), (0 : Int), ()))) (
   br ((ImplTmpl.kind x2) == (2 : Int)) (
   impl_tmplOk.J42 N R_impl_tmplOk E5 (x0, x1, x3, x4, (ImplTmpl.mk (ImplTmpl.kind x2) (ImplTmpl.tag x2) (ImplTmpl.names x2) (ImplTmpl.args x2) (ImplTmpl.key x2) (ImplTmpl.ons x2) (ImplTmpl.kids x2)), (get x0 x1), (1 : Int), (1 : Int), (2 : Int), ())) (
   br ((ImplTmpl.kind x2) == (3 : Int)) (
   br (decide ((((List.length (ImplTmpl.key x2)) : Nat) : Int) > (0 : Int))) (
    bnd (impl_FormOk N (ImplTmpl.key x2) (ImplComp.props (get x0 x1)) (((List.length (ImplComp.states (get x0 x1))) : Nat) : Int) (IntKind.i64.wrap (x4 + (1 : Int)))) fun r113 =>
    br (!(r113).1) (
     some (false, ())) (
     impl_tmplOk.J42 N R_impl_tmplOk E5 (x0, x1, x3, x4, (ImplTmpl.mk (ImplTmpl.kind x2) (ImplTmpl.tag x2) (ImplTmpl.names x2) (ImplTmpl.args x2) (ImplTmpl.key x2) (ImplTmpl.ons x2) (ImplTmpl.kids x2)), (get x0 x1), (1 : Int), (1 : Int), (1 : Int), ()))) (
    impl_tmplOk.J42 N R_impl_tmplOk E5 (x0, x1, x3, x4, (ImplTmpl.mk (ImplTmpl.kind x2) (ImplTmpl.tag x2) (ImplTmpl.names x2) (ImplTmpl.args x2) (ImplTmpl.key x2) (ImplTmpl.ons x2) (ImplTmpl.kids x2)), (get x0 x1), (1 : Int), (1 : Int), (1 : Int), ()))) (
   br ((ImplTmpl.kind x2) == (4 : Int)) (
   bnd (impl_within N (ImplTmpl.tag x2) (IntKind.i64.wrap (x1 + (1 : Int))) (IntKind.i64.wrap ((((List.length x0) : Nat) : Int) - (1 : Int)))) fun r114 =>
   br (!(r114).1) (
    some (false, ())) (
    gd (decide ((0 : Int) ≤ (ImplTmpl.tag x2))) (
   gd (decide ((ImplTmpl.tag x2) < (((List.length x0) : Nat) : Int))) (
   impl_tmplOk.J42 N R_impl_tmplOk E5 (x0, x1, x3, x4, (ImplTmpl.mk (ImplTmpl.kind x2) (ImplTmpl.tag x2) (ImplTmpl.names x2) (ImplTmpl.args x2) (ImplTmpl.key x2) (ImplTmpl.ons x2) (ImplTmpl.kids x2)), (get x0 x1), (ImplComp.props (get x0 (ImplTmpl.tag x2))), (0 : Int), (0 : Int), ()))))) (
   br ((ImplTmpl.kind x2) == (5 : Int)) (
   bnd (impl_within N (ImplTmpl.tag x2) (0 : Int) (1 : Int)) fun r115 =>
   br (!(r115).1) (
    some (false, ())) (
    impl_tmplOk.J42 N R_impl_tmplOk E5 (x0, x1, x3, x4, (ImplTmpl.mk (ImplTmpl.kind x2) (ImplTmpl.tag x2) (ImplTmpl.names x2) (ImplTmpl.args x2) (ImplTmpl.key x2) (ImplTmpl.ons x2) (ImplTmpl.kids x2)), (get x0 x1), (1 : Int), (0 : Int), (4 : Int), ()))) (
   some (false, ()))))))))) (
  br ((ImplTmpl.kind x2) == (3 : Int)) (
  br ((ImplTmpl.tag x2) != (0 : Int)) (
   some (false, ())) (
   br ((ImplTmpl.kind x2) == (0 : Int)) (
   impl_tmplOk.J42 N R_impl_tmplOk E5 (x0, x1, x3, x4, (ImplTmpl.mk (ImplTmpl.kind x2) (ImplTmpl.tag x2) (ImplTmpl.names x2) (ImplTmpl.args x2) (ImplTmpl.key x2) (ImplTmpl.ons x2) (ImplTmpl.kids x2)), (get x0 x1), (1 : Int), (0 : Int), (0 : Int), ())) (
   br ((ImplTmpl.kind x2) == (1 : Int)) (
   bnd (impl_within N (ImplTmpl.tag x2) (0 : Int) (4 : Int)) fun r116 =>
   br (!(r116).1) (
    some (false, ())) (
    E1 (x0, x1, x3, x4, (ImplTmpl.mk (ImplTmpl.kind x2) (ImplTmpl.tag x2) (ImplTmpl.names x2) (ImplTmpl.args x2) (ImplTmpl.key x2) (ImplTmpl.ons x2) (ImplTmpl.kids x2)), (get x0 x1), (((List.length (ImplTmpl.names x2)) : Nat) : Int), (0 : Int), (4 : Int), (ImplTmpl.names x2), (((List.length (ImplTmpl.names x2)) : Nat) : Int), (0 : Int), ()))) (
   br ((ImplTmpl.kind x2) == (2 : Int)) (
   impl_tmplOk.J42 N R_impl_tmplOk E5 (x0, x1, x3, x4, (ImplTmpl.mk (ImplTmpl.kind x2) (ImplTmpl.tag x2) (ImplTmpl.names x2) (ImplTmpl.args x2) (ImplTmpl.key x2) (ImplTmpl.ons x2) (ImplTmpl.kids x2)), (get x0 x1), (1 : Int), (1 : Int), (2 : Int), ())) (
   br ((ImplTmpl.kind x2) == (3 : Int)) (
   br (decide ((((List.length (ImplTmpl.key x2)) : Nat) : Int) > (0 : Int))) (
    bnd (impl_FormOk N (ImplTmpl.key x2) (ImplComp.props (get x0 x1)) (((List.length (ImplComp.states (get x0 x1))) : Nat) : Int) (IntKind.i64.wrap (x4 + (1 : Int)))) fun r117 =>
    br (!(r117).1) (
     some (false, ())) (
     impl_tmplOk.J42 N R_impl_tmplOk E5 (x0, x1, x3, x4, (ImplTmpl.mk (ImplTmpl.kind x2) (ImplTmpl.tag x2) (ImplTmpl.names x2) (ImplTmpl.args x2) (ImplTmpl.key x2) (ImplTmpl.ons x2) (ImplTmpl.kids x2)), (get x0 x1), (1 : Int), (1 : Int), (1 : Int), ()))) (
    impl_tmplOk.J42 N R_impl_tmplOk E5 (x0, x1, x3, x4, (ImplTmpl.mk (ImplTmpl.kind x2) (ImplTmpl.tag x2) (ImplTmpl.names x2) (ImplTmpl.args x2) (ImplTmpl.key x2) (ImplTmpl.ons x2) (ImplTmpl.kids x2)), (get x0 x1), (1 : Int), (1 : Int), (1 : Int), ()))) (
   br ((ImplTmpl.kind x2) == (4 : Int)) (
   bnd (impl_within N (ImplTmpl.tag x2) (IntKind.i64.wrap (x1 + (1 : Int))) (IntKind.i64.wrap ((((List.length x0) : Nat) : Int) - (1 : Int)))) fun r118 =>
   br (!(r118).1) (
    some (false, ())) (
    gd (decide ((0 : Int) ≤ (ImplTmpl.tag x2))) (
   gd (decide ((ImplTmpl.tag x2) < (((List.length x0) : Nat) : Int))) (
   impl_tmplOk.J42 N R_impl_tmplOk E5 (x0, x1, x3, x4, (ImplTmpl.mk (ImplTmpl.kind x2) (ImplTmpl.tag x2) (ImplTmpl.names x2) (ImplTmpl.args x2) (ImplTmpl.key x2) (ImplTmpl.ons x2) (ImplTmpl.kids x2)), (get x0 x1), (ImplComp.props (get x0 (ImplTmpl.tag x2))), (0 : Int), (0 : Int), ()))))) (
   br ((ImplTmpl.kind x2) == (5 : Int)) (
   bnd (impl_within N (ImplTmpl.tag x2) (0 : Int) (1 : Int)) fun r119 =>
   br (!(r119).1) (
    some (false, ())) (
    impl_tmplOk.J42 N R_impl_tmplOk E5 (x0, x1, x3, x4, (ImplTmpl.mk (ImplTmpl.kind x2) (ImplTmpl.tag x2) (ImplTmpl.names x2) (ImplTmpl.args x2) (ImplTmpl.key x2) (ImplTmpl.ons x2) (ImplTmpl.kids x2)), (get x0 x1), (1 : Int), (0 : Int), (4 : Int), ()))) (
   some (false, ()))))))))) (
  br ((ImplTmpl.kind x2) == (0 : Int)) (
  impl_tmplOk.J42 N R_impl_tmplOk E5 (x0, x1, x3, x4, (ImplTmpl.mk (ImplTmpl.kind x2) (ImplTmpl.tag x2) (ImplTmpl.names x2) (ImplTmpl.args x2) (ImplTmpl.key x2) (ImplTmpl.ons x2) (ImplTmpl.kids x2)), (get x0 x1), (1 : Int), (0 : Int), (0 : Int), ())) (
  br ((ImplTmpl.kind x2) == (1 : Int)) (
  bnd (impl_within N (ImplTmpl.tag x2) (0 : Int) (4 : Int)) fun r120 =>
  br (!(r120).1) (
   some (false, ())) (
   E1 (x0, x1, x3, x4, (ImplTmpl.mk (ImplTmpl.kind x2) (ImplTmpl.tag x2) (ImplTmpl.names x2) (ImplTmpl.args x2) (ImplTmpl.key x2) (ImplTmpl.ons x2) (ImplTmpl.kids x2)), (get x0 x1), (((List.length (ImplTmpl.names x2)) : Nat) : Int), (0 : Int), (4 : Int), (ImplTmpl.names x2), (((List.length (ImplTmpl.names x2)) : Nat) : Int), (0 : Int), ()))) (
  br ((ImplTmpl.kind x2) == (2 : Int)) (
  impl_tmplOk.J42 N R_impl_tmplOk E5 (x0, x1, x3, x4, (ImplTmpl.mk (ImplTmpl.kind x2) (ImplTmpl.tag x2) (ImplTmpl.names x2) (ImplTmpl.args x2) (ImplTmpl.key x2) (ImplTmpl.ons x2) (ImplTmpl.kids x2)), (get x0 x1), (1 : Int), (1 : Int), (2 : Int), ())) (
  br ((ImplTmpl.kind x2) == (3 : Int)) (
  br (decide ((((List.length (ImplTmpl.key x2)) : Nat) : Int) > (0 : Int))) (
   bnd (impl_FormOk N (ImplTmpl.key x2) (ImplComp.props (get x0 x1)) (((List.length (ImplComp.states (get x0 x1))) : Nat) : Int) (IntKind.i64.wrap (x4 + (1 : Int)))) fun r121 =>
   br (!(r121).1) (
    some (false, ())) (
    impl_tmplOk.J42 N R_impl_tmplOk E5 (x0, x1, x3, x4, (ImplTmpl.mk (ImplTmpl.kind x2) (ImplTmpl.tag x2) (ImplTmpl.names x2) (ImplTmpl.args x2) (ImplTmpl.key x2) (ImplTmpl.ons x2) (ImplTmpl.kids x2)), (get x0 x1), (1 : Int), (1 : Int), (1 : Int), ()))) (
   impl_tmplOk.J42 N R_impl_tmplOk E5 (x0, x1, x3, x4, (ImplTmpl.mk (ImplTmpl.kind x2) (ImplTmpl.tag x2) (ImplTmpl.names x2) (ImplTmpl.args x2) (ImplTmpl.key x2) (ImplTmpl.ons x2) (ImplTmpl.kids x2)), (get x0 x1), (1 : Int), (1 : Int), (1 : Int), ()))) (
  br ((ImplTmpl.kind x2) == (4 : Int)) (
  bnd (impl_within N (ImplTmpl.tag x2) (IntKind.i64.wrap (x1 + (1 : Int))) (IntKind.i64.wrap ((((List.length x0) : Nat) : Int) - (1 : Int)))) fun r122 =>
  br (!(r122).1) (
   some (false, ())) (
   gd (decide ((0 : Int) ≤ (ImplTmpl.tag x2))) (
  gd (decide ((ImplTmpl.tag x2) < (((List.length x0) : Nat) : Int))) (
  impl_tmplOk.J42 N R_impl_tmplOk E5 (x0, x1, x3, x4, (ImplTmpl.mk (ImplTmpl.kind x2) (ImplTmpl.tag x2) (ImplTmpl.names x2) (ImplTmpl.args x2) (ImplTmpl.key x2) (ImplTmpl.ons x2) (ImplTmpl.kids x2)), (get x0 x1), (ImplComp.props (get x0 (ImplTmpl.tag x2))), (0 : Int), (0 : Int), ()))))) (
  br ((ImplTmpl.kind x2) == (5 : Int)) (
  bnd (impl_within N (ImplTmpl.tag x2) (0 : Int) (1 : Int)) fun r123 =>
  br (!(r123).1) (
   some (false, ())) (
   impl_tmplOk.J42 N R_impl_tmplOk E5 (x0, x1, x3, x4, (ImplTmpl.mk (ImplTmpl.kind x2) (ImplTmpl.tag x2) (ImplTmpl.names x2) (ImplTmpl.args x2) (ImplTmpl.key x2) (ImplTmpl.ons x2) (ImplTmpl.kids x2)), (get x0 x1), (1 : Int), (0 : Int), (4 : Int), ()))) (
  some (false, ())))))))))))))))

def impl_tmplOk.L5 (N : Nat) (R_impl_tmplOk : List (ImplComp) → Int → ImplTmpl → Int → Int → Option (Bool × Unit)) : Nat → (List (ImplComp)) × Int × Int × Int × (List (ImplTmpl)) × Int × Int × Unit → Option (Bool × Unit)
  | 0, _ => none
  | n + 1, x => impl_tmplOk.B5 N R_impl_tmplOk (impl_tmplOk.L5 N R_impl_tmplOk n) x

def impl_tmplOk.L3 (N : Nat) (R_impl_tmplOk : List (ImplComp) → Int → ImplTmpl → Int → Int → Option (Bool × Unit)) : Nat → (List (ImplComp)) × Int × Int × Int × ImplTmpl × ImplComp × Int × Int × Int × (List (ImplOn)) × Int × Int × Unit → Option (Bool × Unit)
  | 0, _ => none
  | n + 1, x => impl_tmplOk.B3 N R_impl_tmplOk (impl_tmplOk.L3 N R_impl_tmplOk n) (impl_tmplOk.L5 N R_impl_tmplOk N) x

def impl_tmplOk.L1 (N : Nat) (R_impl_tmplOk : List (ImplComp) → Int → ImplTmpl → Int → Int → Option (Bool × Unit)) : Nat → (List (ImplComp)) × Int × Int × Int × ImplTmpl × ImplComp × Int × Int × Int × (List (Int)) × Int × Int × Unit → Option (Bool × Unit)
  | 0, _ => none
  | n + 1, x => impl_tmplOk.B1 N R_impl_tmplOk (impl_tmplOk.L1 N R_impl_tmplOk n) (impl_tmplOk.L3 N R_impl_tmplOk N) x

def impl_tmplOk.R (N : Nat) : Nat → List (ImplComp) → Int → ImplTmpl → Int → Int → Option (Bool × Unit)
  | 0, _, _, _, _, _ => none
  | d + 1, x0, x1, x2, x3, x4 => impl_tmplOk.B N (impl_tmplOk.R N d) (impl_tmplOk.L1 N (impl_tmplOk.R N d) N) (impl_tmplOk.L5 N (impl_tmplOk.R N d) N) x0 x1 x2 x3 x4

def impl_tmplOk (N : Nat) (x0 : List (ImplComp)) (x1 : Int) (x2 : ImplTmpl) (x3 : Int) (x4 : Int) : Option (Bool × Unit) := impl_tmplOk.R N N x0 x1 x2 x3 x4

def impl_tmplSize.B0 (N : Nat) (R_impl_tmplSize : List (ImplComp) → ImplTmpl → Option (Int × Unit)) (G0 : (List (ImplComp)) × ImplTmpl × Int × (List (ImplTmpl)) × Int × Int × Unit → Option (Int × Unit)) : (List (ImplComp)) × ImplTmpl × Int × (List (ImplTmpl)) × Int × Int × Unit → Option (Int × Unit) :=
fun (x2, x3, x4, x5, x6, x7, ()) =>
 br (decide (x7 < x6)) (
  gd (decide ((0 : Int) ≤ x7)) (
  gd (decide (x7 < (((List.length x5) : Nat) : Int))) (
  bnd (R_impl_tmplSize x2 (ImplTmpl.mk (ImplTmpl.kind (get x5 x7)) (ImplTmpl.tag (get x5 x7)) (ImplTmpl.names (get x5 x7)) (ImplTmpl.args (get x5 x7)) (ImplTmpl.key (get x5 x7)) (ImplTmpl.ons (get x5 x7)) (ImplTmpl.kids (get x5 x7)))) fun r9 =>
  G0 (x2, (ImplTmpl.mk (ImplTmpl.kind x3) (ImplTmpl.tag x3) (ImplTmpl.names x3) (ImplTmpl.args x3) (ImplTmpl.key x3) (ImplTmpl.ons x3) (ImplTmpl.kids x3)), (IntKind.i64.wrap (x4 + (r9).1)), x5, x6, (IntKind.i64.wrap (x7 + (1 : Int))), ())))) (
  br ((ImplTmpl.kind x3) == (3 : Int)) (
  some ((IntKind.i64.wrap ((IntKind.i64.wrap (x4 * (4 : Int))) + (1 : Int))), ())) (
  br ((ImplTmpl.kind x3) == (4 : Int)) (
  gd (decide ((0 : Int) ≤ (ImplTmpl.tag x3))) (
  gd (decide ((ImplTmpl.tag x3) < (((List.length x2) : Nat) : Int))) (
  bnd (R_impl_tmplSize x2 (ImplTmpl.mk (ImplComp.body_Kind (get x2 (ImplTmpl.tag x3))) (ImplComp.body_Tag (get x2 (ImplTmpl.tag x3))) (ImplComp.body_Names (get x2 (ImplTmpl.tag x3))) (ImplComp.body_Args (get x2 (ImplTmpl.tag x3))) (ImplComp.body_Key (get x2 (ImplTmpl.tag x3))) (ImplComp.body_Ons (get x2 (ImplTmpl.tag x3))) (ImplComp.body_Kids (get x2 (ImplTmpl.tag x3))))) fun r10 =>
  some ((IntKind.i64.wrap ((IntKind.i64.wrap (x4 + (r10).1)) + (1 : Int))), ())))) (
  some ((IntKind.i64.wrap (x4 + (1 : Int))), ()))))

def impl_tmplSize.B (N : Nat) (R_impl_tmplSize : List (ImplComp) → ImplTmpl → Option (Int × Unit)) (E0 : (List (ImplComp)) × ImplTmpl × Int × (List (ImplTmpl)) × Int × Int × Unit → Option (Int × Unit)) (x0 : List (ImplComp)) (x1 : ImplTmpl) : Option (Int × Unit) :=
 E0 (x0, (ImplTmpl.mk (ImplTmpl.kind x1) (ImplTmpl.tag x1) (ImplTmpl.names x1) (ImplTmpl.args x1) (ImplTmpl.key x1) (ImplTmpl.ons x1) (ImplTmpl.kids x1)), (0 : Int), (ImplTmpl.kids x1), (((List.length (ImplTmpl.kids x1)) : Nat) : Int), (0 : Int), ())

def impl_tmplSize.L0 (N : Nat) (R_impl_tmplSize : List (ImplComp) → ImplTmpl → Option (Int × Unit)) : Nat → (List (ImplComp)) × ImplTmpl × Int × (List (ImplTmpl)) × Int × Int × Unit → Option (Int × Unit)
  | 0, _ => none
  | n + 1, x => impl_tmplSize.B0 N R_impl_tmplSize (impl_tmplSize.L0 N R_impl_tmplSize n) x

def impl_tmplSize.R (N : Nat) : Nat → List (ImplComp) → ImplTmpl → Option (Int × Unit)
  | 0, _, _ => none
  | d + 1, x0, x1 => impl_tmplSize.B N (impl_tmplSize.R N d) (impl_tmplSize.L0 N (impl_tmplSize.R N d) N) x0 x1

def impl_tmplSize (N : Nat) (x0 : List (ImplComp)) (x1 : ImplTmpl) : Option (Int × Unit) := impl_tmplSize.R N N x0 x1

def impl_ProgOk.B2 (N : Nat) (G2 : (List (ImplComp)) × Int × Int × Unit → Option (Bool × Unit)) : (List (ImplComp)) × Int × Int × Unit → Option (Bool × Unit) :=
fun (x7, x8, x9, ()) =>
 br (decide (x9 < x8)) (
  gd (decide ((0 : Int) ≤ x9)) (
  gd (decide (x9 < (((List.length x7) : Nat) : Int))) (
  bnd (impl_tmplOk N x7 x9 (ImplTmpl.mk (ImplComp.body_Kind (get x7 x9)) (ImplComp.body_Tag (get x7 x9)) (ImplComp.body_Names (get x7 x9)) (ImplComp.body_Args (get x7 x9)) (ImplComp.body_Key (get x7 x9)) (ImplComp.body_Ons (get x7 x9)) (ImplComp.body_Kids (get x7 x9))) (1 : Int) (0 : Int)) fun r11 =>
  br (!(r11).1) (
   some (false, ())) (
   G2 (x7, x8, (IntKind.i64.wrap (x9 + (1 : Int))), ()))))) (
  gd (decide ((0 : Int) < (((List.length x7) : Nat) : Int))) (
 bnd (impl_tmplSize N x7 (ImplTmpl.mk (ImplComp.body_Kind (get x7 (0 : Int))) (ImplComp.body_Tag (get x7 (0 : Int))) (ImplComp.body_Names (get x7 (0 : Int))) (ImplComp.body_Args (get x7 (0 : Int))) (ImplComp.body_Key (get x7 (0 : Int))) (ImplComp.body_Ons (get x7 (0 : Int))) (ImplComp.body_Kids (get x7 (0 : Int))))) fun r12 =>
 some ((decide ((r12).1 < (200 : Int))), ())))

def impl_ProgOk.B0 (N : Nat) (G0 : (List (ImplComp)) × Int × Int × Unit → Option (Bool × Unit)) (E2 : (List (ImplComp)) × Int × Int × Unit → Option (Bool × Unit)) : (List (ImplComp)) × Int × Int × Unit → Option (Bool × Unit) :=
fun (x2, x3, x4, ()) =>
 br (decide (x4 < x3)) (
  bnd (impl_compOk N x2 x4) fun r6 =>
  br (!(r6).1) (
   some (false, ())) (
   G0 (x2, x3, (IntKind.i64.wrap (x4 + (1 : Int))), ()))) (
  E2 (x2, (((List.length x2) : Nat) : Int), (0 : Int), ()))

def impl_ProgOk.B (N : Nat) (E0 : (List (ImplComp)) × Int × Int × Unit → Option (Bool × Unit)) (x0 : List (ImplComp)) : Option (Bool × Unit) :=
 bnd (impl_within N (((List.length x0) : Nat) : Int) (1 : Int) (4 : Int)) fun r1 =>
 br (!(r1).1) (
  some (false, ())) (
  gd (decide ((0 : Int) < (((List.length x0) : Nat) : Int))) (
 br ((ImplComp.props (get x0 (0 : Int))) != (0 : Int)) (
  some (false, ())) (
  E0 (x0, (((List.length x0) : Nat) : Int), (0 : Int), ()))))

def impl_ProgOk.L2 (N : Nat) : Nat → (List (ImplComp)) × Int × Int × Unit → Option (Bool × Unit)
  | 0, _ => none
  | n + 1, x => impl_ProgOk.B2 N (impl_ProgOk.L2 N n) x

def impl_ProgOk.L0 (N : Nat) : Nat → (List (ImplComp)) × Int × Int × Unit → Option (Bool × Unit)
  | 0, _ => none
  | n + 1, x => impl_ProgOk.B0 N (impl_ProgOk.L0 N n) (impl_ProgOk.L2 N N) x

def impl_ProgOk (N : Nat) (x0 : List (ImplComp)) : Option (Bool × Unit) := impl_ProgOk.B N (impl_ProgOk.L0 N N) x0

def laws_eqValue.B (N : Nat) (x0 : ImplValue) (x1 : ImplValue) : Option (Bool × Unit) :=
 br ((ImplValue.kind x0) != (ImplValue.kind x1)) (
  some (false, ())) (
  br ((ImplValue.num x0) != (ImplValue.num x1)) (
  some (false, ())) (
  br (!((ImplValue.text x0) == (ImplValue.text x1))) (
  some (false, ())) (
  some (true, ()))))

def laws_eqValue (N : Nat) (x0 : ImplValue) (x1 : ImplValue) : Option (Bool × Unit) := laws_eqValue.B N x0 x1

def laws_eqValueS.B0 (N : Nat) (G0 : (List (ImplValue)) × (List (ImplValue)) × Int × Unit → Option (Bool × Unit)) : (List (ImplValue)) × (List (ImplValue)) × Int × Unit → Option (Bool × Unit) :=
fun (x2, x3, x4, ()) =>
 br (decide (x4 < (((List.length x2) : Nat) : Int))) (
  gd (decide ((0 : Int) ≤ x4)) (
  gd (decide (x4 < (((List.length x2) : Nat) : Int))) (
  gd (decide ((0 : Int) ≤ x4)) (
  gd (decide (x4 < (((List.length x3) : Nat) : Int))) (
  bnd (laws_eqValue N (get x2 x4) (get x3 x4)) fun r6 =>
  br (!(r6).1) (
   some (false, ())) (
   G0 (x2, x3, (IntKind.i64.wrap (x4 + (1 : Int))), ()))))))) (
  some (true, ()))

def laws_eqValueS.B (N : Nat) (E0 : (List (ImplValue)) × (List (ImplValue)) × Int × Unit → Option (Bool × Unit)) (x0 : List (ImplValue)) (x1 : List (ImplValue)) : Option (Bool × Unit) :=
 br ((((List.length x0) : Nat) : Int) != (((List.length x1) : Nat) : Int)) (
  some (false, ())) (
  E0 (x0, x1, (0 : Int), ()))

def laws_eqValueS.L0 (N : Nat) : Nat → (List (ImplValue)) × (List (ImplValue)) × Int × Unit → Option (Bool × Unit)
  | 0, _ => none
  | n + 1, x => laws_eqValueS.B0 N (laws_eqValueS.L0 N n) x

def laws_eqValueS (N : Nat) (x0 : List (ImplValue)) (x1 : List (ImplValue)) : Option (Bool × Unit) := laws_eqValueS.B N (laws_eqValueS.L0 N N) x0 x1

def laws_eqStep.B (N : Nat) (x0 : ImplStep) (x1 : ImplStep) : Option (Bool × Unit) :=
 br ((ImplStep.kind x0) != (ImplStep.kind x1)) (
  some (false, ())) (
  br ((ImplStep.a x0) != (ImplStep.a x1)) (
  some (false, ())) (
  bnd (laws_eqValue N (ImplValue.mk (ImplStep.val_Kind x0) (ImplStep.val_Num x0) (ImplStep.val_Text x0)) (ImplValue.mk (ImplStep.val_Kind x1) (ImplStep.val_Num x1) (ImplStep.val_Text x1))) fun r2 =>
 br (!(r2).1) (
  some (false, ())) (
  some (true, ()))))

def laws_eqStep (N : Nat) (x0 : ImplStep) (x1 : ImplStep) : Option (Bool × Unit) := laws_eqStep.B N x0 x1

def laws_eqStepS.B0 (N : Nat) (G0 : (List (ImplStep)) × (List (ImplStep)) × Int × Unit → Option (Bool × Unit)) : (List (ImplStep)) × (List (ImplStep)) × Int × Unit → Option (Bool × Unit) :=
fun (x2, x3, x4, ()) =>
 br (decide (x4 < (((List.length x2) : Nat) : Int))) (
  gd (decide ((0 : Int) ≤ x4)) (
  gd (decide (x4 < (((List.length x2) : Nat) : Int))) (
  gd (decide ((0 : Int) ≤ x4)) (
  gd (decide (x4 < (((List.length x3) : Nat) : Int))) (
  bnd (laws_eqStep N (get x2 x4) (get x3 x4)) fun r6 =>
  br (!(r6).1) (
   some (false, ())) (
   G0 (x2, x3, (IntKind.i64.wrap (x4 + (1 : Int))), ()))))))) (
  some (true, ()))

def laws_eqStepS.B (N : Nat) (E0 : (List (ImplStep)) × (List (ImplStep)) × Int × Unit → Option (Bool × Unit)) (x0 : List (ImplStep)) (x1 : List (ImplStep)) : Option (Bool × Unit) :=
 br ((((List.length x0) : Nat) : Int) != (((List.length x1) : Nat) : Int)) (
  some (false, ())) (
  E0 (x0, x1, (0 : Int), ()))

def laws_eqStepS.L0 (N : Nat) : Nat → (List (ImplStep)) × (List (ImplStep)) × Int × Unit → Option (Bool × Unit)
  | 0, _ => none
  | n + 1, x => laws_eqStepS.B0 N (laws_eqStepS.L0 N n) x

def laws_eqStepS (N : Nat) (x0 : List (ImplStep)) (x1 : List (ImplStep)) : Option (Bool × Unit) := laws_eqStepS.B N (laws_eqStepS.L0 N N) x0 x1

def laws_eqSet.B (N : Nat) (x0 : ImplSet) (x1 : ImplSet) : Option (Bool × Unit) :=
 br ((ImplSet.state x0) != (ImplSet.state x1)) (
  some (false, ())) (
  bnd (laws_eqStepS N (ImplSet.form x0) (ImplSet.form x1)) fun r2 =>
 br (!(r2).1) (
  some (false, ())) (
  some (true, ())))

def laws_eqSet (N : Nat) (x0 : ImplSet) (x1 : ImplSet) : Option (Bool × Unit) := laws_eqSet.B N x0 x1

def laws_eqSetS.B0 (N : Nat) (G0 : (List (ImplSet)) × (List (ImplSet)) × Int × Unit → Option (Bool × Unit)) : (List (ImplSet)) × (List (ImplSet)) × Int × Unit → Option (Bool × Unit) :=
fun (x2, x3, x4, ()) =>
 br (decide (x4 < (((List.length x2) : Nat) : Int))) (
  gd (decide ((0 : Int) ≤ x4)) (
  gd (decide (x4 < (((List.length x2) : Nat) : Int))) (
  gd (decide ((0 : Int) ≤ x4)) (
  gd (decide (x4 < (((List.length x3) : Nat) : Int))) (
  bnd (laws_eqSet N (get x2 x4) (get x3 x4)) fun r6 =>
  br (!(r6).1) (
   some (false, ())) (
   G0 (x2, x3, (IntKind.i64.wrap (x4 + (1 : Int))), ()))))))) (
  some (true, ()))

def laws_eqSetS.B (N : Nat) (E0 : (List (ImplSet)) × (List (ImplSet)) × Int × Unit → Option (Bool × Unit)) (x0 : List (ImplSet)) (x1 : List (ImplSet)) : Option (Bool × Unit) :=
 br ((((List.length x0) : Nat) : Int) != (((List.length x1) : Nat) : Int)) (
  some (false, ())) (
  E0 (x0, x1, (0 : Int), ()))

def laws_eqSetS.L0 (N : Nat) : Nat → (List (ImplSet)) × (List (ImplSet)) × Int × Unit → Option (Bool × Unit)
  | 0, _ => none
  | n + 1, x => laws_eqSetS.B0 N (laws_eqSetS.L0 N n) x

def laws_eqSetS (N : Nat) (x0 : List (ImplSet)) (x1 : List (ImplSet)) : Option (Bool × Unit) := laws_eqSetS.B N (laws_eqSetS.L0 N N) x0 x1

def laws_eqSetSS.B0 (N : Nat) (G0 : (List (List (ImplSet))) × (List (List (ImplSet))) × Int × Unit → Option (Bool × Unit)) : (List (List (ImplSet))) × (List (List (ImplSet))) × Int × Unit → Option (Bool × Unit) :=
fun (x2, x3, x4, ()) =>
 br (decide (x4 < (((List.length x2) : Nat) : Int))) (
  gd (decide ((0 : Int) ≤ x4)) (
  gd (decide (x4 < (((List.length x2) : Nat) : Int))) (
  gd (decide ((0 : Int) ≤ x4)) (
  gd (decide (x4 < (((List.length x3) : Nat) : Int))) (
  bnd (laws_eqSetS N (get x2 x4) (get x3 x4)) fun r6 =>
  br (!(r6).1) (
   some (false, ())) (
   G0 (x2, x3, (IntKind.i64.wrap (x4 + (1 : Int))), ()))))))) (
  some (true, ()))

def laws_eqSetSS.B (N : Nat) (E0 : (List (List (ImplSet))) × (List (List (ImplSet))) × Int × Unit → Option (Bool × Unit)) (x0 : List (List (ImplSet))) (x1 : List (List (ImplSet))) : Option (Bool × Unit) :=
 br ((((List.length x0) : Nat) : Int) != (((List.length x1) : Nat) : Int)) (
  some (false, ())) (
  E0 (x0, x1, (0 : Int), ()))

def laws_eqSetSS.L0 (N : Nat) : Nat → (List (List (ImplSet))) × (List (List (ImplSet))) × Int × Unit → Option (Bool × Unit)
  | 0, _ => none
  | n + 1, x => laws_eqSetSS.B0 N (laws_eqSetSS.L0 N n) x

def laws_eqSetSS (N : Nat) (x0 : List (List (ImplSet))) (x1 : List (List (ImplSet))) : Option (Bool × Unit) := laws_eqSetSS.B N (laws_eqSetSS.L0 N N) x0 x1

def laws_eqIntS.B0 (N : Nat) (G0 : (List (Int)) × (List (Int)) × Int × Unit → Option (Bool × Unit)) : (List (Int)) × (List (Int)) × Int × Unit → Option (Bool × Unit) :=
fun (x2, x3, x4, ()) =>
 br (decide (x4 < (((List.length x2) : Nat) : Int))) (
  gd (decide ((0 : Int) ≤ x4)) (
  gd (decide (x4 < (((List.length x2) : Nat) : Int))) (
  gd (decide ((0 : Int) ≤ x4)) (
  gd (decide (x4 < (((List.length x3) : Nat) : Int))) (
  br ((get x2 x4) != (get x3 x4)) (
   some (false, ())) (
   G0 (x2, x3, (IntKind.i64.wrap (x4 + (1 : Int))), ()))))))) (
  some (true, ()))

def laws_eqIntS.B (N : Nat) (E0 : (List (Int)) × (List (Int)) × Int × Unit → Option (Bool × Unit)) (x0 : List (Int)) (x1 : List (Int)) : Option (Bool × Unit) :=
 br ((((List.length x0) : Nat) : Int) != (((List.length x1) : Nat) : Int)) (
  some (false, ())) (
  E0 (x0, x1, (0 : Int), ()))

def laws_eqIntS.L0 (N : Nat) : Nat → (List (Int)) × (List (Int)) × Int × Unit → Option (Bool × Unit)
  | 0, _ => none
  | n + 1, x => laws_eqIntS.B0 N (laws_eqIntS.L0 N n) x

def laws_eqIntS (N : Nat) (x0 : List (Int)) (x1 : List (Int)) : Option (Bool × Unit) := laws_eqIntS.B N (laws_eqIntS.L0 N N) x0 x1

def laws_eqStepSS.B0 (N : Nat) (G0 : (List (List (ImplStep))) × (List (List (ImplStep))) × Int × Unit → Option (Bool × Unit)) : (List (List (ImplStep))) × (List (List (ImplStep))) × Int × Unit → Option (Bool × Unit) :=
fun (x2, x3, x4, ()) =>
 br (decide (x4 < (((List.length x2) : Nat) : Int))) (
  gd (decide ((0 : Int) ≤ x4)) (
  gd (decide (x4 < (((List.length x2) : Nat) : Int))) (
  gd (decide ((0 : Int) ≤ x4)) (
  gd (decide (x4 < (((List.length x3) : Nat) : Int))) (
  bnd (laws_eqStepS N (get x2 x4) (get x3 x4)) fun r6 =>
  br (!(r6).1) (
   some (false, ())) (
   G0 (x2, x3, (IntKind.i64.wrap (x4 + (1 : Int))), ()))))))) (
  some (true, ()))

def laws_eqStepSS.B (N : Nat) (E0 : (List (List (ImplStep))) × (List (List (ImplStep))) × Int × Unit → Option (Bool × Unit)) (x0 : List (List (ImplStep))) (x1 : List (List (ImplStep))) : Option (Bool × Unit) :=
 br ((((List.length x0) : Nat) : Int) != (((List.length x1) : Nat) : Int)) (
  some (false, ())) (
  E0 (x0, x1, (0 : Int), ()))

def laws_eqStepSS.L0 (N : Nat) : Nat → (List (List (ImplStep))) × (List (List (ImplStep))) × Int × Unit → Option (Bool × Unit)
  | 0, _ => none
  | n + 1, x => laws_eqStepSS.B0 N (laws_eqStepSS.L0 N n) x

def laws_eqStepSS (N : Nat) (x0 : List (List (ImplStep))) (x1 : List (List (ImplStep))) : Option (Bool × Unit) := laws_eqStepSS.B N (laws_eqStepSS.L0 N N) x0 x1

def laws_eqOn.B (N : Nat) (x0 : ImplOn) (x1 : ImplOn) : Option (Bool × Unit) :=
 br ((ImplOn.event x0) != (ImplOn.event x1)) (
  some (false, ())) (
  br ((ImplOn.act x0) != (ImplOn.act x1)) (
  some (false, ())) (
  some (true, ())))

def laws_eqOn (N : Nat) (x0 : ImplOn) (x1 : ImplOn) : Option (Bool × Unit) := laws_eqOn.B N x0 x1

def laws_eqOnS.B0 (N : Nat) (G0 : (List (ImplOn)) × (List (ImplOn)) × Int × Unit → Option (Bool × Unit)) : (List (ImplOn)) × (List (ImplOn)) × Int × Unit → Option (Bool × Unit) :=
fun (x2, x3, x4, ()) =>
 br (decide (x4 < (((List.length x2) : Nat) : Int))) (
  gd (decide ((0 : Int) ≤ x4)) (
  gd (decide (x4 < (((List.length x2) : Nat) : Int))) (
  gd (decide ((0 : Int) ≤ x4)) (
  gd (decide (x4 < (((List.length x3) : Nat) : Int))) (
  bnd (laws_eqOn N (get x2 x4) (get x3 x4)) fun r6 =>
  br (!(r6).1) (
   some (false, ())) (
   G0 (x2, x3, (IntKind.i64.wrap (x4 + (1 : Int))), ()))))))) (
  some (true, ()))

def laws_eqOnS.B (N : Nat) (E0 : (List (ImplOn)) × (List (ImplOn)) × Int × Unit → Option (Bool × Unit)) (x0 : List (ImplOn)) (x1 : List (ImplOn)) : Option (Bool × Unit) :=
 br ((((List.length x0) : Nat) : Int) != (((List.length x1) : Nat) : Int)) (
  some (false, ())) (
  E0 (x0, x1, (0 : Int), ()))

def laws_eqOnS.L0 (N : Nat) : Nat → (List (ImplOn)) × (List (ImplOn)) × Int × Unit → Option (Bool × Unit)
  | 0, _ => none
  | n + 1, x => laws_eqOnS.B0 N (laws_eqOnS.L0 N n) x

def laws_eqOnS (N : Nat) (x0 : List (ImplOn)) (x1 : List (ImplOn)) : Option (Bool × Unit) := laws_eqOnS.B N (laws_eqOnS.L0 N N) x0 x1

def laws_eqTmplS.B0 (N : Nat) (R_laws_eqTmplS : List (ImplTmpl) → List (ImplTmpl) → Option (Bool × Unit)) (R_laws_eqTmpl : ImplTmpl → ImplTmpl → Option (Bool × Unit)) (G0 : (List (ImplTmpl)) × (List (ImplTmpl)) × Int × Unit → Option (Bool × Unit)) : (List (ImplTmpl)) × (List (ImplTmpl)) × Int × Unit → Option (Bool × Unit) :=
fun (x2, x3, x4, ()) =>
 br (decide (x4 < (((List.length x2) : Nat) : Int))) (
  gd (decide ((0 : Int) ≤ x4)) (
  gd (decide (x4 < (((List.length x2) : Nat) : Int))) (
  gd (decide ((0 : Int) ≤ x4)) (
  gd (decide (x4 < (((List.length x3) : Nat) : Int))) (
  bnd (R_laws_eqTmpl (ImplTmpl.mk (ImplTmpl.kind (get x2 x4)) (ImplTmpl.tag (get x2 x4)) (ImplTmpl.names (get x2 x4)) (ImplTmpl.args (get x2 x4)) (ImplTmpl.key (get x2 x4)) (ImplTmpl.ons (get x2 x4)) (ImplTmpl.kids (get x2 x4))) (ImplTmpl.mk (ImplTmpl.kind (get x3 x4)) (ImplTmpl.tag (get x3 x4)) (ImplTmpl.names (get x3 x4)) (ImplTmpl.args (get x3 x4)) (ImplTmpl.key (get x3 x4)) (ImplTmpl.ons (get x3 x4)) (ImplTmpl.kids (get x3 x4)))) fun r6 =>
  br (!(r6).1) (
   some (false, ())) (
   G0 (x2, x3, (IntKind.i64.wrap (x4 + (1 : Int))), ()))))))) (
  some (true, ()))

def laws_eqTmplS.B (N : Nat) (R_laws_eqTmplS : List (ImplTmpl) → List (ImplTmpl) → Option (Bool × Unit)) (R_laws_eqTmpl : ImplTmpl → ImplTmpl → Option (Bool × Unit)) (E0 : (List (ImplTmpl)) × (List (ImplTmpl)) × Int × Unit → Option (Bool × Unit)) (x0 : List (ImplTmpl)) (x1 : List (ImplTmpl)) : Option (Bool × Unit) :=
 br ((((List.length x0) : Nat) : Int) != (((List.length x1) : Nat) : Int)) (
  some (false, ())) (
  E0 (x0, x1, (0 : Int), ()))

def laws_eqTmplS.L0 (N : Nat) (R_laws_eqTmplS : List (ImplTmpl) → List (ImplTmpl) → Option (Bool × Unit)) (R_laws_eqTmpl : ImplTmpl → ImplTmpl → Option (Bool × Unit)) : Nat → (List (ImplTmpl)) × (List (ImplTmpl)) × Int × Unit → Option (Bool × Unit)
  | 0, _ => none
  | n + 1, x => laws_eqTmplS.B0 N R_laws_eqTmplS R_laws_eqTmpl (laws_eqTmplS.L0 N R_laws_eqTmplS R_laws_eqTmpl n) x

def laws_eqTmpl.B (N : Nat) (R_laws_eqTmplS : List (ImplTmpl) → List (ImplTmpl) → Option (Bool × Unit)) (R_laws_eqTmpl : ImplTmpl → ImplTmpl → Option (Bool × Unit)) (x0 : ImplTmpl) (x1 : ImplTmpl) : Option (Bool × Unit) :=
 br ((ImplTmpl.kind x0) != (ImplTmpl.kind x1)) (
  some (false, ())) (
  br ((ImplTmpl.tag x0) != (ImplTmpl.tag x1)) (
  some (false, ())) (
  bnd (laws_eqIntS N (ImplTmpl.names x0) (ImplTmpl.names x1)) fun r2 =>
 br (!(r2).1) (
  some (false, ())) (
  bnd (laws_eqStepSS N (ImplTmpl.args x0) (ImplTmpl.args x1)) fun r3 =>
 br (!(r3).1) (
  some (false, ())) (
  bnd (laws_eqStepS N (ImplTmpl.key x0) (ImplTmpl.key x1)) fun r4 =>
 br (!(r4).1) (
  some (false, ())) (
  bnd (laws_eqOnS N (ImplTmpl.ons x0) (ImplTmpl.ons x1)) fun r5 =>
 br (!(r5).1) (
  some (false, ())) (
  bnd (R_laws_eqTmplS (ImplTmpl.kids x0) (ImplTmpl.kids x1)) fun r6 =>
 br (!(r6).1) (
  some (false, ())) (
  some (true, ()))))))))

mutual
def laws_eqTmplS.R (N : Nat) : Nat → List (ImplTmpl) → List (ImplTmpl) → Option (Bool × Unit)
  | 0, _, _ => none
  | d + 1, x0, x1 => laws_eqTmplS.B N (laws_eqTmplS.R N d) (laws_eqTmpl.R N d) (laws_eqTmplS.L0 N (laws_eqTmplS.R N d) (laws_eqTmpl.R N d) N) x0 x1

def laws_eqTmpl.R (N : Nat) : Nat → ImplTmpl → ImplTmpl → Option (Bool × Unit)
  | 0, _, _ => none
  | d + 1, x0, x1 => laws_eqTmpl.B N (laws_eqTmplS.R N d) (laws_eqTmpl.R N d) x0 x1

end

def laws_eqTmplS (N : Nat) (x0 : List (ImplTmpl)) (x1 : List (ImplTmpl)) : Option (Bool × Unit) := laws_eqTmplS.R N N x0 x1

def laws_eqTmpl (N : Nat) (x0 : ImplTmpl) (x1 : ImplTmpl) : Option (Bool × Unit) := laws_eqTmpl.R N N x0 x1

def laws_eqComp.B (N : Nat) (x0 : ImplComp) (x1 : ImplComp) : Option (Bool × Unit) :=
 br ((ImplComp.props x0) != (ImplComp.props x1)) (
  some (false, ())) (
  bnd (laws_eqValueS N (ImplComp.states x0) (ImplComp.states x1)) fun r2 =>
 br (!(r2).1) (
  some (false, ())) (
  bnd (laws_eqSetSS N (ImplComp.acts x0) (ImplComp.acts x1)) fun r3 =>
 br (!(r3).1) (
  some (false, ())) (
  bnd (laws_eqTmpl N (ImplTmpl.mk (ImplComp.body_Kind x0) (ImplComp.body_Tag x0) (ImplComp.body_Names x0) (ImplComp.body_Args x0) (ImplComp.body_Key x0) (ImplComp.body_Ons x0) (ImplComp.body_Kids x0)) (ImplTmpl.mk (ImplComp.body_Kind x1) (ImplComp.body_Tag x1) (ImplComp.body_Names x1) (ImplComp.body_Args x1) (ImplComp.body_Key x1) (ImplComp.body_Ons x1) (ImplComp.body_Kids x1))) fun r4 =>
 br (!(r4).1) (
  some (false, ())) (
  some (true, ())))))

def laws_eqComp (N : Nat) (x0 : ImplComp) (x1 : ImplComp) : Option (Bool × Unit) := laws_eqComp.B N x0 x1

def laws_eqCompS.B0 (N : Nat) (G0 : (List (ImplComp)) × (List (ImplComp)) × Int × Unit → Option (Bool × Unit)) : (List (ImplComp)) × (List (ImplComp)) × Int × Unit → Option (Bool × Unit) :=
fun (x2, x3, x4, ()) =>
 br (decide (x4 < (((List.length x2) : Nat) : Int))) (
  gd (decide ((0 : Int) ≤ x4)) (
  gd (decide (x4 < (((List.length x2) : Nat) : Int))) (
  gd (decide ((0 : Int) ≤ x4)) (
  gd (decide (x4 < (((List.length x3) : Nat) : Int))) (
  bnd (laws_eqComp N (get x2 x4) (get x3 x4)) fun r6 =>
  br (!(r6).1) (
   some (false, ())) (
   G0 (x2, x3, (IntKind.i64.wrap (x4 + (1 : Int))), ()))))))) (
  some (true, ()))

def laws_eqCompS.B (N : Nat) (E0 : (List (ImplComp)) × (List (ImplComp)) × Int × Unit → Option (Bool × Unit)) (x0 : List (ImplComp)) (x1 : List (ImplComp)) : Option (Bool × Unit) :=
 br ((((List.length x0) : Nat) : Int) != (((List.length x1) : Nat) : Int)) (
  some (false, ())) (
  E0 (x0, x1, (0 : Int), ()))

def laws_eqCompS.L0 (N : Nat) : Nat → (List (ImplComp)) × (List (ImplComp)) × Int × Unit → Option (Bool × Unit)
  | 0, _ => none
  | n + 1, x => laws_eqCompS.B0 N (laws_eqCompS.L0 N n) x

def laws_eqCompS (N : Nat) (x0 : List (ImplComp)) (x1 : List (ImplComp)) : Option (Bool × Unit) := laws_eqCompS.B N (laws_eqCompS.L0 N N) x0 x1

def laws_FnExactProgOk.B (N : Nat) (x0 : List (LawsComp)) : Option (Bool × Unit) :=
 bnd (laws_szCompS N x0 (1048576 : Int)) fun r1 =>
 br (decide ((r1).1 < (0 : Int))) (
  some (true, ())) (
  bnd (laws_toCompS N x0) fun r2 =>
 bnd (spec_ProgOk N (r2).1) fun r3 =>
 bnd (laws_toCompS N x0) fun r4 =>
 bnd (impl_ProgOk N (r4).1) fun r5 =>
 br (!((r5).1 == (r3).1)) (
  some (false, ())) (
  bnd (laws_toCompS N x0) fun r6 =>
 bnd (laws_eqCompS N (r4).1 (r6).1) fun r7 =>
 br (!(r7).1) (
  some (false, ())) (
  some (true, ()))))

def laws_FnExactProgOk (N : Nat) (x0 : List (LawsComp)) : Option (Bool × Unit) := laws_FnExactProgOk.B N x0
end
end Go.Ev
