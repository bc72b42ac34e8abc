/- A small evaluator of functions over plain data is defined, and what it holds of a world is kept by each of the first steps; no condition. -/
import Derived.Calls
import Derived.KernelRfl
import Derived.Laws.Sem
import Derived.Laws.CopyRow
import Derived.Laws.AppendOwn
import Derived.Laws.Slices
set_option linter.all false
set_option linter.unusedVariables false
set_option linter.unusedSimpArgs false
/- The evaluator's definitions: abstract values, objects, modes, operations. -/
set_option linter.unusedVariables false
namespace Go.Ev

inductive Kd where
  | int (k : IntKind) | bool | str | err | sl (e : Kd) | st (n : Nat)
  deriving DecidableEq

@[reducible] def Kd.T (Δ : Nat → Type) : Kd → Type
  | .int _ => Int | .bool => Bool | .str => List UInt8 | .err => Bool | .sl e => List (e.T Δ) | .st n => Δ n

inductive CV (Δ : Nat → Type) where
  | junk
  | int (k : IntKind) (n : Int)
  | bool (b : Bool)
  | str (s : List UInt8)
  | err (nil : Bool)
  | nil
  | shs (k : Kd) (l : List (k.T Δ))
  | own (o : Nat)
  | ptr (o off : Nat)
  | fn (f : Nat)
  | shp (k : Kd) (l : List (k.T Δ)) (i : Int) (off : Nat)
  | opp (o : Nat) (k : Kd) (i : Int) (off : Nat)
  | ovw (o : Nat) (k : Kd) (lo hi : Int)
  | dsl (o ver : Nat) (k : Kd) (i : Int) (off : Nat)
  | dpp (o ver : Nat) (k : Kd) (i : Int) (off : Nat) (k2 : Kd) (i2 : Int) (off2 : Nat)

inductive PV (Δ : Nat → Type) where
  | one (c : CV Δ)
  | agg (cs : List (CV Δ))
inductive AV (Δ : Nat → Type) where
  | v (p : PV Δ)
  | tup (ps : List (PV Δ))

inductive Ob (Δ : Nat → Type) where
  | box (t : Nat) (cs : List (CV Δ))
  | arr (deep : Bool) (k : Kd) (l : List (k.T Δ)) (ver : Nat)

variable {Δ : Nat → Type}
@[reducible] def AV.c (x : CV Δ) : AV Δ := .v (.one x)

def castL (a b : Kd) (l : List (a.T Δ)) : Option (List (b.T Δ)) :=
  if h : a = b then some (h ▸ l) else none

inductive TyD where
  | int (k : IntKind) | bool | str | slice (e : Nat) | struct (fs : List (Nat × Nat)) | pointer | iface | other | map (k e : Nat)
  deriving DecidableEq

structure TI where
  d : TyD
  sz : Nat
  kd : Kd
  zero : List Value
  bytes : Nat
  eqs : Bool := false   -- a struct whose '==' is that of its cells

structure Cx (Δ : Nat → Type) where
  to : (n : Nat) → Δ n → List (CV Δ)
  fr : (n : Nat) → List (CV Δ) → Option (Δ n)
  dflt : (n : Nat) → Δ n
  kinds : Nat → List Kd
  ti : List (Nat × TI)

def look {α : Type} : List (Nat × α) → Nat → Option α
  | [], _ => none
  | (i, x) :: r, n => cond (Nat.beq i n) (some x) (look r n)

abbrev Env (Δ : Nat → Type) := List (Nat × AV Δ)
abbrev Heap (Δ : Nat → Type) := List (Nat × Option (Ob Δ))
def hget (h : Heap Δ) (o : Nat) : Option (Ob Δ) := match look h o with | some x => x | none => none

structure St (Δ : Nat → Type) where
  env : Env Δ
  heap : Heap Δ
  used : List Nat

def isIn : List Nat → Nat → Bool
  | [], _ => false
  | x :: r, n => cond (Nat.beq x n) true (isIn r n)

section
variable (X : Cx Δ)
def cells : (k : Kd) → k.T Δ → List (CV Δ)
  | .int k, x => [.int k x] | .bool, x => [.bool x] | .str, x => [.str x] | .err, x => [.err x] | .sl e, x => [.shs e x] | .st n, x => X.to n x
def kcs : Kd → List Kd
  | .st n => X.kinds n
  | k => [k]
def ksz (k : Kd) : Nat := (kcs X k).length
/-- a nil slice where a slice of a kind is wanted -/
def normC : Kd → CV Δ → CV Δ
  | .sl e, .nil => .shs e []
  | _, c => c
def normCs : List Kd → List (CV Δ) → List (CV Δ)
  | k :: ks, c :: cs => normC k c :: normCs ks cs
  | _, cs => cs
def ofCells0 : (k : Kd) → List (CV Δ) → Option (k.T Δ)
  | .int k, cs => match cs with | [.int k' n] => (if k' = k then some n else none) | _ => none
  | .bool, cs => match cs with | [.bool b] => some b | _ => none
  | .str, cs => match cs with | [.str s] => some s | _ => none
  | .err, cs => match cs with | [.err b] => some b | _ => none
  | .sl e, cs => match cs with | [.shs e' l] => castL e' e l | _ => none
  | .st n, cs => X.fr n cs
def ofCells (k : Kd) (cs : List (CV Δ)) : Option (k.T Δ) := ofCells0 X k (normCs (kcs X k) cs)
def dflt : (k : Kd) → k.T Δ
  | .int _ => (0 : Int) | .bool => false | .str => ([] : List UInt8) | .err => false | .sl _ => [] | .st n => X.dflt n
def rd (k : Kd) (l : List (k.T Δ)) (i : Int) : k.T Δ := l.getD i.toNat (dflt X k)

def ofVal : Value → Option (CV Δ)
  | .int k n => some (.int k n)
  | .bool b => some (.bool b)
  | .string s => some (.str s.data.toList)
  | .slice none 0 0 => some .nil
  | .nilIface => some (.err true)
  | _ => none
def ofVals : List Value → Option (List (CV Δ))
  | [] => some []
  | v :: r => match ofVal v with
    | none => none
    | some c => match ofVals r with | none => none | some cs => some (c :: cs)
def avOfVal : Value → Option (AV Δ)
  | .agg cs => match ofVals cs.toList with | some cs => some (.v (.agg cs)) | none => none
  | v => match ofVal v with | some c => some (.c c) | none => some (.c .junk)

def rho (env : Env Δ) : Operand → Option (AV Δ)
  | .tmp t => look env t
  | .const v => avOfVal v
  | .func f => some (.c (.fn f))
  | .global _ => none
def rhos (env : Env Δ) : List Operand → Option (List (AV Δ))
  | [] => some []
  | x :: r => match rho env x with
    | none => none
    | some v => match rhos env r with | none => none | some vs => some (v :: vs)

/-- cells that stand for one value each -/
def solid : List (CV Δ) → Bool
  | [] => true
  | .junk :: _ => false
  | _ :: r => solid r
def pvCells : AV Δ → Option (List (CV Δ))
  | .v (.one .junk) => none
  | .v (.one c) => some [c]
  | .v (.agg cs) => match solid cs with
    | true => some cs
    | false => none
  | .tup _ => none

/-- cells written over others from a place on -/
def setAt {α : Type} : List α → Nat → List α → List α
  | [], _, _ => []
  | l, _, [] => l
  | _ :: l, 0, c :: cs => c :: setAt l 0 cs
  | x :: l, n + 1, cs => x :: setAt l n cs

def tyi (t : Nat) : Option TI := look X.ti t
def isAggD : TyD → Bool
  | .struct _ => true
  | _ => false
/-- a value of a type out of its cells -/
def wrapL (t : TI) (cs : List (CV Δ)) : Option (AV Δ) :=
  match Nat.beq cs.length t.sz with
  | false => none
  | true => match isAggD t.d with
    | true => some (.v (.agg cs))
    | false => match cs with | [c] => some (.c c) | _ => none

structure Eff (Δ : Nat → Type) where
  val : AV Δ := .v (.one .junk)
  writes : Heap Δ := []
  news : List Nat := []
  reads : List Nat := []

/-- what an operation does: tests that must hold, and its effect -/
abbrev Res (Δ : Nat → Type) := Option (List Bool × Eff Δ)
def rt (v : AV Δ) : Res Δ := some ([], { val := v })
def rtg (g : List Bool) (v : AV Δ) : Res Δ := some (g, { val := v })

def nid (d j : Nat) : Nat := Nat.add (Nat.add 1000 (Nat.mul d 16)) j
def sub {α : Type} (l : List α) (lo hi : Int) : List α := (l.drop lo.toNat).take (hi - lo).toNat
def most : Nat := 68719476736   -- 2^36

/-- no slices among its cells -/
def flatKs : List Kd → Bool
  | [] => true
  | .sl _ :: _ => false
  | _ :: r => flatKs r
def flat (k : Kd) : Bool := flatKs (kcs X k)

def newObj (used : List Nat) (dst : Option Nat) (mk : Nat → CV Δ) (ob : Ob Δ) (dels : List Nat) (g : List Bool) (reads : List Nat) : Res Δ :=
  match dst with
  | none => none
  | some d => match isIn used (nid d 0) || isIn dels 999 with
    | true => none
    | false => some (g, { val := .c (mk (nid d 0)), writes := (nid d 0, some ob) :: dels.map (fun o => (o, none)), news := [nid d 0], reads := reads })

/-- own slices out of a struct that lies in a deep array are told by their place -/
def dslCs (p ver : Nat) (k : Kd) (i : Int) : Nat → List (CV Δ) → List (CV Δ)
  | _, [] => []
  | j, .shs _ _ :: r => .dsl p ver k i j :: dslCs p ver k i (Nat.succ j) r
  | j, c :: r => c :: dslCs p ver k i (Nat.succ j) r

/-- the sign of a map's box: its one cell lists the keys that are told to be true -/
def mapTag : Nat := 777777
def isMapT (t : Nat) : Bool := Nat.beq t mapTag
/-- the sign of a box that is told as a slice: its one cell is its only element, a slice -/
def slTag : Nat := 888888
def isSlT (t : Nat) : Bool := Nat.beq t slTag
def isSpT (t : Nat) : Bool := isMapT t || isSlT t
def mapHas : List Int → Int → Bool
  | [], _ => false
  | a :: r, n => cond (n == a) true (mapHas r n)
def mapPut (l : List Int) (n : Int) : List Int := cond (mapHas l n) l (l ++ [n])
/-- a map of truths by numbers -/
def isMapD (X : Cx Δ) (t : TI) : Bool :=
  match t.d with
  | .map k e => match tyi X k, tyi X e with
    | some ik, some ie => match ik.d, ie.d with
      | .int .i64, .bool => true
      | _, _ => false
    | _, _ => false
  | _ => false
/-- a map's keys -/
def mapKeys (h : Heap Δ) (a : AV Δ) : Option (Nat × List Int) :=
  match a with
  | .v (.one (.ptr p 0)) => match hget h p with
    | some (.box t' [.shs k l]) => match isMapT t', castL k (.int .i64) l with
      | true, some l => some (p, l)
      | _, _ => none
    | _ => none
  | _ => none
def opMakeMap (X : Cx Δ) (used : List Nat) (dst : Option Nat) (t : TI) : Res Δ :=
  match isMapD X t with
  | true => newObj used dst (fun n => .ptr n 0) (.box mapTag [.shs (.int .i64) []]) [] [] []
  | false => none
def opLookup (X : Cx Δ) (h : Heap Δ) (t : TI) (a ix : AV Δ) : Res Δ :=
  match isMapD X t, mapKeys h a, ix with
  | true, some (p, l), .v (.one (.int .i64 n)) => some ([], { val := .c (.bool (mapHas l n)), reads := [p] })
  | _, _, _ => none
def opMapUpdate (X : Cx Δ) (h : Heap Δ) (t : TI) (a ix v : AV Δ) : Res Δ :=
  match isMapD X t, mapKeys h a, ix, v with
  | true, some (p, l), .v (.one (.int .i64 n)), .v (.one (.bool true)) => some ([], { writes := [(p, some (.box mapTag [.shs (.int .i64) (mapPut l n)]))], reads := [p] })
  | _, _, _, _ => none

def opLoad (h : Heap Δ) (t : TI) (a : AV Δ) : Res Δ :=
  match a with
  | .v (.one (.ptr p off)) => match hget h p with
    | some (.box t' cs) => match isSpT t', wrapL t ((cs.drop off).take t.sz) with
      | false, some v => some ([], { val := v, reads := [p] })
      | _, _ => none
    | _ => none
  | .v (.one (.shp k l i off)) => match wrapL t (((cells X k (rd X k l i)).drop off).take t.sz) with
    | some v => rt v
    | none => none
  | .v (.one (.opp p k' i off)) => match hget h p with
    | some (.arr false k l _) => match decide (k' = k), wrapL t (((cells X k (rd X k l i)).drop off).take t.sz) with
      | true, some v => some ([], { val := v, reads := [p] })
      | _, _ => none
    | some (.arr true k l ver) => match decide (k' = k), wrapL t (((dslCs p ver k i 0 (cells X k (rd X k l i))).drop off).take t.sz) with
      | true, some v => some ([], { val := v, reads := [p] })
      | _, _ => none
    | _ => none
  | .v (.one (.dpp p ver' k' i off k2 i2 off2)) => match hget h p with
    | some (.arr true k l ver) => match decide (k' = k), Nat.beq ver' ver, (cells X k (rd X k l i))[off]? with
      | true, true, some (.shs k2' l2) => match decide (k2 = k2'), flat X k2', wrapL t (((cells X k2' (rd X k2' l2 i2)).drop off2).take t.sz) with
        | true, true, some v => some ([], { val := v, reads := [p] })
        | _, _, _ => none
      | _, _, _ => none
    | _ => none
  | _ => none

/-- a value's cells on their way into an array: own slices give up their objects -/
def absC (deep : Bool) (h : Heap Δ) : CV Δ → Option (CV Δ × List Nat)
  | .own o => match hget h o with
    | some (.arr d k l _) => match deep && !d && !flat X k with
      | true => none
      | false => some (.shs k l, [o])
    | _ => none
  | .shs k l => match deep with
    | true => none
    | false => some (.shs k l, [])
  | .nil => some (.nil, [])
  | .int k n => some (.int k n, [])
  | .bool b => some (.bool b, [])
  | .str s => some (.str s, [])
  | .err b => some (.err b, [])
  | _ => none
def absCs (deep : Bool) (h : Heap Δ) : List (CV Δ) → Option (List (CV Δ) × List Nat)
  | [] => some ([], [])
  | c :: r => match absC X deep h c with
    | none => none
    | some (c, d) => match absCs deep h r with
      | none => none
      | some (cs, ds) => some (c :: cs, d ++ ds)
def nodup : List Nat → Bool
  | [] => true
  | x :: r => cond (isIn r x) false (nodup r)

def opStore (h : Heap Δ) (t : TI) (a v : AV Δ) : Res Δ :=
  match pvCells v with
  | none => none
  | some vs => match Nat.beq vs.length t.sz with
    | false => none
    | true => match a with
      | .v (.one (.ptr p off)) => match hget h p with
        | some (.box t' cs) => match isSpT t', Nat.ble (Nat.add off t.sz) cs.length with
          | false, true => some ([], { writes := [(p, some (.box t' (setAt cs off vs)))], reads := [p] })
          | _, _ => none
        | _ => none
      | .v (.one (.opp p k' i off)) => match hget h p with
        | some (.arr d k l ver) => match decide (k' = k), absCs X d h vs with
          | true, some (vs', dels) => match isIn dels p, nodup dels, Nat.ble (Nat.add off t.sz) (ksz X k), ofCells X k (setAt (cells X k (rd X k l i)) off vs') with
            | false, true, true, some x => some ([], { writes := (p, some (.arr d k (l.set i.toNat x) (Nat.succ ver))) :: dels.map (fun o => (o, none)), reads := p :: dels })
            | _, _, _, _ => none
          | _, _ => none
        | _ => none
      | .v (.one (.dpp p ver' k' i off k2 i2 off2)) => match hget h p with
        | some (.arr true k l ver) => match decide (k' = k), Nat.beq ver' ver, (cells X k (rd X k l i))[off]? with
          | true, true, some (.shs k2' l2) => match decide (k2 = k2'), flat X k2', absCs X true h vs with
            | true, true, some (vs', []) => match Nat.ble (Nat.add off2 t.sz) (ksz X k2'), ofCells X k2' (setAt (cells X k2' (rd X k2' l2 i2)) off2 vs') with
              | true, some x2 => match ofCells X k (setAt (cells X k (rd X k l i)) off [.shs k2' (l2.set i2.toNat x2)]) with
                | some x => some ([], { writes := [(p, some (.arr true k (l.set i.toNat x) (Nat.succ ver)))], reads := [p] })
                | none => none
              | _, _ => none
            | _, _, _ => none
          | _, _, _ => none
        | _ => none
      | _ => none

/-- what a slice holds, read as shared data; its objects -/
def lendC (h : Heap Δ) : CV Δ → Option (CV Δ × List Nat)
  | .own o => match hget h o with
    | some (.arr _ k l _) => some (.shs k l, [o])
    | _ => none
  | .ovw o k' lo hi => match hget h o with
    | some (.arr _ k l _) => match decide (k' = k) with
      | true => some (.shs k (sub l lo hi), [o])
      | false => none
    | _ => none
  | .dsl o ver' k' i off => match hget h o with
    | some (.arr true k l ver) => match decide (k' = k), Nat.beq ver' ver, (cells X k (rd X k l i))[off]? with
      | true, true, some (.shs k2 l2) => some (.shs k2 l2, [o])
      | _, _, _ => none
    | _ => none
  | .ptr _ _ => none
  | .shp _ _ _ _ => none
  | .opp _ _ _ _ => none
  | .dpp _ _ _ _ _ _ _ _ => none
  | c => some (c, [])

/-- a slice as a list: its kind, its content, its objects -/
structure Lst (Δ : Nat → Type) where
  k : Kd
  l : List (k.T Δ)
  os : List Nat
def asList (h : Heap Δ) (a : AV Δ) : Option (Lst Δ) :=
  match a with
  | .v (.one c) => match lendC X h c with
    | some (.shs k l, os) => some ⟨k, l, os⟩
    | _ => none
  | _ => none

def opIndexAddr (h : Heap Δ) (te : TI) (a ix : AV Δ) : Res Δ :=
  match ix with
  | .v (.one (.int _ i)) => match a with
    | .v (.one (.shs k l)) => match Nat.beq (ksz X k) te.sz with
      | true => rtg [decide (0 ≤ i), decide (i < l.length)] (.c (.shp k l i 0))
      | false => none
    | .v (.one (.own p)) => match hget h p with
      | some (.arr _ k l _) => match Nat.beq (ksz X k) te.sz with
        | true => some ([decide (0 ≤ i), decide (i < l.length)], { val := .c (.opp p k i 0), reads := [p] })
        | false => none
      | _ => none
    | .v (.one (.dsl p ver' k' j off)) => match hget h p with
      | some (.arr true k l ver) => match decide (k' = k), Nat.beq ver' ver, (cells X k (rd X k l j))[off]? with
        | true, true, some (.shs k2 l2) => match Nat.beq (ksz X k2) te.sz with
          | true => some ([decide (0 ≤ i), decide (i < l2.length)], { val := .c (.dpp p ver k j off k2 i 0), reads := [p] })
          | false => none
        | _, _, _ => none
      | _ => none
    | _ => none
  | _ => none

def opNilCheck (h : Heap Δ) (a : AV Δ) : Res Δ :=
  match a with
  | .v (.one (.ptr p off)) => match hget h p with
    | some (.box t' _) => match isSpT t' with
      | false => some ([], { val := .c (.ptr p off), reads := [p] })
      | true => none
    | _ => none
  | _ => none
def opFieldAddr (h : Heap Δ) (fs : List (Nat × Nat)) (f : Nat) (a : AV Δ) : Res Δ :=
  match fs[f]? with
  | none => none
  | some (off', _) => match a with
    | .v (.one (.ptr p off)) => match hget h p with
      | some (.box t' _) => match isSpT t' with
        | false => some ([], { val := .c (.ptr p (Nat.add off off')), reads := [p] })
        | true => none
      | _ => none
    | .v (.one (.shp k l i off)) => rt (.c (.shp k l i (Nat.add off off')))
    | .v (.one (.opp p k i off)) => rt (.c (.opp p k i (Nat.add off off')))
    | .v (.one (.dpp p v k i off k2 i2 off2)) => match hget h p with
      | some (.arr true k' l ver) => match decide (k = k'), Nat.beq v ver with
        | true, true => some ([], { val := .c (.dpp p v k i off k2 i2 (Nat.add off2 off')), reads := [p] })
        | _, _ => none
      | _ => none
    | _ => none

def band (k : IntKind) (x y : Int) : Int := k.wrap (BitVec.ofInt k.bits x &&& BitVec.ofInt k.bits y).toNat
def bor (k : IntKind) (x y : Int) : Int := k.wrap (BitVec.ofInt k.bits x ||| BitVec.ofInt k.bits y).toNat
def bxor (k : IntKind) (x y : Int) : Int := k.wrap (BitVec.ofInt k.bits x ^^^ BitVec.ofInt k.bits y).toNat
def bitsOf (op : BinOp) (k : IntKind) (x y : Int) : Option Int :=
  match op with
  | .and => some (band k x y)
  | .or => some (bor k x y)
  | .xor => some (bxor k x y)
  | _ => none

/-- the kind of a zero cell -/
def kOf : Value → Kd
  | .int k _ => .int k
  | .bool _ => .bool
  | .string _ => .str
  | _ => .err
/-- cells of such kinds -/
def shapeK : List Kd → List (CV Δ) → Bool
  | [], [] => true
  | .int k :: ks, .int k' _ :: cs => cond (decide (k = k')) (shapeK ks cs) false
  | .bool :: ks, .bool _ :: cs => shapeK ks cs
  | .str :: ks, .str _ :: cs => shapeK ks cs
  | _, _ => false
/-- '==' of cells -/
def eqC : CV Δ → CV Δ → Option Bool
  | .int k a, .int k' b => cond (decide (k = k')) (some (a == b)) none
  | .bool a, .bool b => some (a == b)
  | .str a, .str b => some (a == b)
  | _, _ => none
def eqCs : List (CV Δ) → List (CV Δ) → Option Bool
  | [c], [d] => eqC c d
  | c :: cs, d :: ds => match eqC c d, eqCs cs ds with
    | some a, some b => some (a && b)
    | _, _ => none
  | _, _ => none

def opBin (ty : TI) (nilc : Bool) (op : BinOp) (a b : AV Δ) : Res Δ :=
  match a, b with
  | .v (.one (.int k x)), .v (.one (.int k' y)) =>
    match op with
    | .shl => rtg [!decide (y < 0)] (.c (.int k (k.wrap (x * 2 ^ (min y.toNat k.bits)))))
    | .shr => rtg [!decide (y < 0)] (.c (.int k (x.fdiv (2 ^ (min y.toNat k.bits)))))
    | _ => match decide (k = k') with
      | false => none
      | true => match op with
        | .add => rt (.c (.int k (k.wrap (x + y))))
        | .sub => rt (.c (.int k (k.wrap (x - y))))
        | .mul => rt (.c (.int k (k.wrap (x * y))))
        | .quo => rtg [!decide (y = 0)] (.c (.int k (k.wrap (x.tdiv y))))
        | .rem => rtg [!decide (y = 0)] (.c (.int k (x.tmod y)))
        | .eql => rt (.c (.bool (x == y)))
        | .neq => rt (.c (.bool (x != y)))
        | .lss => rt (.c (.bool (decide (x < y))))
        | .leq => rt (.c (.bool (decide (x ≤ y))))
        | .gtr => rt (.c (.bool (decide (x > y))))
        | .geq => rt (.c (.bool (decide (x ≥ y))))
        | op => match bitsOf op k x y with
          | some z => rt (.c (.int k z))
          | none => none
  | .v (.one (.str x)), .v (.one (.str y)) =>
    match op with
    | .add => rtg [decide (x.length + y.length < most)] (.c (.str (x ++ y)))
    | .eql => rt (.c (.bool (x == y)))
    | .neq => rt (.c (.bool (!(x == y))))
    | _ => none
  | .v (.one (.bool x)), .v (.one (.bool y)) =>
    match ty.d, op with
    | .bool, .eql => rt (.c (.bool (x == y)))
    | .bool, .neq => rt (.c (.bool (!(x == y))))
    | _, _ => none
  | .v (.agg xs), .v (.agg ys) =>
    match ty.eqs, shapeK (ty.zero.map kOf) xs, op, eqCs xs ys with
    | true, true, .eql, some b => rt (.c (.bool b))
    | true, true, .neq, some b => rt (.c (.bool (!b)))
    | _, _, _, _ => none
  | .v (.one (.err x)), .v (.one (.err true)) =>
    match ty.d, nilc, op with
    | .iface, true, .eql => rt (.c (.bool x))
    | .iface, true, .neq => rt (.c (.bool (!x)))
    | _, _, _ => none
  | _, _ => none

def pickV (b : Bool) (x y : AV Δ) : AV Δ :=
  match x, y with
  | .v (.one (.bool x)), .v (.one (.bool y)) => .c (.bool (cond b x y))
  | x, y => cond b x y

/-- a struct's parts laid over its zero cells -/
def opBuild (fs : List (Nat × Nat)) (cs : List (CV Δ)) : List (Nat × AV Δ) → Option (List (CV Δ))
  | [] => some cs
  | (i, v) :: r => match fs[i]?, pvCells v with
    | some (off, ft), some vs => match tyi X ft with
      | some ts => match Nat.beq vs.length ts.sz, Nat.ble (Nat.add off ts.sz) cs.length with
        | true, true => opBuild fs (setAt cs off vs) r
        | _, _ => none
      | none => none
    | _, _ => none
def rhoPs (env : Env Δ) : List (Nat × Operand) → Option (List (Nat × AV Δ))
  | [] => some []
  | (i, x) :: r => match rho env x, rhoPs env r with
    | some v, some vs => some ((i, v) :: vs)
    | _, _ => none
/-- the elements of a slice that is built: parts in order, one for each place -/
def elemsOf (deep : Bool) (h : Heap Δ) (k : Kd) : Nat → List (Nat × AV Δ) → Option (List (k.T Δ) × List Nat)
  | _, [] => some ([], [])
  | n, (i, v) :: r => match Nat.beq i n, pvCells v with
    | true, some vs => match absCs X deep h vs with
      | some (vs', d) => match ofCells X k vs', elemsOf deep h k (Nat.succ n) r with
        | some x, some (xs, ds) => some (x :: xs, d ++ ds)
        | _, _ => none
      | none => none
    | _, _ => none

def opBuildSlice (deep : Bool) (used : List Nat) (dst : Option Nat) (h : Heap Δ) (te : TI) (len : Nat) (ps : List (Nat × AV Δ)) : Res Δ :=
  match elemsOf X deep h te.kd 0 ps with
  | some (xs, ds) => match Nat.beq xs.length len, nodup ds, Nat.ble (Nat.mul len te.sz) 1000 with
    | true, true, true => newObj used dst .own (.arr deep te.kd xs 0) ds [] ds
    | _, _, _ => none
  | none => none

/-- a slice of one slice, whose object stays alive -/
def opBuildOne (used : List Nat) (dst : Option Nat) (h : Heap Δ) (te : TI) (len : Nat) (ps : List (Nat × AV Δ)) : Res Δ :=
  match ps with
  | [(0, .v (.one (.own o)))] => match hget h o with
    | some (.arr _ k _ _) => match decide (te.kd = .sl k), Nat.beq len 1, Nat.beq te.sz 1 with
      | true, true, true => newObj used dst .own (.box slTag [.own o]) [] [] [o]
      | _, _, _ => none
    | _ => none
  | _ => none
def opMakeSlice (deep : Bool) (used : List Nat) (dst : Option Nat) (te : TI) (l c : AV Δ) : Res Δ :=
  match l, c with
  | .v (.one (.int _ n)), .v (.one (.int _ m)) =>
    match (ofVals te.zero : Option (List (CV Δ))) with
    | none => none
    | some zs => match ofCells X te.kd zs with
      | none => none
      | some z => newObj used dst .own (.arr deep te.kd (List.replicate n.toNat z) 0) [] [decide (n = m), decide (0 ≤ n), decide (n < most)] []
  | _, _ => none

def teOk (te : TI) : Bool := Nat.ble te.bytes 1000 && Nat.beq (ksz X te.kd) te.sz && Nat.beq te.zero.length te.sz
def noneL : List Nat → Bool
  | [] => true
  | _ => false
def castA (k : Kd) (b : Lst Δ) : Option (List (k.T Δ)) := castL b.k k b.l

/-- a part of an array whose elements are shared -/
def flatV (h : Heap Δ) : AV Δ → Bool
  | .v (.one (.ovw o _ _ _)) => match hget h o with
    | some (.arr false _ _ _) => true
    | _ => false
  | _ => false
/-- append: the first slice's objects go into the new one -/
def opAppend (deep : Bool) (used : List Nat) (dst : Option Nat) (h : Heap Δ) (te : TI) (a b : AV Δ) : Res Δ :=
  match a with
  | .v (.one .nil) => match b with
    | .v (.one .nil) => newObj used dst .own (.arr deep te.kd [] 0) [] [] []
    | .v (.one (.own q)) => match hget h q with
      | some (.arr d k l _) => match deep && !d && !flat X k, castL k te.kd l with
        | false, some l => newObj used dst .own (.arr deep te.kd l 0) (cond (d && !flat X k) [q] []) [decide (l.length < most)] [q]
        | _, _ => none
      | _ => none
    | b => match asList X h b with
      | some s => match (deep || (!noneL s.os && !flatV h b)) && !flat X te.kd, castA te.kd s with
        | false, some l => newObj used dst .own (.arr deep te.kd l 0) [] [decide (l.length < most)] s.os
        | _, _ => none
      | none => none
  | .v (.one (.own p)) => match hget h p with
    | some (.arr dp k l _) => match decide (k = te.kd) with
      | false => none
      | true => match b with
        | .v (.one .nil) => newObj used dst .own (.arr dp k l 0) [p] [decide (l.length < most)] [p]
        | .v (.one (.own q)) => match hget h q with
          | some (.arr d k' l' _) => match dp && !d && !flat X k, castL k' k l', Nat.beq p q with
            | false, some l', false => newObj used dst .own (.arr dp k (l ++ l') 0) (p :: cond (d && !flat X k) [q] []) [decide (l.length + l'.length < most)] [p, q]
            | _, _, _ => none
          | _ => none
        | b => match asList X h b with
          | some s => match (dp || (!noneL s.os && !flatV h b)) && !flat X k, castA k s, isIn s.os p with
            | false, some l', false => newObj used dst .own (.arr dp k (l ++ l') 0) [p] [decide (l.length + l'.length < most)] (p :: s.os)
            | _, _, _ => none
          | none => none
    | _ => none
  | .v (.one (.ovw p ko lo hi)) => match hget h p with
    | some (.arr dp k l _) => match decide (k = te.kd), decide (lo = 0), decide (ko = k) with
      | true, true, true => match b with
        | .v (.one (.own q)) => match hget h q with
          | some (.arr d k' l' _) => match dp && !d && !flat X k, castL k' k l', Nat.beq p q with
            | false, some l', false => newObj used dst .own (.arr dp k (sub l 0 hi ++ l') 0) (p :: cond (d && !flat X k) [q] []) [decide ((sub l 0 hi).length + l'.length < most)] [p, q]
            | _, _, _ => none
          | _ => none
        | _ => none
      | _, _, _ => none
    | _ => none
  | _ => none

def boundsOf (n : Int) (lo hi : Option (AV Δ)) : Option (Int × Int) :=
  match lo, hi with
  | none, none => some (0, n)
  | some (.v (.one (.int _ a))), none => some (a, n)
  | none, some (.v (.one (.int _ b))) => some (0, b)
  | some (.v (.one (.int _ a))), some (.v (.one (.int _ b))) => some (a, b)
  | _, _ => none
def opSliceS (a : AV Δ) (lo hi : Option (AV Δ)) : Res Δ :=
  match a with
  | .v (.one (.str s)) => match boundsOf s.length lo hi with
    | some (a, b) => rtg [decide (0 ≤ a), decide (a ≤ b), decide (b ≤ s.length)] (.c (.str (sub s a b)))
    | none => none
  | _ => none
def opSlice (sz : Nat) (h : Heap Δ) (a : AV Δ) (lo hi : Option (AV Δ)) : Res Δ :=
  match a with
  | .v (.one (.shs k l)) => match boundsOf l.length lo hi, Nat.beq (ksz X k) sz with
    | some (a, b), true => rtg [decide (0 ≤ a), decide (a ≤ b), decide (b ≤ l.length)] (.c (.shs k (sub l a b)))
    | _, _ => none
  | .v (.one (.own p)) => match hget h p with
    | some (.arr _ k l _) => match boundsOf l.length lo hi, Nat.beq (ksz X k) sz with
      | some (a, b), true => some ([decide (0 ≤ a), decide (a ≤ b), decide (b ≤ l.length)], { val := .c (.ovw p k a b), reads := [p] })
      | _, _ => none
    | _ => none
  | _ => none

/-- a part of shared data from its beginning, with a bound for what it may grow to -/
def opSlice3 (sz : Nat) (a : AV Δ) (hi : Option (AV Δ)) (m : AV Δ) : Res Δ :=
  match a, hi, m with
  | .v (.one (.shs k l)), some (.v (.one (.int _ b))), .v (.one (.int _ c)) => match Nat.beq (ksz X k) sz with
    | true => rtg [decide (0 ≤ b), decide (b ≤ c), decide (c ≤ l.length)] (.c (.shs k (sub l 0 b)))
    | false => none
  | _, _, _ => none

def opLen (str : Bool) (h : Heap Δ) (a : AV Δ) : Res Δ :=
  match str with
  | true => match a with
    | .v (.one (.str s)) => rt (.c (.int .i64 s.length))
    | _ => none
  | false => match a with
    | .v (.one .nil) => rt (.c (.int .i64 0))
    | a => match asList X h a with
      | some s => some ([], { val := .c (.int .i64 s.l.length), reads := s.os })
      | none => none

def minmax (mx : Bool) (a : AV Δ) : List (AV Δ) → Option (AV Δ)
  | [] => some a
  | b :: r => match a, b with
    | .v (.one (.int k x)), .v (.one (.int _ y)) => minmax mx (.c (.int k (match mx with | true => cond (decide (y > x)) y x | false => cond (decide (y < x)) y x))) r
    | _, _ => none

def opIndex (a ix : AV Δ) : Res Δ :=
  match a, ix with
  | .v (.one (.str s)), .v (.one (.int _ i)) => rtg [decide (0 ≤ i), decide (i < s.length)] (.c (.int .u8 (s.getD i.toNat 0).toNat))
  | _, _ => none
def opField (fs : List (Nat × Nat)) (ts : TI) (f : Nat) (a : AV Δ) : Res Δ :=
  match fs[f]?, a with
  | some (off, _), .v (.agg cs) => match wrapL ts ((cs.drop off).take ts.sz) with
    | some v => rt v
    | none => none
  | _, _ => none
def opExtract (a : AV Δ) (i : Nat) : Res Δ :=
  match a with
  | .tup ps => match ps[i]? with
    | some p => rt (.v p)
    | none => none
  | _ => none

def bytesOf (l : List Int) : List UInt8 := l.map fun n => UInt8.ofNat n.toNat
def opConvert (h : Heap Δ) (sd ed dd : TyD) (a : AV Δ) : Res Δ :=
  match dd with
  | .int k => match a with
    | .v (.one (.int _ n)) => rt (.c (.int k (k.wrap n)))
    | _ => none
  | .str => match sd with
    | .str => match a with
      | .v (.one (.str s)) => rt (.c (.str s))
      | _ => none
    | .slice _ => match ed with
      | .int .u8 => match asList X h a with
        | some ⟨.int .u8, l, os⟩ => some ([], { val := .c (.str (bytesOf l)), reads := os })
        | _ => none
      | _ => none
    | _ => none
  | _ => none

def avOpt (env : Env Δ) : Option Operand → Option (Option (AV Δ))
  | none => some none
  | some x => match rho env x with | some v => some (some v) | none => none

/-- every operation but a call of a function -/
def op1 (dp : Nat → Bool) (used : List Nat) (o : Oper) (env : Env Δ) (h : Heap Δ) : Res Δ :=
  match o.op with
  | .move x | .assign x => match rho env x with | some v => rt v | none => none
  | .pick c a b => match rho env c, rho env a, rho env b with
    | some (.v (.one (.bool t))), some x, some y => rt (pickV t x y)
    | _, _, _ => none
  | .alloc t => match tyi X t with
    | some i => match (ofVals i.zero : Option (List (CV Δ))), isSpT t with
      | some cs, false => newObj used o.dst (fun n => .ptr n 0) (.box t cs) [] [] []
      | _, _ => none
    | none => none
  | .box t x => match tyi X t, rho env x with
    | some i, some v => match pvCells v with
      | some cs => match Nat.beq cs.length i.sz, isSpT t with
        | true, false => newObj used o.dst (fun n => .ptr n 0) (.box t cs) [] [] []
        | _, _ => none
      | none => none
    | _, _ => none
  | .build t ps => match tyi X t, rhoPs env ps.toList with
    | some i, some vs => match i.d, (ofVals i.zero : Option (List (CV Δ))) with
      | .struct fs, some zs => match opBuild X fs zs vs with
        | some cs => rt (.v (.agg cs))
        | none => none
      | _, _ => none
    | _, _ => none
  | .buildSlice t n ps => match tyi X t, rhoPs env ps.toList with
    | some i, some vs => match i.d with
      | .slice e => match tyi X e, o.dst with
        | some te, some d => match teOk X te with
          | true => match dp (Nat.add 1000000 d) with
            | true => opBuildOne used o.dst h te n vs
            | false => opBuildSlice X (dp d) used o.dst h te n vs
          | false => none
        | _, _ => none
      | _ => none
    | _, _ => none
  | .load t x => match tyi X t, rho env x with
    | some i, some a => opLoad X h i a
    | _, _ => none
  | .store t x y => match tyi X t, rho env x, rho env y with
    | some i, some a, some v => opStore X h i a v
    | _, _, _ => none
  | .nilCheck x => match rho env x with
    | some a => opNilCheck h a
    | none => none
  | .fieldAddr t x f => match tyi X t, rho env x with
    | some i, some a => match i.d with
      | .struct fs => opFieldAddr h fs f a
      | _ => none
    | _, _ => none
  | .field t x f => match tyi X t, rho env x with
    | some i, some a => match i.d with
      | .struct fs => match fs[f]? with
        | some (_, ft) => match tyi X ft with
          | some ts => opField fs ts f a
          | none => none
        | none => none
      | _ => none
    | _, _ => none
  | .indexAddr t x y => match tyi X t, rho env x, rho env y with
    | some i, some a, some ix => match i.d with
      | .slice e => match tyi X e with
        | some te => opIndexAddr X h te a ix
        | none => none
      | _ => none
    | _, _, _ => none
  | .index t x y => match tyi X t, rho env x, rho env y with
    | some i, some a, some ix => match i.d with
      | .str => opIndex a ix
      | _ => none
    | _, _, _ => none
  | .binOp op t x y _ => match tyi X t, rho env x, rho env y with
    | some i, some a, some b => opBin i (match y with | .const .nilIface => true | _ => false) op a b
    | _, _, _ => none
  | .unOp op _ x => match op, rho env x with
    | .not, some (.v (.one (.bool b))) => rt (.c (.bool (!b)))
    | .neg, some (.v (.one (.int k n))) => rt (.c (.int k (k.wrap (0 - n))))
    | _, _ => none
  | .convert s d x => match tyi X s, tyi X d, rho env x with
    | some si, some di, some a => opConvert X h si.d (match si.d with | .slice e => (match tyi X e with | some te => te.d | none => .other) | _ => .other) di.d a
    | _, _, _ => none
  | .makeSlice t l c => match tyi X t, rho env l, rho env c with
    | some i, some a, some b => match i.d with
      | .slice e => match tyi X e, o.dst with
        | some te, some d => match teOk X te with
          | true => opMakeSlice X (dp d) used o.dst te a b
          | false => none
        | _, _ => none
      | _ => none
    | _, _, _ => none
  | .slice t x lo hi none => match tyi X t, rho env x, avOpt env lo, avOpt env hi with
    | some i, some a, some lo, some hi => match i.d with
      | .str => opSliceS a lo hi
      | .slice e => match tyi X e with
        | some te => opSlice X te.sz h a lo hi
        | none => none
      | _ => none
    | _, _, _, _ => none
  | .slice t x none hi (some mx) => match tyi X t, rho env x, avOpt env hi, rho env mx with
    | some i, some a, some hi, some m => match i.d with
      | .slice e => match tyi X e with
        | some te => opSlice3 X te.sz a hi m
        | none => none
      | _ => none
    | _, _, _, _ => none
  | .makeMap t none => match tyi X t with
    | some i => opMakeMap X used o.dst i
    | none => none
  | .lookup t x y false => match tyi X t, rho env x, rho env y with
    | some i, some a, some ix => opLookup X h i a ix
    | _, _, _ => none
  | .mapUpdate t x y z => match tyi X t, rho env x, rho env y, rho env z with
    | some i, some a, some ix, some v => opMapUpdate X h i a ix v
    | _, _, _, _ => none
  | .extract x i => match rho env x with
    | some a => opExtract a i
    | none => none
  | .call c => match c.callee, rhos env c.args.toList with
    | .builtin .len, some [a] => match c.argTypes.toList with
      | t :: _ => match tyi X t with
        | some i => match i.d with
          | .str => opLen X true h a
          | .slice _ => opLen X false h a
          | _ => none
        | none => none
      | [] => none
    | .builtin .min, some (a :: as) => match minmax false a as with | some v => rt v | none => none
    | .builtin .max, some (a :: as) => match minmax true a as with | some v => rt v | none => none
    | .builtin .append, some [a, b] => match c.argTypes.toList with
      | st :: xt :: _ => match tyi X st, tyi X xt with
        | some i, some xi => match i.d, xi.d with
          | .slice e, .slice _ => match tyi X e, o.dst with
            | some te, some d => match teOk X te with
              | true => opAppend X (dp d) used o.dst h te a b
              | false => none
            | _, _ => none
          | _, _ => none
        | _, _ => none
      | _ => none
    | _, _ => none
  | _ => none

/-- how a value stands where code is cut: in a box behind a pointer or as it is; its object's number; its kind; which of its cells are own slices (deep?, number) -/
structure Md where
  ptr : Bool := false
  id : Nat := 0
  t : Nat := 0
  k : Kd
  fl : List (Option (Bool × Nat)) := []

@[reducible] def HL (Δ : Nat → Type) : List Md → Type
  | [] => Unit
  | m :: r => m.k.T Δ × HL Δ r

def isSt : Kd → Bool
  | .st _ => true
  | _ => false
def mkAV (k : Kd) (cs : List (CV Δ)) : AV Δ :=
  match k with
  | .st _ => .v (.agg cs)
  | _ => match cs with
    | [c] => .c c
    | _ => .v (.agg cs)

abbrev Obs (Δ : Nat → Type) := List (Nat × Ob Δ)
def encCs : List (Option (Bool × Nat)) → List (CV Δ) → List (CV Δ) × Obs Δ
  | some (d, id) :: fl, .shs k l :: cs => (.own id :: (encCs fl cs).1, (id, .arr d k l 0) :: (encCs fl cs).2)
  | _ :: fl, c :: cs => (c :: (encCs fl cs).1, (encCs fl cs).2)
  | _, cs => (cs, [])
def encA (m : Md) (x : m.k.T Δ) : AV Δ × Obs Δ :=
  match m.ptr with
  | true => (.c (cond (isSlT m.t) (.own m.id) (.ptr m.id 0)), (m.id, .box m.t (encCs m.fl (cells X m.k x)).1) :: (encCs m.fl (cells X m.k x)).2)
  | false => (mkAV m.k (encCs m.fl (cells X m.k x)).1, (encCs m.fl (cells X m.k x)).2)
def encL : (ms : List Md) → HL Δ ms → List (AV Δ) × Obs Δ
  | [], _ => ([], [])
  | m :: r, x => ((encA X m x.1).1 :: (encL r x.2).1, (encA X m x.1).2 ++ (encL r x.2).2)

def decCs : List (Option (Bool × Nat)) → List (CV Δ) → Obs Δ → Option (List (CV Δ) × Obs Δ)
  | some (d, id) :: fl, .own id' :: cs, (id2, .arr d' k l 0) :: obs =>
    match Nat.beq id id', Nat.beq id id2, d == d', decCs fl cs obs with
    | true, true, true, some (bs, r) => some (.shs k l :: bs, r)
    | _, _, _, _ => none
  | some _ :: _, _ :: _, _ => none
  | none :: fl, c :: cs, obs => match decCs fl cs obs with
    | some (bs, r) => some (c :: bs, r)
    | none => none
  | _, cs, obs => some (cs, obs)
def decA (m : Md) (a : AV Δ) (obs : Obs Δ) : Option (m.k.T Δ × Obs Δ) :=
  match m.ptr with
  | true => match a, obs with
    | .v (.one (.ptr o 0)), (id, .box t cs) :: obs => match Nat.beq o m.id && !isSlT m.t, Nat.beq id m.id, Nat.beq t m.t, decCs m.fl cs obs with
      | true, true, true, some (bs, r) => match ofCells0 X m.k bs with
        | some x => some (x, r)
        | none => none
      | _, _, _, _ => none
    | .v (.one (.own o)), (id, .box t cs) :: obs => match Nat.beq o m.id && isSlT m.t, Nat.beq id m.id, Nat.beq t m.t, decCs m.fl cs obs with
      | true, true, true, some (bs, r) => match ofCells0 X m.k bs with
        | some x => some (x, r)
        | none => none
      | _, _, _, _ => none
    | _, _ => none
  | false => match a, isSt m.k with
    | .v (.agg cs), true => match decCs m.fl cs obs with
      | some (bs, r) => match ofCells0 X m.k bs with
        | some x => some (x, r)
        | none => none
      | none => none
    | .v (.one c), false => match decCs m.fl [c] obs with
      | some (bs, r) => match ofCells0 X m.k bs with
        | some x => some (x, r)
        | none => none
      | none => none
    | _, _ => none
def decL : (ms : List Md) → List (AV Δ) → Obs Δ → Option (HL Δ ms)
  | [], [], [] => some ()
  | m :: r, a :: as, obs => match decA X m a obs with
    | some (x, obs') => match decL r as obs' with
      | some xs => some (x, xs)
      | none => none
    | none => none
  | _, _, _ => none

/-- values brought into the form of modes: their cells, their objects under new numbers, which old number became which, and what was only read -/
structure Nm (Δ : Nat → Type) where
  obs : Obs Δ
  prs : List (Nat × Nat)
  lent : List Nat
  nils : List Nat := []

/-- what a box that is told as a slice holds -/
def slC (h : Heap Δ) (o : Nat) : Option (Lst Δ × Nat) :=
  match hget h o with
  | some (.box t [.own o2]) => match isSlT t, hget h o2 with
    | true, some (.arr _ k l _) => some (⟨.sl k, [l], [o, o2]⟩, o2)
    | _, _ => none
  | _ => none
def slN (h : Heap Δ) : CV Δ → Option (Lst Δ × Nat)
  | .own o => slC h o
  | _ => none
def nmC (h : Heap Δ) (k : Kd) (f : Option (Bool × Nat)) (c : CV Δ) : Option (CV Δ × Nm Δ) :=
  match f with
  | some (d, id) => match c with
    | .own o => match hget h o with
      | some (.arr d' k' l _) => match !(d == d') && !flat X k' with
        | true => none
        | false => some (.own id, { obs := [(id, .arr d k' l 0)], prs := [(o, id)], lent := [] })
      | _ => match d, slC h o with
        | false, some (s, o2) => some (.own id, { obs := [(id, .arr false s.k s.l 0)], prs := [(o, id)], lent := [o2] })
        | _, _ => none
    | .nil => match k with
      | .sl e => some (.own id, { obs := [(id, .arr d e [] 0)], prs := [], lent := [], nils := [id] })
      | _ => none
    | _ => none
  | none => match slN h c with
    | some (s, _) => some (.shs s.k s.l, { obs := [], prs := [], lent := s.os })
    | none => match lendC X h c with
      | some (c', os) => some (normC k c', { obs := [], prs := [], lent := os })
      | none => none
def nmCs (h : Heap Δ) : List Kd → List (Option (Bool × Nat)) → List (CV Δ) → Option (List (CV Δ) × Nm Δ)
  | _, _, [] => some ([], { obs := [], prs := [], lent := [] })
  | k :: ks, fl, c :: cs => match nmC X h k (match fl with | f :: _ => f | [] => none) c, nmCs h ks fl.tail cs with
    | some (c', n), some (cs', n') => some (c' :: cs', ⟨n.obs ++ n'.obs, n.prs ++ n'.prs, n.lent ++ n'.lent, n.nils ++ n'.nils⟩)
    | _, _ => none
  | [], _, _ :: _ => none
def nmA (h : Heap Δ) (m : Md) (a : AV Δ) : Option (AV Δ × Nm Δ) :=
  match m.ptr with
  | true => match a with
    | .v (.one (.ptr o 0)) => match hget h o with
      | some (.box t cs) => match Nat.beq t m.t && !isSlT t, nmCs X h (kcs X m.k) m.fl cs with
        | true, some (cs', n) => some (.c (.ptr m.id 0), ⟨(m.id, .box t cs') :: n.obs, (o, m.id) :: n.prs, n.lent, n.nils⟩)
        | _, _ => none
      | _ => none
    | .v (.one (.own o)) => match hget h o with
      | some (.box t cs) => match Nat.beq t m.t && isSlT t, nmCs X h (kcs X m.k) m.fl cs with
        | true, some (cs', n) => some (.c (.own m.id), ⟨(m.id, .box t cs') :: n.obs, (o, m.id) :: n.prs, n.lent, n.nils⟩)
        | _, _ => none
      | _ => none
    | _ => none
  | false => match a, isSt m.k with
    | .v (.agg cs), true => match nmCs X h (kcs X m.k) m.fl cs with
      | some (cs', n) => some (.v (.agg cs'), n)
      | none => none
    | .v (.one c), false => match nmCs X h (kcs X m.k) m.fl [c] with
      | some ([c'], n) => some (.c c', n)
      | _ => none
    | _, _ => none
def nmL (h : Heap Δ) : List Md → List (AV Δ) → Option (List (AV Δ) × Nm Δ)
  | [], [] => some ([], { obs := [], prs := [], lent := [] })
  | m :: ms, a :: as => match nmA X h m a, nmL h ms as with
    | some (a', n), some (as', n') => some (a' :: as', ⟨n.obs ++ n'.obs, n.prs ++ n'.prs, n.lent ++ n'.lent, n.nils ++ n'.nils⟩)
    | _, _ => none
  | _, _ => none

def disj : List Nat → List Nat → Bool
  | [], _ => true
  | x :: r, l => cond (isIn l x) false (disj r l)
def pinOk (pins : List Nat) : List (Nat × Nat) → Bool
  | [] => true
  | (a, b) :: r => cond (isIn pins a || isIn pins b) (cond (Nat.beq a b) (pinOk pins r) false) (pinOk pins r)
/-- 999 is the number of what is hidden -/
def nmOk2 (pins : List Nat) (n : Nm Δ) : Bool :=
  disj n.nils pins && !isIn (n.obs.map (·.1)) 999 && !isIn (n.prs.map (·.1)) 999 && !isIn n.lent 999
def nmOk (pins : List Nat) (n : Nm Δ) : Bool :=
  nmOk2 pins n && nodup (n.prs.map (·.1)) && nodup (n.prs.map (·.2)) && nodup (n.obs.map (·.1)) && disj n.nils (n.prs.map (·.2)) && disj n.lent (n.prs.map (·.1)) && pinOk pins n.prs

/-- a function's contract: how its arguments come, which of them are changed in place, how its results come; whether what it gives may hold on to what it only read; what it computes -/
structure Sg where
  ms : List Md
  keep : List Bool
  rs : List Md
  hold : Bool := false
def keptMs : List Md → List Bool → List Md
  | m :: ms, true :: ks => m :: keptMs ms ks
  | _ :: ms, false :: ks => keptMs ms ks
  | _, _ => []
@[reducible] def Sg.outs (s : Sg) : List Md := keptMs s.ms s.keep ++ s.rs
structure Sm (Δ : Nat → Type) where
  sg : Sg
  fn : HL Δ sg.ms → Option (HL Δ sg.outs)

def lookN : List (Nat × Nat) → Nat → Option Nat := look
/-- the old number of a new one -/
def oldOf : List (Nat × Nat) → Nat → Option Nat
  | [], _ => none
  | (a, b) :: r, n => cond (Nat.beq b n) (some a) (oldOf r n)
def rnC (f : Nat → Nat) : CV Δ → CV Δ
  | .own o => .own (f o)
  | .ptr o off => .ptr (f o) off
  | c => c
def rnP (f : Nat → Nat) : PV Δ → PV Δ
  | .one c => .one (rnC f c)
  | .agg cs => .agg (cs.map (rnC f))
def rnA (f : Nat → Nat) : AV Δ → AV Δ
  | .v p => .v (rnP f p)
  | .tup ps => .tup (ps.map (rnP f))
def rnO (f : Nat → Nat) : Ob Δ → Ob Δ
  | .box t cs => .box t (cs.map (rnC f))
  | o => o
def pos : List Nat → Nat → Nat → Nat
  | [], _, j => j
  | x :: r, n, j => cond (Nat.beq x n) j (pos r n (Nat.succ j))
/-- behind a call: kept objects have their callers' numbers, all others new ones -/
def backId (kept : List Nat) (prs : List (Nat × Nat)) (all : List Nat) (d : Nat) (id : Nat) : Nat :=
  cond (isIn kept id) (match oldOf prs id with | some o => o | none => 0) (nid d (pos all id 0))
def rootId (m : Md) : List Nat :=
  match m.ptr with
  | true => [m.id]
  | false => m.fl.filterMap fun f => match f with | some (_, id) => some id | none => none
def rootIds (ms : List Md) : List Nat := ms.flatMap rootId
def tupOf : List (AV Δ) → Option (AV Δ)
  | [a] => some a
  | as => match as.mapM (fun a => match a with | AV.v p => some p | _ => none) with
    | some ps => some (.tup ps)
    | none => none
def newIds (kept all : List Nat) (d : Nat) : List Nat := (all.filter fun i => !isIn kept i).map fun i => nid d (pos all i 0)
/-- a deep array that has been changed has a new version -/
def bump (h : Heap Δ) (o : Nat) : Ob Δ → Option (Ob Δ)
  | .arr true k l _ => match hget h o with
    | some (.arr true k0 _ v) => match decide (k = k0) with
      | true => some (.arr true k l (Nat.succ v))
      | false => none
    | _ => none
  | x => some x
/-- what is written behind a call -/
def callWs (h : Heap Δ) (kept : List Nat) (f : Nat → Nat) : Obs Δ → Option (Heap Δ)
  | [] => some []
  | (i, x) :: r => match cond (isIn kept i) (bump h (f i) (rnO f x)) (some (rnO f x)), callWs h kept f r with
    | some y, some ws => some ((f i, some y) :: ws)
    | _, _ => none
/-- what has such kinds holds on to nothing that is shared -/
def cleanCs : List Kd → List (Option (Bool × Nat)) → Bool
  | [], _ => true
  | .sl e :: ks, fl => (match fl with
    | some (d, _) :: _ => d || flat X e
    | _ => false) && cleanCs ks fl.tail
  | _ :: ks, fl => cleanCs ks fl.tail
def cleanMs : List Md → Bool
  | [] => true
  | m :: r => cleanCs X (kcs X m.k) m.fl && cleanMs r
def callEff (s : Sg) (h : Heap Δ) (dst : Option Nat) (used : List Nat) (q : Nm Δ) (r : HL Δ s.outs) : Option (Eff Δ) :=
  match dst with
  | none => none
  | some d =>
    let e := encL X s.outs r
    let all := e.2.map (·.1)
    let kept := rootIds (keptMs s.ms s.keep)
    let f := backId kept q.prs all d
    match disj (newIds kept all d) used && kept.all (fun i => (oldOf q.prs i).isSome) && nodup all && (s.hold || noneL q.lent || cleanMs X s.outs), nodup (newIds kept all d), tupOf ((e.1.drop (keptMs s.ms s.keep).length).map (rnA f)), callWs h kept f e.2 with
    | true, true, some v, some ws => some {
        val := v
        writes := ws ++ (q.prs.map fun x => (x.1, none)) ++ (match s.hold with | true => q.lent.map fun o => (o, none) | false => [])
        news := newIds kept all d
        reads := q.prs.map (·.1) ++ q.lent }
    | _, _, _, _ => none

/-- a branch on data, a call, a place where ways meet: named, so that a printer can see them -/
def br {α : Type} (b : Bool) (x y : α) : α := cond b x y
def gd {α : Type} (b : Bool) (x : Option α) : Option α := cond b x none
def bnd {α β : Type} (x : Option α) (f : α → Option β) : Option β := Option.bind x f
def joinK {Out : Type} (r : Nat) (as : List (AV Δ)) (obs : Obs Δ) (f : List (AV Δ) → Obs Δ → Option Out) : Option Out := f as obs
def callK (s : Sm Δ) (dst : Option Nat) (used : List Nat) (args : List (AV Δ)) (h : Heap Δ) {Out : Type} (K : Eff Δ → Option Out) : Option Out :=
  match nmL X h s.sg.ms args with
  | none => none
  | some (as, q) => match nmOk [] q, decL X s.sg.ms as q.obs with
    | true, some x => bnd (s.fn x) fun r => match callEff X s.sg h dst used q r with
      | some e => K e
      | none => none
    | _, _ => none

/-- the first argument that is a slice within a deep array where a slice of its own is wanted -/
def findD : List Md → List (AV Δ) → Nat → Option (Nat × Nat × Nat × Kd × Int × Nat)
  | m :: ms, .v (.one (.dsl o ver k i off)) :: as, j => match m.ptr, m.fl with
    | false, [some _] => some (j, o, ver, k, i, off)
    | _, _ => findD ms as (Nat.succ j)
  | _ :: ms, _ :: as, j => findD ms as (Nat.succ j)
  | _, _, _ => none
/-- no slice within a deep array among them -/
def noDC : CV Δ → Bool
  | .dsl _ _ _ _ _ => false
  | .dpp _ _ _ _ _ _ _ _ => false
  | _ => true
def noDL : List (CV Δ) → Bool
  | [] => true
  | c :: r => cond (noDC c) (noDL r) false
def noDP : PV Δ → Bool
  | .one c => noDC c
  | .agg cs => noDL cs
def noDPs : List (PV Δ) → Bool
  | [] => true
  | p :: r => cond (noDP p) (noDPs r) false
def noDA : AV Δ → Bool
  | .v p => noDP p
  | .tup ps => noDPs ps
def noDO : Ob Δ → Bool
  | .box _ cs => noDL cs
  | .arr _ _ _ _ => true
def noDH : Heap Δ → Bool
  | [] => true
  | (_, some x) :: r => cond (noDO x) (noDH r) false
  | (_, none) :: r => noDH r
def tmpId : Option Nat → Nat
  | some d => nid d 15
  | none => 999
/-- the slice is given back -/
def backD (o t : Nat) (k : Kd) (l : List (k.T Δ)) (ver : Nat) (i : Int) (off : Nat) (k2 : Kd) (e : Eff Δ) : Option (Eff Δ) :=
  match hget e.writes t, isIn (e.writes.map (·.1)) o, noDA e.val && noDH e.writes with
  | some (.arr true k2' l2' _), false, true => match decide (k2 = k2'), ofCells X k (setAt (cells X k (rd X k l i)) off [.shs k2' l2']) with
    | true, some x => some { val := e.val, writes := (o, some (.arr true k (l.set i.toNat x) (Nat.succ ver))) :: (t, none) :: e.writes, news := t :: e.news, reads := o :: e.reads }
    | _, _ => none
  | _, _, _ => none
/-- a call that may change a slice within a deep array -/
def callX (s : Sm Δ) (dst : Option Nat) (used : List Nat) (args : List (AV Δ)) (h : Heap Δ) {Out : Type} (K : Eff Δ → Option Out) : Option Out :=
  match findD s.sg.ms args 0 with
  | none => callK X s dst used args h K
  | some (j, o, ver', k', i, off) => match hget h o with
    | some (.arr true k l ver) => match decide (k' = k), Nat.beq ver' ver, (cells X k (rd X k l i))[off]?, isIn used (tmpId dst) || Nat.beq (tmpId dst) 999 with
      | true, true, some (.shs k2 l2), false =>
        callK X s dst (tmpId dst :: used) (args.set j (.c (.own (tmpId dst)))) ((tmpId dst, some (.arr true k2 l2 0)) :: (o, none) :: h) fun e =>
          match backD X o (tmpId dst) k l ver i off k2 e with
          | some e' => K e'
          | none => none
      | _, _, _, _ => none
    | _ => none

def guardK {Out : Type} : List Bool → Option Out → Option Out
  | [], k => k
  | b :: r, k => gd b (guardK r k)

/-- a normal form of a state: slots with their modes, slots that are others' objects -/
structure Lv where
  id : Nat := 0
  slots : List Nat
  ms : List Md
  al : List (Nat × Nat × Bool) := []
structure Ann where
  dp : Nat → Bool := fun _ => false
  lp : Nat → Option Lv := fun _ => none
  jn : Nat → Option Lv := fun _ => none
  pins : List Nat := []
  nt : Nat := 0

variable (Φ : Nat → Option (Sm Δ)) (A : Ann)

def opK (o : Oper) (env : Env Δ) (h : Heap Δ) (used : List Nat) {Out : Type} (K : Eff Δ → Option Out) : Option Out :=
  match o.op with
  | .call { callee := .value (.func f), args := as, .. } => match Φ f, rhos env as.toList with
    | some s, some vs => callX X s o.dst used vs h K
    | _, _ => none
  | _ => match op1 X A.dp used o env h with
    | some (gs, e) => guardK gs (K e)
    | none => none

def updE (env : Env Δ) (d : Option Nat) (v : AV Δ) : Env Δ :=
  match d with
  | some d => (d, v) :: env
  | none => env
def St.put (s : St Δ) (d : Option Nat) (e : Eff Δ) : St Δ := ⟨updE s.env d e.val, e.writes ++ s.heap, e.news ++ s.used⟩

/-- what was read and written, operation by operation -/
abbrev Log := List (Nat × List Nat × List Nat)
def dstOk (n : Nat) : Option Nat → Bool
  | none => true
  | some d => Nat.blt d n
def one1 (ops : List Oper) (i : Nat) (s : St Δ) {Out : Type} (K : St Δ → List Nat → List Nat → Option Out) : Option Out :=
  match ops[i]? with
  | none => none
  | some o => match dstOk A.nt o.dst, o.guard with
    | false, _ => none
    | true, none => opK X Φ A o s.env s.heap s.used fun e => K (s.put o.dst e) e.reads (e.writes.map (·.1) ++ e.news)
    | true, some (j, want) => match ops[j]? with
      | none => none
      | some oj => match oj.dst with
        | none => none
        | some dj => match look s.env dj with
          | some (.v (.one (.bool b))) =>
            br b
              (match want with
               | true => opK X Φ A o ((dj, .c (.bool true)) :: s.env) s.heap s.used fun e => K ((⟨(dj, .c (.bool true)) :: s.env, s.heap, s.used⟩ : St Δ).put o.dst e) e.reads (e.writes.map (·.1) ++ e.news)
               | false => K ⟨updE ((dj, .c (.bool true)) :: s.env) o.dst (.tup []), s.heap, s.used⟩ [] [])
              (match want with
               | false => opK X Φ A o ((dj, .c (.bool false)) :: s.env) s.heap s.used fun e => K ((⟨(dj, .c (.bool false)) :: s.env, s.heap, s.used⟩ : St Δ).put o.dst e) e.reads (e.writes.map (·.1) ++ e.news)
               | true => K ⟨updE ((dj, .c (.bool false)) :: s.env) o.dst (.tup []), s.heap, s.used⟩ [] [])
          | some (.tup []) => K ⟨updE s.env o.dst (.tup []), s.heap, s.used⟩ [] []
          | _ => none
def opsK (ops : List Oper) {Out : Type} (K : St Δ → Log → Option Out) : List Nat → St Δ → Log → Option Out
  | [], s, lg => K s lg
  | i :: r, s, lg => one1 X Φ A ops i s fun s' rs ws => opsK ops K r s' ((i, rs, ws) :: lg)

def rangeL : Nat → Nat → List Nat
  | 0, _ => []
  | n + 1, i => i :: rangeL n (Nat.succ i)
/-- an order of a region's operations that its edges allow -/
def readyIn (ops : List Oper) (done : List Nat) : Nat → Nat → Option Nat
  | 0, _ => none
  | n + 1, i => cond (isIn done i) (readyIn ops done n (Nat.succ i)) (match ops[i]? with
    | some o => cond (o.after.toList.all fun e => !Region.binds .any e || isIn done e.on) (some i) (readyIn ops done n (Nat.succ i))
    | none => none)
def topo (ops : List Oper) (len : Nat) : Nat → List Nat → List Nat
  | 0, _ => []
  | n + 1, done => match readyIn ops done len 0 with
    | some i => i :: topo ops len n (i :: done)
    | none => []

/-- what comes ahead of an operation -/
def ahead (ops : List Oper) : Nat → List Nat → List Nat
  | 0, acc => acc
  | n + 1, acc => ahead ops n (acc.foldl (fun a i => match ops[i]? with
    | some o => o.after.toList.foldl (fun a e => cond (!Region.binds .any e || isIn a e.on) a (e.on :: a)) a
    | none => a) acc)

inductive Ex where | nrm | exit (n : Nat) | ret

def pick (env : Env Δ) : List Nat → Option (List (AV Δ))
  | [] => some []
  | t :: r => match look env t with
    | none => none
    | some v => match pick env r with
      | none => none
      | some vs => some (v :: vs)
def zipl : List Nat → List (AV Δ) → Env Δ
  | t :: l, v :: vs => (t, v) :: zipl l vs
  | _, _ => []
def alE : List (Nat × Nat × Bool) → Env Δ
  | [] => []
  | (t, id, true) :: r => (t, .c (.ptr id 0)) :: alE r
  | (t, id, false) :: r => (t, .c (.own id)) :: alE r
def alOk (env : Env Δ) (prs : List (Nat × Nat)) : List (Nat × Nat × Bool) → Bool
  | [] => true
  | (t, id, p) :: r => match p, look env t with
    | true, some (.v (.one (.ptr o 0))) => (match look prs o with | some n => Nat.beq n id | none => false) && alOk env prs r
    | false, some (.v (.one (.own o))) => (match look prs o with | some n => Nat.beq n id | none => false) && alOk env prs r
    | _, _ => false
def cfg (lv : Lv) (as : List (AV Δ)) (obs : Obs Δ) : St Δ :=
  ⟨zipl lv.slots as ++ alE lv.al, obs.map fun x => (x.1, some x.2), A.pins ++ obs.map (·.1)⟩
def normSt (lv : Lv) (s : St Δ) : Option (List (AV Δ) × Obs Δ) :=
  match pick s.env lv.slots with
  | none => none
  | some vs => match nmL X s.heap lv.ms vs with
    | none => none
    | some (as, q) => match nmOk A.pins q && alOk s.env q.prs lv.al with
      | true => some (as, q.obs)
      | false => none

def iter {Out : Type} (lv : Lv) (body : St Δ → (Ex → St Δ → Option Out) → Option Out) (K : Ex → St Δ → Option Out) : Nat → List (AV Δ) → Obs Δ → Option Out
  | 0, _, _ => none
  | n + 1, as, obs => body (cfg A lv as obs) fun e s => match e with
    | .nrm => match normSt X A lv s with
      | some (as, obs) => iter lv body K n as obs
      | none => none
    | e => K e s

/-- the number of the region that a piece of code begins with -/
def firstR : Code → Option Nat
  | .region id _ _ => some id
  | .seq a _ => firstR a
  | .block _ a => firstR a
  | _ => none

/-- j is told to come ahead of i, or the other way round -/
def after1 (ops : List Oper) (i j : Nat) : Bool :=
  match ops[i]? with
  | some o => o.after.toList.any fun e => Region.binds .any e && Nat.beq e.on j
  | none => false
def ordered (ops : List Oper) (i j : Nat) : Bool :=
  after1 ops i j || after1 ops j i || isIn (ahead ops ops.length [i]) j || isIn (ahead ops ops.length [j]) i
def commOk (ops : List Oper) (lg : Log) : Bool :=
  lg.all fun x => lg.all fun y =>
    Nat.beq x.1 y.1 || (disj x.2.2 y.2.1 && disj x.2.2 y.2.2 && disj y.2.2 x.2.1) || ordered ops x.1 y.1
/-- what an operation looks at among the slots -/
def looksT (ops : List Oper) (o : Oper) : List Nat :=
  (o.op.operands.toList.filterMap fun | .tmp t => some t | _ => none) ++
  (match o.guard with
   | some (g, _) => match ops[g]? with
     | some og => match og.dst with | some d => [d] | none => []
     | none => []
   | none => [])
def clash (ops : List Oper) (a b : Oper) : Bool :=
  match a.dst with
  | none => false
  | some d => isIn (looksT ops b) d || (match b.dst with | some d' => Nat.beq d d' | none => false)
def envOk (ops : List Oper) : Bool :=
  (rangeL ops.length 0).all fun i => (rangeL ops.length 0).all fun j =>
    Nat.beq i j || (match ops[i]?, ops[j]? with
      | some a, some b => !clash ops a b || ordered ops i j
      | _, _ => false)

/-- the list is an order of all the operations that their edges allow -/
def isTopo (ops : List Oper) : List Nat → List Nat → Bool
  | _, [] => true
  | done, i :: r => (match ops[i]? with
    | some o => o.after.toList.all fun e => !Region.binds .any e || isIn done e.on
    | none => false) && isTopo ops (i :: done) r
def topoOk (ops : List Oper) (l : List Nat) : Bool := nodup l && isTopo ops [] l && (rangeL ops.length 0).all (isIn l)

def evK (N : Nat) {Out : Type} : Code → Nat → St Δ → (Ex → St Δ → Option Out) → Option Out
  | .skip, _, s, K => K .nrm s
  | .region _ ops draw, _, s, K => match draw with
    | false => opsK X Φ A ops.toList (fun s _ => K .nrm s) (rangeL ops.toList.length 0) s []
    | true => opsK X Φ A ops.toList (fun s lg => match commOk ops.toList lg && envOk ops.toList && topoOk ops.toList (topo ops.toList ops.toList.length ops.toList.length []) with | true => K .nrm s | false => none) (topo ops.toList ops.toList.length ops.toList.length []) s []
  | .seq a b, i, s, K => evK N a i s fun e s => match e with
    | .nrm => match firstR b with
      | none => evK N b i s K
      | some r => match A.jn r with
        | none => evK N b i s K
        | some lv => match normSt X A lv s with
          | some (as, obs) => joinK r as obs fun as obs => evK N b i (cfg A lv as obs) K
          | none => none
    | e => K e s
  | .cond c a b, i, s, K => match rho s.env c with
    | some (.v (.one (.bool t))) => br t (evK N a i s K) (evK N b i s K)
    | _ => none
  | .block id a, _, s, K => evK N a id s fun e s => match e with
    | .exit j => cond (Nat.beq j id) (K .nrm s) (K e s)
    | e => K e s
  | .loop a, i, s, K => match A.lp i with
    | none => none
    | some lv => match normSt X A lv s with
      | some (as, obs) => iter X A lv (evK N a i) K N as obs
      | none => none
  | .exit n, _, s, K => K (.exit n) s
  | .ret, _, s, K => K .ret s
  | _, _, _, _ => none

/-- the continuations, named -/
def kSeq (N : Nat) {Out : Type} (b : Code) (i : Nat) (K : Ex → St Δ → Option Out) : Ex → St Δ → Option Out := fun e s => match e with
  | .nrm => match firstR b with
    | none => evK X Φ A N b i s K
    | some r => match A.jn r with
      | none => evK X Φ A N b i s K
      | some lv => match normSt X A lv s with
        | some (as, obs) => joinK r as obs fun as obs => evK X Φ A N b i (cfg A lv as obs) K
        | none => none
  | e => K e s
def kBlock {Out : Type} (id : Nat) (K : Ex → St Δ → Option Out) : Ex → St Δ → Option Out := fun e s => match e with
  | .exit j => cond (Nat.beq j id) (K .nrm s) (K e s)
  | e => K e s
def kIter {Out : Type} (lv : Lv) (body : St Δ → (Ex → St Δ → Option Out) → Option Out) (n : Nat) (K : Ex → St Δ → Option Out) : Ex → St Δ → Option Out := fun e s => match e with
  | .nrm => match normSt X A lv s with
    | some (as, obs) => iter X A lv body K n as obs
    | none => none
  | e => K e s

/-- the loop at a place of the code, entered with its state: its continuation is what lies around it; the loops around it have so many rounds left -/
def loopAt (N : Nat) {Out : Type} (n : Nat) (as : List (AV Δ)) (obs : Obs Δ) : Code → Nat → (Ex → St Δ → Option Out) → List Nat → List Nat → Option Out
  | .seq a b, i, K, 0 :: p, ns => loopAt N n as obs a i (kSeq X Φ A N b i K) p ns
  | .seq _ b, i, K, _ :: p, ns => loopAt N n as obs b i K p ns
  | .cond _ a _, i, K, 0 :: p, ns => loopAt N n as obs a i K p ns
  | .cond _ _ b, i, K, _ :: p, ns => loopAt N n as obs b i K p ns
  | .block id a, _, K, _ :: p, ns => loopAt N n as obs a id (kBlock id K) p ns
  | .loop a, i, K, [], _ => match A.lp i with
    | some lv => iter X A lv (evK X Φ A N a i) K n as obs
    | none => none
  | .loop a, i, K, _ :: p, m :: ns => match A.lp i with
    | some lv => loopAt N n as obs a i (kIter X A lv (evK X Φ A N a i) m K) p ns
    | none => none
  | _, _, _, _, _ => none

def resOf (s : St Δ) : ResultVar → Option (AV Δ)
  | .tmp t => look s.env t
  | .cell a t => match look s.env a, tyi X t with
    | some a, some i => match opLoad X s.heap i a with
      | some ([], e) => some e.val
      | _ => none
    | _, _ => none
def resOfs (s : St Δ) : List ResultVar → Option (List (AV Δ))
  | [] => some []
  | r :: rs => match resOf X s r, resOfs s rs with
    | some v, some vs => some (v :: vs)
    | _, _ => none
/-- the slots of the arguments that are kept -/
def keptAt : Nat → List Bool → List Nat
  | _, [] => []
  | i, true :: r => i :: keptAt (Nat.succ i) r
  | i, false :: r => keptAt (Nat.succ i) r
def finK (sg : Sg) (rv : List ResultVar) (s : St Δ) : Option (HL Δ sg.outs) :=
  match pick s.env (keptAt 0 sg.keep), resOfs X s rv with
  | some ks, some rs => match nmL X s.heap sg.outs (ks ++ rs) with
    | none => none
    | some (as, q) => match nmOk A.pins q with
      | true => decL X sg.outs as q.obs
      | false => none
  | _, _ => none
def Kfin (sg : Sg) (rv : List ResultVar) : Ex → St Δ → Option (HL Δ sg.outs) := fun e s =>
  match e with
  | .exit _ => none
  | _ => finK X A sg rv s
def initSt (sg : Sg) (x : HL Δ sg.ms) : St Δ :=
  ⟨zipl (rangeL sg.ms.length 0) (encL X sg.ms x).1, (encL X sg.ms x).2.map fun x => (x.1, some x.2), A.pins ++ (encL X sg.ms x).2.map (·.1)⟩
def runF (N : Nat) (c : Code) (rv : List ResultVar) (sg : Sg) (x : HL Δ sg.ms) : Option (HL Δ sg.outs) :=
  evK X Φ A N c 0 (initSt X A sg x) (Kfin X A sg rv)
end
end Go.Ev

/- How abstract values stand for the machine's: relations, and that they last. -/
set_option linter.unusedVariables false
namespace Go.Ev
variable {Δ : Nat → Type}

inductive All2 {α β : Type} (R : α → β → Prop) : List α → List β → Prop
  | nil : All2 R [] []
  | cons {a b as bs} : R a b → All2 R as bs → All2 R (a :: as) (b :: bs)
inductive All3 {α β γ : Type} (R : α → β → γ → Prop) : List α → List β → List γ → Prop
  | nil : All3 R [] [] []
  | cons {a b c as bs cs} : R a b c → All3 R as bs cs → All3 R (a :: as) (b :: bs) (c :: cs)

theorem All2.mono {α β : Type} {R R' : α → β → Prop} {as : List α} {bs : List β} (h : All2 R as bs) (f : ∀ a b, R a b → R' a b) : All2 R' as bs := by
  induction h with
  | nil => exact .nil
  | cons h _ ih => exact .cons (f _ _ h) ih
theorem All2.mono_mem {α β : Type} {R R' : α → β → Prop} {as : List α} {bs : List β} (h : All2 R as bs) (f : ∀ a b, b ∈ bs → R a b → R' a b) : All2 R' as bs := by
  induction h with
  | nil => exact .nil
  | cons h _ ih => exact .cons (f _ _ (by simp) h) (ih fun a b hb => f a b (by simp [hb]))
theorem All2.length {α β : Type} {R : α → β → Prop} {as : List α} {bs : List β} (h : All2 R as bs) : as.length = bs.length := by
  induction h <;> simp [*]
theorem All2.get {α β : Type} {R : α → β → Prop} {as : List α} {bs : List β} (h : All2 R as bs) {i : Nat} {b : β} (hb : bs[i]? = some b) : ∃ a, as[i]? = some a ∧ R a b := by
  induction h generalizing i with
  | nil => simp at hb
  | cons h _ ih =>
    cases i with
    | zero => simp at hb; subst hb; exact ⟨_, by simp, h⟩
    | succ i => simpa using ih (by simpa using hb)
theorem All2.drop {α β : Type} {R : α → β → Prop} {as : List α} {bs : List β} (h : All2 R as bs) (n : Nat) : All2 R (as.drop n) (bs.drop n) := by
  induction h generalizing n with
  | nil => simpa using All2.nil
  | cons h t ih => cases n with
    | zero => simpa using All2.cons h t
    | succ n => simpa using ih n
theorem All2.take {α β : Type} {R : α → β → Prop} {as : List α} {bs : List β} (h : All2 R as bs) (n : Nat) : All2 R (as.take n) (bs.take n) := by
  induction h generalizing n with
  | nil => simpa using All2.nil
  | cons h t ih => cases n with
    | zero => simpa using All2.nil
    | succ n => simpa using All2.cons h (ih n)
theorem All2.append {α β : Type} {R : α → β → Prop} {as as' : List α} {bs bs' : List β} (h : All2 R as bs) (h' : All2 R as' bs') : All2 R (as ++ as') (bs ++ bs') := by
  induction h with
  | nil => simpa using h'
  | cons h _ ih => exact .cons h ih
theorem All2.setAt {α β : Type} {R : α → β → Prop} {as : List α} {bs : List β} {vs : List α} {cs : List β} (h : All2 R as bs) (h' : All2 R vs cs) (n : Nat) : All2 R (setAt as n vs) (setAt bs n cs) := by
  induction h generalizing n vs cs with
  | nil => simpa [Ev.setAt] using All2.nil
  | cons h t ih =>
    cases h' with
    | nil => simpa [Ev.setAt] using All2.cons h t
    | cons h1 t1 => cases n with
      | zero => simpa [Ev.setAt] using All2.cons h1 (ih t1 0)
      | succ n => simpa [Ev.setAt] using All2.cons h (ih (.cons h1 t1) n)

theorem All3.mono {α β γ : Type} {R R' : α → β → γ → Prop} {as : List α} {bs : List β} {cs : List γ} (h : All3 R as bs cs) (f : ∀ a b c, c ∈ cs → R a b c → R' a b c) : All3 R' as bs cs := by
  induction h with
  | nil => exact .nil
  | cons h _ ih => exact .cons (f _ _ _ (by simp) h) (ih fun a b c hc => f a b c (by simp [hc]))
theorem All3.length {α β γ : Type} {R : α → β → γ → Prop} {as : List α} {bs : List β} {cs : List γ} (h : All3 R as bs cs) : as.length = bs.length ∧ cs.length = bs.length := by
  induction h <;> simp [*]
theorem All3.append {α β γ : Type} {R : α → β → γ → Prop} {as as' : List α} {bs bs' : List β} {cs cs' : List γ} (h : All3 R as bs cs) (h' : All3 R as' bs' cs') : All3 R (as ++ as') (bs ++ bs') (cs ++ cs') := by
  induction h with
  | nil => simpa using h'
  | cons h _ ih => exact .cons h ih
theorem All3.drop {α β γ : Type} {R : α → β → γ → Prop} {as : List α} {bs : List β} {cs : List γ} (h : All3 R as bs cs) (n : Nat) : All3 R (as.drop n) (bs.drop n) (cs.drop n) := by
  induction h generalizing n with
  | nil => simpa using All3.nil
  | cons h t ih => cases n with
    | zero => simpa using All3.cons h t
    | succ n => simpa using ih n
theorem All3.take {α β γ : Type} {R : α → β → γ → Prop} {as : List α} {bs : List β} {cs : List γ} (h : All3 R as bs cs) (n : Nat) : All3 R (as.take n) (bs.take n) (cs.take n) := by
  induction h generalizing n with
  | nil => simpa using All3.nil
  | cons h t ih => cases n with
    | zero => simpa using All3.nil
    | succ n => simpa using All3.cons h (ih n)
theorem All3.get {α β γ : Type} {R : α → β → γ → Prop} {as : List α} {bs : List β} {cs : List γ} (h : All3 R as bs cs) {i : Nat} {b : β} (hb : bs[i]? = some b) : ∃ a c, as[i]? = some a ∧ cs[i]? = some c ∧ R a b c := by
  induction h generalizing i with
  | nil => simp at hb
  | cons h _ ih =>
    cases i with
    | zero => simp at hb; subst hb; exact ⟨_, _, by simp, by simp, h⟩
    | succ i => simpa using ih (by simpa using hb)
/-- the third list chosen -/
theorem All3.of_all2 {α β γ : Type} {R : α → β → γ → Prop} {as : List α} {bs : List β} (h : All2 (fun a b => ∃ c, R a b c) as bs) : ∃ cs, All3 R as bs cs := by
  induction h with
  | nil => exact ⟨[], .nil⟩
  | cons h _ ih => obtain ⟨c, hc⟩ := h; obtain ⟨cs, hs⟩ := ih; exact ⟨c :: cs, .cons hc hs⟩
theorem All3.to_all2 {α β γ : Type} {R : α → β → γ → Prop} {as : List α} {bs : List β} {cs : List γ} (h : All3 R as bs cs) : All2 (fun a b => ∃ c, R a b c) as bs := by
  induction h with
  | nil => exact .nil
  | cons h _ ih => exact .cons ⟨_, h⟩ ih
/-- a number for each made one number for all -/
theorem All3.bound {α β γ : Type} {R : Nat → α → β → γ → Prop} (up : ∀ n m a b c, n ≤ m → R n a b c → R m a b c) {as : List α} {bs : List β} {cs : List γ}
    (h : All3 (fun a b c => ∃ n, R n a b c) as bs cs) : ∃ n, All3 (R n) as bs cs := by
  induction h with
  | nil => exact ⟨0, .nil⟩
  | cons h _ ih =>
    obtain ⟨n, hn⟩ := h; obtain ⟨m, hm⟩ := ih
    exact ⟨max n m, .cons (up _ _ _ _ _ (Nat.le_max_left ..) hn) (hm.mono fun a b c _ h => up _ _ _ _ _ (Nat.le_max_right ..) h)⟩

theorem flatten_nil {α : Type} {l : List (List α)} (h : ∀ x ∈ l, x = []) : l.flatten = [] := by
  simpa using h
def isData {Δ : Nat → Type} : CV Δ → Bool
  | .int _ _ | .bool _ | .str _ | .err _ | .shs _ _ => true
  | _ => false
/-- what may stand where a kind is wanted -/
def kc {Δ : Nat → Type} : Kd → CV Δ → Bool
  | .sl e, .shs e' _ => decide (e = e')
  | .sl _, _ => false
  | _, .shs _ _ => false
  | _, _ => true
/-- the facts that a table of types must have -/
structure Xok (X : Cx Δ) : Prop where
  to_fr : ∀ n cs x, X.fr n cs = some x → X.to n x = cs
  len : ∀ n x, (X.to n x).length = (X.kinds n).length
  pos : ∀ n, 0 < (X.kinds n).length
  data : ∀ n x, ∀ c ∈ X.to n x, isData c = true
  al : ∀ n x, All2 (fun k c => kc k c = true) (X.kinds n) (X.to n x)
  nosl : ∀ n x, flatKs (X.kinds n) = true → ∀ c ∈ X.to n x, ∀ k l, c ≠ .shs k l

inductive Own | sh | sl | dp
def Own.inner : Own → Own
  | .dp => .dp
  | _ => .sh

section
variable (X : Cx Δ)

/-- a slice with no place -/
def Emp (m : Own) (v : Value) : Prop := v = .slice none 0 0 ∨ (m = .sh ∧ ∃ a, v = .slice (some a) 0 0)
theorem Emp.zero {m : Own} {a : Option Addr} {n c : Nat} (h : Emp m (.slice a n c)) : n = 0 ∧ c = 0 := by
  rcases h with h | ⟨_, x, h⟩ <;> cases h <;> exact ⟨rfl, rfl⟩
theorem Emp.shape {m : Own} {v : Value} (h : Emp m v) : ∃ a, v = .slice a 0 0 := by
  rcases h with h | ⟨_, x, h⟩
  · exact ⟨none, h⟩
  · exact ⟨some x, h⟩
def ArrR (m : Own) (w : World) (S : Nat → Prop) (rec : Value → CV Δ → List Nat → Prop) (v : Value) (k : Kd) (l : List (k.T Δ)) (F : List Nat) : Prop :=
  (Emp m v ∧ l = [] ∧ F = []) ∨
  ∃ b off cap c t fr Fs, v = .slice (some ⟨b, off, none⟩) l.length cap ∧ w.heap[b]? = some (.cells c t fr) ∧
    off + cap * ksz X k ≤ c.size ∧ l.length ≤ cap ∧
    (match m with | .sh => S b ∧ F = Fs.flatten | _ => fr = (0, 0) ∧ F = b :: Fs.flatten) ∧
    All3 rec ((c.toList.drop off).take (l.length * ksz X k)) (l.flatMap (cells X k)) Fs

def RR (w : World) (S : Nat → Prop) : Nat → Own → Value → CV Δ → List Nat → Prop
  | _, _, v, .int k x, F => v = .int k x ∧ F = []
  | _, _, v, .bool b, F => v = .bool b ∧ F = []
  | _, _, v, .str s, F => v = .string ⟨s.toArray⟩ ∧ F = []
  | _, _, v, .err true, F => v = .nilIface ∧ F = []
  | _, _, v, .err false, F => (∃ t x, v = .iface t x) ∧ F = []
  | n + 1, m, v, .shs k l, F => ArrR X m w S (RR w S n m.inner) v k l F
  | _, _, _, _, _ => False

theorem ArrR.mono {m : Own} {w : World} {S : Nat → Prop} {r r' : Value → CV Δ → List Nat → Prop} {v : Value} {k : Kd} {l : List (k.T Δ)} {F : List Nat}
    (h : ArrR X m w S r v k l F) (f : ∀ a b c, r a b c → r' a b c) : ArrR X m w S r' v k l F := by
  rcases h with h | ⟨b, off, cap, c, t, fr, Fs, h1, h2, h3, h4, h5, h6⟩
  · exact .inl h
  · exact .inr ⟨b, off, cap, c, t, fr, Fs, h1, h2, h3, h4, h5, h6.mono fun a b c _ => f a b c⟩

theorem RR.up {w : World} {S : Nat → Prop} : ∀ (n : Nat) (m : Own) (v : Value) (c : CV Δ) (F : List Nat), RR X w S n m v c F → RR X w S (n + 1) m v c F
  | 0, m, v, c, F, h => by
    cases c with
    | err b => cases b <;> simp_all [RR]
    | _ => simp_all [RR]
  | n + 1, m, v, c, F, h => by
    cases c with
    | shs k l => exact ArrR.mono X (l := l) h (RR.up n m.inner)
    | err b => cases b <;> simp_all [RR]
    | _ => simp_all [RR]
theorem RR.le {w : World} {S : Nat → Prop} {n n' : Nat} (h : n ≤ n') {m : Own} {v : Value} {c : CV Δ} {F : List Nat} (hr : RR X w S n m v c F) : RR X w S n' m v c F := by
  induction h with
  | refl => exact hr
  | step _ ih => exact RR.up X _ _ _ _ _ ih

def Rel (m : Own) (w : World) (S : Nat → Prop) (v : Value) (c : CV Δ) (F : List Nat) : Prop := ∃ n, RR X w S n m v c F

theorem Rel.shs_iff {m : Own} {w : World} {S : Nat → Prop} {v : Value} {k : Kd} {l : List (k.T Δ)} {F : List Nat} :
    Rel X m w S v (.shs k l) F ↔ ArrR X m w S (Rel X m.inner w S) v k l F := by
  constructor
  · rintro ⟨n, h⟩
    cases n with
    | zero => simp [RR] at h
    | succ n => exact ArrR.mono X (l := l) h fun a b c h => ⟨n, h⟩
  · rintro (h | ⟨b, off, cap, c, t, fr, Fs, h1, h2, h3, h4, h5, h6⟩)
    · exact ⟨1, .inl h⟩
    · obtain ⟨n, hn⟩ := All3.bound (R := fun n a b c => RR X w S n m.inner a b c) (fun n n' a b c hle h => RR.le X hle h) h6
      exact ⟨n + 1, .inr ⟨b, off, cap, c, t, fr, Fs, h1, h2, h3, h4, h5, hn⟩⟩

theorem Rel.int {m : Own} {w : World} {S : Nat → Prop} {v : Value} {k : IntKind} {n : Int} {F : List Nat} : Rel X m w S v (.int k n) F ↔ v = .int k n ∧ F = [] := ⟨fun ⟨i, h⟩ => by cases i <;> simpa [RR] using h, fun h => ⟨0, by simpa [RR] using h⟩⟩
theorem Rel.bool {m : Own} {w : World} {S : Nat → Prop} {v : Value} {n : Bool} {F : List Nat} : Rel X m w S v (.bool n) F ↔ v = .bool n ∧ F = [] := ⟨fun ⟨i, h⟩ => by cases i <;> simpa [RR] using h, fun h => ⟨0, by simpa [RR] using h⟩⟩
theorem Rel.str {m : Own} {w : World} {S : Nat → Prop} {v : Value} {n : List UInt8} {F : List Nat} : Rel X m w S v (.str n) F ↔ v = .string ⟨n.toArray⟩ ∧ F = [] := ⟨fun ⟨i, h⟩ => by cases i <;> simpa [RR] using h, fun h => ⟨0, by simpa [RR] using h⟩⟩
theorem Rel.errT {m : Own} {w : World} {S : Nat → Prop} {v : Value} {F : List Nat} : Rel X m w S v (.err true) F ↔ v = .nilIface ∧ F = [] := ⟨fun ⟨i, h⟩ => by cases i <;> simpa [RR] using h, fun h => ⟨0, by simpa [RR] using h⟩⟩
theorem Rel.errF {m : Own} {w : World} {S : Nat → Prop} {v : Value} {F : List Nat} : Rel X m w S v (.err false) F ↔ (∃ t x, v = .iface t x) ∧ F = [] := ⟨fun ⟨i, h⟩ => by cases i <;> simpa [RR] using h, fun h => ⟨0, by simpa [RR] using h⟩⟩

/-- it lasts where the blocks stay -/
theorem RR.frame {w w' : World} {S S' : Nat → Prop} (hS : ∀ b, S b → w'.heap[b]? = w.heap[b]?) (hSS : ∀ b, S b → S' b) :
    ∀ (n : Nat) (m : Own) (v : Value) (c : CV Δ) (F : List Nat), (∀ b ∈ F, w'.heap[b]? = w.heap[b]?) → RR X w S n m v c F → RR X w' S' n m v c F
  | 0, m, v, c, F, hF, h => by
    cases c with
    | err b => cases b <;> simp_all [RR]
    | _ => simp_all [RR]
  | n + 1, m, v, c, F, hF, h => by
    cases c with
    | shs k l =>
      rcases h with h | ⟨b, off, cap, c, t, fr, Fs, h1, h2, h3, h4, h5, h6⟩
      · exact .inl h
      · have hb : w'.heap[b]? = w.heap[b]? := by
          cases m with
          | sh => exact hS b h5.1
          | _ => exact hF b (by simp [h5.2])
        refine .inr ⟨b, off, cap, c, t, fr, Fs, h1, by rw [hb, h2], h3, h4, ?_, h6.mono fun a x d hd h => RR.frame hS hSS n m.inner a x d (fun b' hb' => hF b' ?_) h⟩
        · cases m with
          | sh => exact ⟨hSS b h5.1, h5.2⟩
          | _ => exact h5
        · have : b' ∈ Fs.flatten := List.mem_flatten.2 ⟨d, hd, hb'⟩
          cases m with
          | sh => rw [h5.2]; exact this
          | _ => rw [h5.2]; simp [this]
    | err b => cases b <;> simp_all [RR]
    | _ => simp_all [RR]
theorem Rel.frame {w w' : World} {S S' : Nat → Prop} (hS : ∀ b, S b → w'.heap[b]? = w.heap[b]?) (hSS : ∀ b, S b → S' b)
    {m : Own} {v : Value} {c : CV Δ} {F : List Nat} (hF : ∀ b ∈ F, w'.heap[b]? = w.heap[b]?) (h : Rel X m w S v c F) : Rel X m w' S' v c F :=
  h.imp fun n h => RR.frame X hS hSS n m v c F hF h

theorem RR.sh_nil {w : World} {S : Nat → Prop} : ∀ (n : Nat) (v : Value) (c : CV Δ) (F : List Nat), RR X w S n .sh v c F → F = []
  | 0, v, c, F, h => by
    cases c with
    | err b => cases b <;> simp_all [RR]
    | _ => simp_all [RR]
  | n + 1, v, c, F, h => by
    cases c with
    | shs k l =>
      rcases h with h | ⟨b, off, cap, c, t, fr, Fs, h1, h2, h3, h4, h5, h6⟩
      · exact h.2.2
      · rw [h5.2]
        have : ∀ F ∈ Fs, F = [] := by
          intro F hF
          obtain ⟨i, hi⟩ := List.getElem?_of_mem hF
          have hlen := h6.length
          have hb : i < (l.flatMap (cells X k)).length := by
            have := (List.getElem?_eq_some_iff.1 hi).1
            omega
          obtain ⟨a, c', ha, hc, hr⟩ := h6.get (List.getElem?_eq_getElem hb)
          rw [hi] at hc; cases hc
          exact RR.sh_nil n _ _ _ hr
        exact flatten_nil this
    | err b => cases b <;> simp_all [RR]
    | _ => simp_all [RR]
theorem Rel.sh_nil {w : World} {S : Nat → Prop} {v : Value} {c : CV Δ} {F : List Nat} (h : Rel X .sh w S v c F) : F = [] := by
  obtain ⟨n, h⟩ := h; exact RR.sh_nil X n v c F h

/-- what is owned becomes shared -/
theorem RR.share {w : World} {S S' : Nat → Prop} (hSS : ∀ b, S b → S' b) :
    ∀ (n : Nat) (m : Own) (v : Value) (c : CV Δ) (F : List Nat), (∀ b ∈ F, S' b) → RR X w S n m v c F → RR X w S' n .sh v c []
  | 0, m, v, c, F, hF, h => by
    cases c with
    | err b => cases b <;> simp_all [RR]
    | _ => simp_all [RR]
  | n + 1, m, v, c, F, hF, h => by
    cases c with
    | shs k l =>
      rcases h with h | ⟨b, off, cap, c, t, fr, Fs, h1, h2, h3, h4, h5, h6⟩
      · exact .inl ⟨h.1.imp id fun h => ⟨rfl, h.2⟩, h.2.1, rfl⟩
      · have hb : S' b := by
          cases m with
          | sh => exact hSS b h5.1
          | _ => exact hF b (by simp [h5.2])
        have hFs : ∀ F' ∈ Fs, ∀ b' ∈ F', S' b' := fun F' hF' b' hb' => hF b' (by
          have : b' ∈ Fs.flatten := List.mem_flatten.2 ⟨F', hF', hb'⟩
          cases m with
          | sh => rw [h5.2]; exact this
          | _ => rw [h5.2]; simp [this])
        have key : All3 (RR X w S' n .sh) ((c.toList.drop off).take (l.length * ksz X k)) (l.flatMap (cells X k)) (Fs.map fun _ => []) := by
          have hh := h6.mono (R' := fun a x d => RR X w S' n .sh a x []) fun a x d hd h => RR.share hSS n m.inner a x d (hFs d hd) h
          clear h6 hFs hF h5
          generalize ((c.toList.drop off).take (l.length * ksz X k)) = as at hh
          generalize (l.flatMap (cells X k)) = bs at hh
          induction hh with
          | nil => exact .nil
          | cons h _ ih => exact .cons h ih
        exact .inr ⟨b, off, cap, c, t, fr, Fs.map fun _ => [], h1, h2, h3, h4, ⟨hb, (flatten_nil (by simp)).symm⟩, key⟩
    | err b => cases b <;> simp_all [RR]
    | _ => simp_all [RR]
theorem Rel.share {w : World} {S S' : Nat → Prop} (hSS : ∀ b, S b → S' b) {m : Own} {v : Value} {c : CV Δ} {F : List Nat} (hF : ∀ b ∈ F, S' b) (h : Rel X m w S v c F) :
    Rel X .sh w S' v c [] := h.imp fun n h => RR.share X hSS n m v c F hF h
end
end Go.Ev

/- The machine's memory beside the abstract one; changes of both. -/
set_option linter.unusedVariables false
namespace Go.Ev
variable {Δ : Nat → Type} (X : Cx Δ)

/-- a place in a box, or a map -/
def PtrAt (r v : Value) (off : Nat) : Prop := (∃ b, r = .pointer (some ⟨b, 0, none⟩) ∧ v = .pointer (some ⟨b, off, none⟩)) ∨ (∃ b, r = .map (some b) ∧ off = 0 ∧ v = .map (some b))
theorem PtrAt.ptr {b : Nat} {v : Value} {off : Nat} (h : PtrAt (.pointer (some ⟨b, 0, none⟩)) v off) : v = .pointer (some ⟨b, off, none⟩) := by
  rcases h with ⟨b', e, h⟩ | ⟨b', e, _⟩
  · cases e; exact h
  · cases e
theorem PtrAt.map {b : Nat} {v : Value} {off : Nat} (h : PtrAt (.map (some b)) v off) : v = .map (some b) := by
  rcases h with ⟨b', e, _⟩ | ⟨b', e, _, h⟩
  · cases e
  · cases e; exact h
/-- a map of truths as the list of its keys -/
def MapR (w : World) (b : Nat) (cs : List (CV Δ)) : Prop := ∃ (l : List Int) (es : Array MapEntry) (ck : Nat), cs = [.shs (.int .i64) l] ∧ w.heap[b]? = some (.map es ck) ∧ es.toList.map (fun e => (e.key, e.val)) = l.map fun n => (.int .i64 n, .bool true)

def VR (h : Heap Δ) (σ : Nat → Option Value) (w : World) (S : Nat → Prop) (v : Value) : CV Δ → Prop
  | .junk => True
  | .nil => v = .slice none 0 0
  | .own o => σ o = some v
  | .ptr o off => ∃ r, σ o = some r ∧ PtrAt r v off
  | .fn f => v = .func (.func f) #[] #[]
  | .shp k l i off => 0 ≤ i ∧ i < l.length ∧ ∃ b base cap, Rel X .sh w S (.slice (some ⟨b, base, none⟩) l.length cap) (.shs k l) [] ∧ v = .pointer (some ⟨b, base + i.toNat * ksz X k + off, none⟩)
  | .opp o k i off => 0 ≤ i ∧ ∃ b base len cap, σ o = some (.slice (some ⟨b, base, none⟩) len cap) ∧ i < len ∧ v = .pointer (some ⟨b, base + i.toNat * ksz X k + off, none⟩)
  | .ovw o k lo hi => 0 ≤ lo ∧ lo ≤ hi ∧ ∃ a len cap, σ o = some (.slice a len cap) ∧ hi ≤ len ∧
      v = .slice (if cap = lo.toNat then a else a.map (·.add (lo.toNat * ksz X k))) (hi.toNat - lo.toNat) (cap - lo.toNat)
  | .dsl o ver k i off => v.oneCell' = true ∧ σ o ≠ none ∧ ∀ l ver', hget h o = some (.arr true k l ver') → ver ≤ ver' ∧ (ver = ver' → 0 ≤ i ∧ i < l.length ∧
      ∃ b base len cap, σ o = some (.slice (some ⟨b, base, none⟩) len cap) ∧ w.cell? ⟨b, base + i.toNat * ksz X k + off, none⟩ = some v)
  | .dpp o ver k i off k2 i2 off2 => v.oneCell' = true ∧ σ o ≠ none ∧ ∀ l ver', hget h o = some (.arr true k l ver') → ver ≤ ver' ∧ (ver = ver' → 0 ≤ i ∧ i < l.length ∧
      ∃ b base len cap b2 base2 len2 cap2, σ o = some (.slice (some ⟨b, base, none⟩) len cap) ∧ w.cell? ⟨b, base + i.toNat * ksz X k + off, none⟩ = some (.slice (some ⟨b2, base2, none⟩) len2 cap2) ∧
        0 ≤ i2 ∧ i2 < len2 ∧ v = .pointer (some ⟨b2, base2 + i2.toNat * ksz X k2 + off2, none⟩))
  | c => Rel X .sh w S v c []

def PR (h : Heap Δ) (σ : Nat → Option Value) (w : World) (S : Nat → Prop) (v : Value) : PV Δ → Prop
  | .one c => VR X h σ w S v c
  | .agg cs => ∃ vs : List Value, v = .agg vs.toArray ∧ All2 (VR X h σ w S) vs cs
def AR (h : Heap Δ) (σ : Nat → Option Value) (w : World) (S : Nat → Prop) (v : Value) : AV Δ → Prop
  | .v p => PR X h σ w S v p
  | .tup ps => ∃ vs : List Value, v = .tuple vs.toArray ∧ All2 (PR X h σ w S) vs ps

def own1 (d : Bool) : Own := match d with | true => .dp | false => .sl
theorem Emp.own {d : Bool} {v : Value} (h : Emp (own1 d) v) : v = .slice none 0 0 := h.resolve_right fun h => by cases d <;> exact absurd h.1 (by simp [own1])

def ObR (h : Heap Δ) (σ : Nat → Option Value) (w : World) (S : Nat → Prop) (F : List Nat) (o : Nat) : Ob Δ → Prop
  | .box t cs => (isSpT t = false ∧ ∃ b c, σ o = some (.pointer (some ⟨b, 0, none⟩)) ∧ F = [b] ∧ w.heap[b]? = some (.cells c t (0, 0)) ∧ All2 (VR X h σ w S) c.toList cs) ∨
      (isMapT t = true ∧ ∃ b, σ o = some (.map (some b)) ∧ F = [b] ∧ MapR w b cs) ∨
      (isSlT t = true ∧ ∃ b c t' cap u, σ o = some (.slice (some ⟨b, 0, none⟩) 1 cap) ∧ F = [b] ∧ w.heap[b]? = some (.cells c t' (0, 0)) ∧ (1 ≤ cap ∧ cap ≤ c.size ∧ c.toList[0]? = some u) ∧ All2 (VR X h σ w S) [u] cs)
  | .arr d k l _ => ∃ v, σ o = some v ∧ Rel X (own1 d) w S v (.shs k l) F

/-- a box that is no map -/
theorem ObR.box {X : Cx Δ} {h : Heap Δ} {σ : Nat → Option Value} {w : World} {S : Nat → Prop} {F : List Nat} {o t : Nat} {cs : List (CV Δ)} (hx : ObR X h σ w S F o (.box t cs)) (ht : isSpT t = false) :
    ∃ b c, σ o = some (.pointer (some ⟨b, 0, none⟩)) ∧ F = [b] ∧ w.heap[b]? = some (.cells c t (0, 0)) ∧ All2 (VR X h σ w S) c.toList cs := by
  rcases hx with hx | ⟨h0, _⟩ | ⟨h0, _⟩
  · exact hx.2
  · simp [isSpT, h0] at ht
  · simp [isSpT, h0] at ht

/-- blocks that nobody owns -/
def Sof (F : Nat → List Nat) (w : World) (b : Nat) : Prop := b < w.heap.size ∧ ∀ o, b ∉ F o

structure HRel (σ : Nat → Option Value) (F : Nat → List Nat) (h : Heap Δ) (w : World) : Prop where
  ob : ∀ o x, hget h o = some x → ObR X h σ w (Sof F w) (F o) o x
  dead : ∀ o, o ≠ 999 → hget h o = none → F o = []
  hz : hget h 999 = none
  nd : ∀ o, (F o).Nodup
  dj : ∀ o o', o ≠ o' → ∀ b ∈ F o, b ∉ F o'
  bd : ∀ o, ∀ b ∈ F o, b < w.heap.size
  sv : ∀ o v, σ o = some v → v.oneCell' = true

/-- the streams are as they were -/
def SameIo (w w' : World) : Prop := w'.os = w.os ∧ w'.tape = w.tape ∧ w'.output = w.output
theorem SameIo.refl (w : World) : SameIo w w := ⟨rfl, rfl, rfl⟩
theorem SameIo.trans {a b c : World} (h : SameIo a b) (k : SameIo b c) : SameIo a c := ⟨k.1.trans h.1, k.2.1.trans h.2.1, k.2.2.trans h.2.2⟩
structure Stp (σ : Nat → Option Value) (F : Nat → List Nat) (h : Heap Δ) (w : World) (σ' : Nat → Option Value) (F' : Nat → List Nat) (h' : Heap Δ) (w' : World) : Prop where
  rel : HRel X σ' F' h' w'
  sg : ∀ o v, σ o = some v → σ' o = some v
  sz : w.heap.size ≤ w'.heap.size
  same : ∀ b, Sof F w b → w'.heap[b]? = w.heap[b]?
  sub : ∀ b, Sof F w b → Sof F' w' b
  vr : ∀ v c, VR X h σ w (Sof F w) v c → VR X h' σ' w' (Sof F' w') v c
  hd : F' 999 = F 999
  hs : ∀ b ∈ F 999, w'.heap[b]? = w.heap[b]?
  io : SameIo w w'

section
variable {X} {σ σ' σ₂ : Nat → Option Value} {F F' F₂ : Nat → List Nat} {h h' h₂ : Heap Δ} {w w' w₂ : World}
theorem Stp.refl (H : HRel X σ F h w) : Stp X σ F h w σ F h w := ⟨H, fun _ _ h => h, Nat.le_refl _, fun _ _ => rfl, fun _ h => h, fun _ _ h => h, rfl, fun _ _ => rfl, SameIo.refl w⟩
theorem Stp.trans (a : Stp X σ F h w σ' F' h' w') (b : Stp X σ' F' h' w' σ₂ F₂ h₂ w₂) : Stp X σ F h w σ₂ F₂ h₂ w₂ :=
  ⟨b.rel, fun o v h => b.sg o v (a.sg o v h), Nat.le_trans a.sz b.sz, fun x hx => (b.same x (a.sub x hx)).trans (a.same x hx), fun x hx => b.sub x (a.sub x hx), fun v c h => b.vr v c (a.vr v c h), b.hd.trans a.hd, fun x hx => (b.hs x (a.hd ▸ hx)).trans (a.hs x hx), a.io.trans b.io⟩
theorem Stp.pr (a : Stp X σ F h w σ' F' h' w') {v : Value} {p : PV Δ} (hp : PR X h σ w (Sof F w) v p) : PR X h' σ' w' (Sof F' w') v p := by
  cases p with
  | one c => exact a.vr _ _ hp
  | agg cs => obtain ⟨vs, rfl, h⟩ := hp; exact ⟨vs, rfl, h.mono a.vr⟩
theorem Stp.ar (a : Stp X σ F h w σ' F' h' w') {v : Value} {p : AV Δ} (hp : AR X h σ w (Sof F w) v p) : AR X h' σ' w' (Sof F' w') v p := by
  cases p with
  | v p => exact a.pr hp
  | tup ps => obtain ⟨vs, rfl, h⟩ := hp; exact ⟨vs, rfl, h.mono fun _ _ h => a.pr h⟩

/-- what is changed: the objects T, and the blocks that were theirs -/
structure Chg (T : Nat → Prop) (σ : Nat → Option Value) (F : Nat → List Nat) (h : Heap Δ) (w : World) (σ' : Nat → Option Value) (F' : Nat → List Nat) (h' : Heap Δ) (w' : World) : Prop where
  un : ∀ o, ¬ T o → hget h' o = hget h o ∧ σ' o = σ o ∧ F' o = F o
  bl : ∀ b, b < w.heap.size → (∀ o, T o → b ∉ F o) → w'.heap[b]? = w.heap[b]?
  sz : w.heap.size ≤ w'.heap.size
  ft : ∀ o, T o → ∀ b ∈ F' o, b < w'.heap.size ∧ ((∃ o', T o' ∧ b ∈ F o') ∨ w.heap.size ≤ b)
  nd : ∀ o, T o → (F' o).Nodup
  dj : ∀ o o', T o → T o' → o ≠ o' → ∀ b ∈ F' o, b ∉ F' o'
  dead : ∀ o, T o → hget h' o = none → F' o = []
  sg : ∀ o v, σ o = some v → σ' o = some v
  sv : ∀ o v, T o → σ' o = some v → v.oneCell' = true
  hz : ¬ T 999
  io : SameIo w w'
  ver : ∀ o k l ver, T o → hget h' o = some (.arr true k l ver) → σ o = none ∨ ∃ l0 ver0, hget h o = some (.arr true k l0 ver0) ∧ ver0 < ver

theorem cell?_of_block {w w' : World} {b off : Nat} (h : w'.heap[b]? = w.heap[b]?) : w'.cell? ⟨b, off, none⟩ = w.cell? ⟨b, off, none⟩ := by
  simp [World.cell?, h]

theorem Chg.sub {T : Nat → Prop} (H : HRel X σ F h w) (c : Chg T σ F h w σ' F' h' w') : ∀ b, Sof F w b → Sof F' w' b := by
  intro b ⟨hb, hn⟩
  refine ⟨Nat.lt_of_lt_of_le hb c.sz, fun o ho => ?_⟩
  by_cases hT : T o
  · rcases (c.ft o hT b ho).2 with ⟨o', _, h'⟩ | h'
    · exact hn o' h'
    · omega
  · rw [(c.un o hT).2.2] at ho; exact hn o ho
theorem Chg.same {T : Nat → Prop} (c : Chg T σ F h w σ' F' h' w') : ∀ b, Sof F w b → w'.heap[b]? = w.heap[b]? :=
  fun b hb => c.bl b hb.1 fun o _ => hb.2 o
/-- an object's root block is its own, or nobody's -/
theorem root_own (H : HRel X σ F h w) {o : Nat} {d : Bool} {k : Kd} {l : List (k.T Δ)} {ver b base len cap : Nat} (ho : hget h o = some (.arr d k l ver))
    (hs : σ o = some (.slice (some ⟨b, base, none⟩) len cap)) : b ∈ F o := by
  obtain ⟨v, hv, hr⟩ := H.ob o _ ho
  rw [hs] at hv; cases hv
  rw [Rel.shs_iff] at hr
  rcases hr with h | ⟨b', off, cap', c, t, fr, Fs, h1, h2, h3, h4, h5, h6⟩
  · cases (Emp.own h.1)
  · cases h1
    cases d <;> · rw [show F o = b :: Fs.flatten from h5.2]; simp

theorem Chg.vr {T : Nat → Prop} (H : HRel X σ F h w) (c : Chg T σ F h w σ' F' h' w') (v : Value) (x : CV Δ) (hx : VR X h σ w (Sof F w) v x) : VR X h' σ' w' (Sof F' w') v x := by
  have hsub := c.sub H
  have fr : ∀ {v : Value} {x : CV Δ}, Rel X .sh w (Sof F w) v x [] → Rel X .sh w' (Sof F' w') v x [] := fun h => h.frame X c.same hsub (by simp)
  have deep : ∀ {o : Nat} {ver : Nat} {k : Kd} {P P' : List (k.T Δ) → Prop}, (σ o ≠ none ∧ ∀ l ver', hget h o = some (.arr true k l ver') → ver ≤ ver' ∧ (ver = ver' → P l)) →
      (∀ l ver', hget h o = some (.arr true k l ver') → hget h' o = some (.arr true k l ver') → σ' o = σ o → F' o = F o → ¬ T o → P l → P' l) →
      (σ' o ≠ none ∧ ∀ l ver', hget h' o = some (.arr true k l ver') → ver ≤ ver' ∧ (ver = ver' → P' l)) := by
    intro o ver k P P' hh hP
    obtain ⟨h1, h2⟩ := hh
    obtain ⟨rv, hrv⟩ := Option.ne_none_iff_exists'.1 h1
    refine ⟨by rw [c.sg o rv hrv]; simp, fun l ver' hl => ?_⟩
    by_cases hT : T o
    · rcases c.ver o k l ver' hT hl with hn | ⟨l0, ver0, hl0, hlt⟩
      · exact absurd hn h1
      · have := (h2 l0 ver0 hl0).1
        exact ⟨by omega, fun e => by omega⟩
    · obtain ⟨u1, u2, u3⟩ := c.un o hT
      have hl' : hget h o = some (.arr true k l ver') := by rw [← u1]; exact hl
      exact ⟨(h2 l ver' hl').1, fun e => hP l ver' hl' hl u2 u3 hT ((h2 l ver' hl').2 e)⟩
  have cellsame : ∀ {o : Nat} {k : Kd} {l : List (k.T Δ)} {ver b base len cap off : Nat}, hget h o = some (.arr true k l ver) → ¬ T o → σ o = some (.slice (some ⟨b, base, none⟩) len cap) →
      w'.cell? ⟨b, off, none⟩ = w.cell? ⟨b, off, none⟩ := by
    intro o k l ver b base len cap off ho hT hs
    have hb := root_own H ho hs
    refine cell?_of_block (c.bl b (H.bd o b hb) fun o' hT' hb' => ?_)
    by_cases e : o = o'
    · subst e; exact hT hT'
    · exact H.dj o o' e b hb hb'
  cases x with
  | junk => trivial
  | nil => exact hx
  | own o => exact c.sg _ _ hx
  | ptr o off => obtain ⟨b, h1, h2⟩ := hx; exact ⟨b, c.sg _ _ h1, h2⟩
  | fn f => exact hx
  | shp k l i off => obtain ⟨h0, h1, b, base, cap, h2, h3⟩ := hx; exact ⟨h0, h1, b, base, cap, fr h2, h3⟩
  | opp o k i off => obtain ⟨h0, b, base, len, cap, h1, h2⟩ := hx; exact ⟨h0, b, base, len, cap, c.sg _ _ h1, h2⟩
  | ovw o k lo hi => obtain ⟨h0, h1, a, len, cap, h2, h3⟩ := hx; exact ⟨h0, h1, a, len, cap, c.sg _ _ h2, h3⟩
  | dsl o ver k i off =>
    refine ⟨hx.1, deep hx.2 fun l ver' hl _ hs _ hT hp => ?_⟩
    obtain ⟨h0, h1, b, base, len, cap, h2, h3⟩ := hp
    exact ⟨h0, h1, b, base, len, cap, by rw [hs]; exact h2, by rw [cellsame hl hT h2]; exact h3⟩
  | dpp o ver k i off k2 i2 off2 =>
    refine ⟨hx.1, deep hx.2 fun l ver' hl _ hs _ hT hp => ?_⟩
    obtain ⟨h0, h1, b, base, len, cap, b2, base2, len2, cap2, h2, h3, h4⟩ := hp
    exact ⟨h0, h1, b, base, len, cap, b2, base2, len2, cap2, by rw [hs]; exact h2, by rw [cellsame hl hT h2]; exact h3, h4⟩
  | int k n => exact fr hx
  | bool b => exact fr hx
  | str s => exact fr hx
  | err b => exact fr hx
  | shs k l => exact fr hx

theorem Chg.ob {T : Nat → Prop} (H : HRel X σ F h w) (c : Chg T σ F h w σ' F' h' w') {o : Nat} {x : Ob Δ} (hT : ¬ T o) (ho : hget h' o = some x) : ObR X h' σ' w' (Sof F' w') (F' o) o x := by
  obtain ⟨u1, u2, u3⟩ := c.un o hT
  have ho' : hget h o = some x := by rw [← u1]; exact ho
  have hb : ∀ b ∈ F o, w'.heap[b]? = w.heap[b]? := fun b hb => c.bl b (H.bd o b hb) fun o' hT' hb' => by
    by_cases e : o = o'
    · subst e; exact hT hT'
    · exact H.dj o o' e b hb hb'
  have hx := H.ob o x ho'
  cases x with
  | box t cs =>
    rcases hx with ⟨h0, b, cc, h1, h2, h3, h4⟩ | ⟨h0, b, h1, h2, l, es, ck, h3, h4, h5⟩ | ⟨h0, b, cc, t', cap, u, h1, h2, h3, h4, h5⟩
    · exact .inl ⟨h0, b, cc, by rw [u2]; exact h1, by rw [u3]; exact h2, by rw [hb b (by rw [h2]; simp)]; exact h3, h4.mono (c.vr H)⟩
    · exact .inr (.inl ⟨h0, b, by rw [u2]; exact h1, by rw [u3]; exact h2, l, es, ck, h3, by rw [hb b (by rw [h2]; simp)]; exact h4, h5⟩)
    · exact .inr (.inr ⟨h0, b, cc, t', cap, u, by rw [u2]; exact h1, by rw [u3]; exact h2, by rw [hb b (by rw [h2]; simp)]; exact h3, h4, h5.mono (c.vr H)⟩)
  | arr d k l ver =>
    obtain ⟨v, h1, h2⟩ := hx
    exact ⟨v, by rw [u2]; exact h1, by rw [u3]; exact h2.frame X c.same (c.sub H) hb⟩

theorem Chg.stp {T : Nat → Prop} (H : HRel X σ F h w) (c : Chg T σ F h w σ' F' h' w')
    (ob : (∀ v x, VR X h σ w (Sof F w) v x → VR X h' σ' w' (Sof F' w') v x) → (∀ b, Sof F w b → Sof F' w' b) → ∀ o x, T o → hget h' o = some x → ObR X h' σ' w' (Sof F' w') (F' o) o x) : Stp X σ F h w σ' F' h' w' := by
  refine ⟨⟨fun o x ho => ?_, fun o h9 ho => ?_, (c.un _ c.hz).1.trans H.hz, fun o => ?_, fun o o' hne b hb hb' => ?_, fun o b hb => ?_, fun o v hv => ?_⟩, c.sg, c.sz, c.same, c.sub H, c.vr H, (c.un _ c.hz).2.2, fun b hb => c.bl b (H.bd 999 b hb) fun o hT hb' => H.dj 999 o (fun e => c.hz (e ▸ hT)) b hb hb', c.io⟩
  · by_cases hT : T o
    · exact ob (c.vr H) (c.sub H) o x hT ho
    · exact c.ob H hT ho
  · by_cases hT : T o
    · exact c.dead o hT ho
    · obtain ⟨u1, u2, u3⟩ := c.un o hT
      rw [u3]; exact H.dead o h9 (by rw [← u1]; exact ho)
  · by_cases hT : T o
    · exact c.nd o hT
    · rw [(c.un o hT).2.2]; exact H.nd o
  · by_cases hT : T o <;> by_cases hT' : T o'
    · exact c.dj o o' hT hT' hne b hb hb'
    · rw [(c.un o' hT').2.2] at hb'
      rcases (c.ft o hT b hb).2 with ⟨o2, h2, h3⟩ | h2
      · exact H.dj o2 o' (fun e => hT' (e ▸ h2)) b h3 hb'
      · exact absurd (H.bd o' b hb') (by omega)
    · rw [(c.un o hT).2.2] at hb
      rcases (c.ft o' hT' b hb').2 with ⟨o2, h2, h3⟩ | h2
      · exact H.dj o2 o (fun e => hT (e ▸ h2)) b h3 hb
      · exact absurd (H.bd o b hb) (by omega)
    · rw [(c.un o hT).2.2] at hb; rw [(c.un o' hT').2.2] at hb'; exact H.dj o o' hne b hb hb'
  · by_cases hT : T o
    · exact (c.ft o hT b hb).1
    · rw [(c.un o hT).2.2] at hb; exact Nat.lt_of_lt_of_le (H.bd o b hb) c.sz
  · by_cases hT : T o
    · exact c.sv o v hT hv
    · rw [(c.un o hT).2.1] at hv; exact H.sv o v hv

/-- only the tape has moved on -/
theorem HRel.of_heap (H : HRel X σ F h w) (e : w'.heap = w.heap) (hio : SameIo w w' := by exact ⟨rfl, rfl, rfl⟩) : HRel X σ F h w' := by
  have c : Chg (fun _ => False) σ F h w σ F h w' := ⟨fun o _ => ⟨rfl, rfl, rfl⟩, fun b _ _ => by rw [e], by rw [e]; exact Nat.le_refl _, fun _ h => h.elim, fun _ h => h.elim, fun _ _ h => h.elim, fun _ h => h.elim, fun _ _ h => h, fun _ _ h => h.elim, fun h => h, hio, fun _ _ _ _ h => h.elim⟩
  exact (c.stp H fun _ _ _ _ h => h.elim).rel
theorem Stp.of_heap (H : HRel X σ F h w) (e : w'.heap = w.heap) (hio : SameIo w w' := by exact ⟨rfl, rfl, rfl⟩) : Stp X σ F h w σ F h w' := by
  have c : Chg (fun _ => False) σ F h w σ F h w' := ⟨fun o _ => ⟨rfl, rfl, rfl⟩, fun b _ _ => by rw [e], by rw [e]; exact Nat.le_refl _, fun _ h => h.elim, fun _ h => h.elim, fun _ _ h => h.elim, fun _ h => h.elim, fun _ _ h => h, fun _ _ h => h.elim, fun h => h, hio, fun _ _ _ _ h => h.elim⟩
  exact c.stp H fun _ _ _ _ h => h.elim
end
end Go.Ev

/- Operations: what the machine does is what the evaluator says (first part). -/
set_option linter.unusedVariables false
set_option linter.unusedSimpArgs false
namespace Go.Ev
variable {Δ : Nat → Type} (X : Cx Δ) (P : Program)

def Sc (v : Value) : CV Δ → Prop
  | .int k n => v = .int k n
  | .bool b => v = .bool b
  | .str s => v = .string ⟨s.toArray⟩
  | _ => False
def UndOk (d : TyD) (t : Nat) : Prop :=
  match d with
  | .int k => P.underlying t = some (.int k)
  | .bool => P.underlying t = some .bool
  | .str => P.underlying t = some .string
  | .slice e => P.underlying t = some (.slice e)
  | .struct fs => ∃ fa : Array Field, P.underlying t = some (.struct fa) ∧ fs = fa.toList.map (fun f => (f.offset, f.type)) ∧ ∀ f ∈ fa.toList, ∃ inf, P.info? f.type = some inf ∧ inf.size ≠ 0
  | .pointer => ∃ e, P.underlying t = some (.pointer e)
  | .iface => ∃ e, P.underlying t = some (.interface e)
  | .other => ∃ d, P.underlying t = some d ∧ (∀ f, d ≠ .struct f) ∧ ∀ n e, d ≠ .array n e
  | .map k e => P.underlying t = some (.map k e) ∧ ∃ inf, P.info? e = some inf ∧ inf.zero = some (.bool false)
def EqOk (Δ : Nat → Type) (t : Nat) (ks : List Kd) : Prop :=
  ∀ (xs ys : List Value) (cs ds : List (CV Δ)) (b : Bool) (w : World) (x y : Operand), shapeK ks cs = true → All2 Sc xs cs → All2 Sc ys ds → eqCs cs ds = some b →
    ((do eqGuard .eql t x y (.agg xs.toArray) (.agg ys.toArray); binOp .eql t (.agg xs.toArray) (.agg ys.toArray)) : Sem Value).run P w = .ok (.bool b) w ∧
    ((do eqGuard .neq t x y (.agg xs.toArray) (.agg ys.toArray); binOp .neq t (.agg xs.toArray) (.agg ys.toArray)) : Sem Value).run P w = .ok (.bool (!b)) w
structure TIok (Δ : Nat → Type) (i : TI) (t : Nat) : Prop where
  inf : ∃ inf z, P.info? t = some inf ∧ inf.size = i.sz ∧ inf.bytes = i.bytes ∧ inf.zero = some z ∧ z.cells.toList = i.zero
  und : UndOk P i.d t
  eqs : i.eqs = true → EqOk P Δ t (i.zero.map kOf)
structure Pok : Prop where
  xok : Xok X
  ti : ∀ t i, tyi X t = some i → TIok P Δ i t

section
variable {X P} {σ σ' : Nat → Option Value} {F F' : Nat → List Nat} {h h' : Heap Δ} {w w' : World} {S : Nat → Prop}

theorem run_und {t : Nat} {d : TypeDesc} (ht : P.underlying t = some d) : (underlying t).run P w = .ok d w := by simp [underlying, ht]
theorem run_size {t : Nat} {i : TI} (ht : TIok P Δ i t) : (sizeOf t).run P w = .ok i.sz w := by
  obtain ⟨inf, z, h1, h2, _⟩ := ht.inf
  simp [sizeOf, typeInfo, h1, h2]
theorem run_isAgg {t : Nat} {i : TI} (ht : TIok P Δ i t) : (isAgg t).run P w = .ok (isAggD i.d) w := by
  have hu := ht.und
  unfold UndOk at hu
  split at hu <;> rename_i hd <;> rw [hd]
  case h_5 => obtain ⟨fa, h1, _⟩ := hu; simp [isAgg, underlying, h1, isAggD]
  case h_6 => obtain ⟨e, h1⟩ := hu; simp [isAgg, underlying, h1, isAggD]
  case h_7 => obtain ⟨e, h1⟩ := hu; simp [isAgg, underlying, h1, isAggD]
  case h_8 =>
    obtain ⟨d, h1, h2, h3⟩ := hu
    have : (match d with | .struct _ | .array _ _ => (pure true : Sem Bool) | _ => pure false) = pure false := by
      cases d <;> first | rfl | exact absurd rfl (h2 _) | exact absurd rfl (h3 _ _)
    simp [isAgg, underlying, h1, isAggD, this]
  case h_9 => simp [isAgg, underlying, hu.1, isAggD]
  all_goals simp [isAgg, underlying, hu, isAggD]

theorem VR.one (H : HRel X σ F h w) {v : Value} {c : CV Δ} (hv : VR X h σ w S v c) (hc : c ≠ .junk) : v.oneCell' = true := by
  cases c with
  | junk => exact absurd rfl hc
  | nil => rw [show v = .slice none 0 0 from hv]; rfl
  | own o => exact H.sv _ _ hv
  | ptr o off => obtain ⟨b, _, h2⟩ := hv; rcases h2 with ⟨_, _, h2⟩ | ⟨_, _, _, h2⟩ <;> · rw [h2]; rfl
  | fn f => rw [show v = .func (.func f) #[] #[] from hv]; rfl
  | shp k l i off => obtain ⟨_, _, b, base, cap, _, h2⟩ := hv; rw [h2]; rfl
  | opp o k i off => obtain ⟨_, b, base, len, cap, _, _, h2⟩ := hv; rw [h2]; rfl
  | ovw o k lo hi => obtain ⟨_, _, a, len, cap, _, _, h2⟩ := hv; rw [h2]; rfl
  | dsl o ver k i off => exact hv.1
  | dpp o ver k i off k2 i2 off2 => exact hv.1
  | int k n => rw [((Rel.int X).1 hv).1]; rfl
  | bool b => rw [((Rel.bool X).1 hv).1]; rfl
  | str s => rw [((Rel.str X).1 hv).1]; rfl
  | err b =>
    cases b with
    | true => rw [((Rel.errT X).1 hv).1]; rfl
    | false => obtain ⟨t, x, hx⟩ := ((Rel.errF X).1 hv).1; rw [hx]; rfl
  | shs k l =>
    rcases (Rel.shs_iff X).1 hv with h | ⟨b, off, cap, c, t, fr, Fs, h1, _⟩
    · obtain ⟨a, e⟩ := h.1.shape; rw [e]; rfl
    · rw [h1]; rfl

theorem cells_one {v : Value} (hv : v.oneCell' = true) : v.cells = #[v] := by
  cases v <;> first | rfl | simp [Value.oneCell'] at hv

theorem solid_mem : ∀ {cs : List (CV Δ)}, solid cs = true → ∀ c ∈ cs, c ≠ .junk
  | [], _, c, hc => by simp at hc
  | x :: r, hs, c, hc => by
    have hx : x ≠ .junk ∧ solid r = true := by cases x <;> simp_all [solid]
    rcases List.mem_cons.1 hc with rfl | h
    · exact hx.1
    · exact solid_mem hx.2 c h

/-- a value's cells -/
theorem pv_ok (H : HRel X σ F h w) {v : Value} {a : AV Δ} {cs : List (CV Δ)} (ha : AR X h σ w S v a) (hc : pvCells a = some cs) :
    ∃ vs : List Value, v.cells = vs.toArray ∧ All2 (VR X h σ w S) vs cs ∧ ∀ u ∈ vs, u.oneCell' = true := by
  have key : ∀ (vs : List Value) (cs : List (CV Δ)), All2 (VR X h σ w S) vs cs → (∀ c ∈ cs, c ≠ .junk) → ∀ u ∈ vs, u.oneCell' = true := by
    intro vs cs hh hs
    induction hh with
    | nil => simp
    | cons h1 _ ih =>
      intro u hu
      rcases List.mem_cons.1 hu with rfl | hu
      · exact VR.one H h1 (hs _ (by simp))
      · exact ih (fun c hc => hs c (by simp [hc])) u hu
  cases a with
  | tup ps => simp [pvCells] at hc
  | v p =>
    cases p with
    | one c =>
      have hcs : c ≠ .junk ∧ cs = [c] := by cases c <;> simp_all [pvCells]
      obtain ⟨hj, rfl⟩ := hcs
      have h1 := VR.one H ha hj
      exact ⟨[v], cells_one h1, .cons ha .nil, by simpa using h1⟩
    | agg cs' =>
      simp only [pvCells] at hc
      split at hc
      · rename_i hs
        cases hc
        obtain ⟨vs, rfl, hh⟩ := ha
        exact ⟨vs, rfl, hh, key vs _ hh (solid_mem hs)⟩
      · simp at hc

theorem ofVal_ok {v : Value} {c : CV Δ} (hc : ofVal v = some c) : VR X h σ w S v c ∧ c ≠ .junk := by
  unfold ofVal at hc
  split at hc <;> first | (cases hc; done) | skip
  all_goals (cases hc; refine ⟨?_, by simp⟩)
  · exact (Rel.int X).2 ⟨rfl, rfl⟩
  · exact (Rel.bool X).2 ⟨rfl, rfl⟩
  · rename_i s; exact (Rel.str X).2 ⟨by cases s; simp, rfl⟩
  · exact rfl
  · exact (Rel.errT X).2 ⟨rfl, rfl⟩
theorem ofVals_ok : ∀ {vs : List Value} {cs : List (CV Δ)}, ofVals vs = some cs → All2 (VR X h σ w S) vs cs
  | [], cs, hc => by simp [ofVals] at hc; subst hc; exact .nil
  | v :: r, cs, hc => by
    simp only [ofVals] at hc
    split at hc
    · cases hc
    · rename_i c h1
      split at hc
      · cases hc
      · rename_i cs' h2; cases hc; exact .cons (ofVal_ok h1).1 (ofVals_ok h2)
theorem avOfVal_ok {v : Value} {c : AV Δ} (hc : avOfVal v = some c) : AR X h σ w S v c := by
  unfold avOfVal at hc
  split at hc
  · rename_i cs
    split at hc
    · rename_i cs' h1
      cases hc
      exact ⟨cs.toList, by simp, ofVals_ok h1⟩
    · cases hc
  · split at hc
    · rename_i c' h1; cases hc; exact (ofVal_ok h1).1
    · cases hc; trivial

def ER (X : Cx Δ) (h : Heap Δ) (σ : Nat → Option Value) (w : World) (S : Nat → Prop) (env : Env Δ) (a : Act) : Prop :=
  ∀ t av, look env t = some av → AR X h σ w S (a.tmps.getD t undef) av
theorem rho_ok {env : Env Δ} {a : Act} (E : ER X h σ w S env a) {x : Operand} {av : AV Δ} (hx : rho env x = some av) : AR X h σ w S (a.eval x) av := by
  cases x with
  | tmp t => exact E t av hx
  | const v => exact avOfVal_ok hx
  | func f => simp [rho] at hx; subst hx; exact rfl
  | global g => simp [rho] at hx
theorem rhos_ok {env : Env Δ} {a : Act} (E : ER X h σ w S env a) : ∀ {xs : List Operand} {avs : List (AV Δ)}, rhos env xs = some avs → All2 (AR X h σ w S) (xs.map a.eval) avs
  | [], avs, hx => by simp [rhos] at hx; subst hx; exact .nil
  | x :: r, avs, hx => by
    simp only [rhos] at hx
    split at hx
    · cases hx
    · rename_i v h1
      split at hx
      · cases hx
      · rename_i vs h2; cases hx; exact .cons (rho_ok E h1) (rhos_ok E h2)

/-- what an operation has come to -/
def OpOk (X : Cx Δ) (r : Result Next) (σ : Nat → Option Value) (F : Nat → List Nat) (h : Heap Δ) (w : World) (e : Eff Δ) : Prop :=
  ∃ v w' σ' F', (r = .ok (.value v) w' ∨ (r = .ok .skip w' ∧ v = undef)) ∧ Stp X σ F h w σ' F' (e.writes ++ h) w' ∧
    AR X (e.writes ++ h) σ' w' (Sof F' w') v e.val ∧ ∀ o, σ' o ≠ none → σ o ≠ none ∨ o ∈ e.news
theorem OpOk.pure {r : Result Next} (H : HRel X σ F h w) {e : Eff Δ} (he : e.writes = []) {v : Value} (hr : r = .ok (.value v) w) (hv : AR X h σ w (Sof F w) v e.val) : OpOk X r σ F h w e :=
  ⟨v, w, σ, F, .inl hr, by rw [he]; exact Stp.refl H, by rw [he]; exact hv, fun o ho => .inl ho⟩
theorem run_v {s : Sem Value} {v : Value} (hs : s.run P w = .ok v w') : (do Pure.pure (Next.value (← s)) : Sem Next).run P w = .ok (.value v) w' := by simp [hs]
theorem run_u {s : Sem Unit} (hs : s.run P w = .ok () w') : (do s; Pure.pure Next.skip : Sem Next).run P w = .ok .skip w' := by simp [hs]

/-- a new object, into which others may have gone -/
theorem stp_new (H : HRel X σ F h w) {id : Nat} {dels : List Nat} {ob : Ob Δ} {root : Value} {Fn : List Nat} {o : Obj} {w1 : World}
    (hid : σ id = none) (hz1 : id ≠ 999) (hz2 : 999 ∉ dels) (hroot : root.oneCell' = true)
    (hw1 : w1.heap.size ≥ w.heap.size) (hbl : ∀ b, b < w.heap.size → (∀ o ∈ dels, b ∉ F o) → w1.heap[b]? = w.heap[b]?)
    (hFn : ∀ b ∈ Fn, b < w1.heap.size ∧ ((∃ o ∈ dels, b ∈ F o) ∨ w.heap.size ≤ b)) (hnd : Fn.Nodup)
    (hob : ∀ (h' : Heap Δ) (σ' : Nat → Option Value) (F' : Nat → List Nat), (∀ v x, VR X h σ w (Sof F w) v x → VR X h' σ' w1 (Sof F' w1) v x) → (∀ b, Sof F w b → Sof F' w1 b) →
      (∀ o ∈ dels, ∀ b ∈ F o, b ∉ Fn → Sof F' w1 b) → σ' id = some root → ObR X h' σ' w1 (Sof F' w1) Fn id ob) (hio : SameIo w w1) :
    Stp X σ F h w (fun x => if x = id then some root else σ x) (fun x => if x = id then Fn else if x ∈ dels then [] else F x)
      ((id, some ob) :: dels.map (fun o => (o, none)) ++ h) w1 := by
  have hgid : hget h id = none := by
    cases hh : hget h id with
    | none => rfl
    | some x =>
      exfalso
      have := H.ob id x hh
      cases x with
      | box t cs => rcases this with ⟨_, b, c, h1, _⟩ | ⟨_, b, h1, _⟩ | ⟨_, b, c, t', cap, u, h1, _⟩ <;> · rw [hid] at h1; cases h1
      | arr d k l ver => obtain ⟨v, h1, _⟩ := this; rw [hid] at h1; cases h1
  have hlk : ∀ (ds : List Nat) (x : Nat), hget ((ds.map fun o => (o, (none : Option (Ob Δ)))) ++ h) x = if x ∈ ds then none else hget h x := by
    intro ds x
    induction ds with
    | nil => simp
    | cons d r ih =>
      simp only [List.map_cons, List.cons_append, hget, look]
      cases hb : Nat.beq d x with
      | true => have : d = x := Nat.eq_of_beq_eq_true hb; simp [this]
      | false =>
        have : d ≠ x := Nat.ne_of_beq_eq_false hb
        simp only [cond_false]
        unfold hget at ih
        rw [ih]
        simp [Ne.symm this]
  have hget' : ∀ x, hget ((id, some ob) :: dels.map (fun o => (o, none)) ++ h) x = if x = id then some ob else if x ∈ dels then none else hget h x := by
    intro x
    show hget ((id, some ob) :: (dels.map (fun o => (o, none)) ++ h)) x = _
    simp only [hget, look]
    cases hb : Nat.beq id x with
    | true => have : id = x := Nat.eq_of_beq_eq_true hb; simp [this]
    | false =>
      have : id ≠ x := Nat.ne_of_beq_eq_false hb
      simp only [cond_false]
      have := hlk dels x
      unfold hget at this
      rw [this]; simp only [show ¬ (x = id) from fun e => ‹id ≠ x› (Eq.symm e), if_false]
  have c : Chg (fun x => x = id ∨ x ∈ dels) σ F h w (fun x => if x = id then some root else σ x) (fun x => if x = id then Fn else if x ∈ dels then [] else F x)
      ((id, some ob) :: dels.map (fun o => (o, none)) ++ h) w1 := by
    refine ⟨fun x hx => ?_, fun b hb hh => hbl b hb fun o ho => hh o (.inr ho), hw1, fun x hx b hb => ?_, fun x hx => ?_, fun x x' hx hx' hne b hb => ?_, fun x hx hh => ?_, fun x v hv => ?_, fun x v hx hv => ?_, fun h => h.elim (fun e => hz1 e.symm) hz2, hio, fun x k l ver hx hh => ?_⟩
    · have h1 : x ≠ id := fun e => hx (.inl e)
      have h2 : x ∉ dels := fun e => hx (.inr e)
      exact ⟨by rw [hget']; simp [h1, h2], by simp [h1], by simp [h1, h2]⟩
    · by_cases e : x = id
      · simp only [e, if_true] at hb
        obtain ⟨h1, h2⟩ := hFn b hb
        exact ⟨h1, h2.imp (fun ⟨o, ho, h3⟩ => ⟨o, .inr ho, h3⟩) fun h => h⟩
      · rcases hx with hx | hx
        · exact absurd hx e
        · simp [e, hx] at hb
    · by_cases e : x = id
      · simp only [e, if_true]; exact hnd
      · rcases hx with hx | hx
        · exact absurd hx e
        · simp [e, hx]
    · rcases hx with rfl | hx
      · rcases hx' with rfl | hx'
        · exact absurd rfl hne
        · have h9 : ¬ x' = x := fun e => hne (Eq.symm e)
          simp [h9, hx']
      · by_cases e : x = id
        · subst e
          rcases hx' with rfl | hx'
          · exact absurd rfl hne
          · have h9 : ¬ x' = x := fun e => hne (Eq.symm e)
            simp [h9, hx']
        · simp [e, hx] at hb
    · by_cases e : x = id
      · rw [hget'] at hh; simp [e] at hh
      · rcases hx with hx | hx
        · exact absurd hx e
        · simp [e, hx]
    · by_cases e : x = id
      · subst e; rw [hid] at hv; cases hv
      · simpa [e] using hv
    · by_cases e : x = id
      · simp only [e, if_true] at hv; cases hv; exact hroot
      · simp only [e, if_false] at hv; exact H.sv _ _ hv
    · by_cases e : x = id
      · subst e; exact .inl hid
      · rcases hx with hx | hx
        · exact absurd hx e
        · rw [hget'] at hh; simp [e, hx] at hh
  refine c.stp H fun vr sub o x hT ho => ?_
  rw [hget'] at ho
  by_cases e : o = id
  · subst e
    simp only [if_true] at ho
    cases ho
    simp only [if_true]
    refine hob _ _ _ vr sub (fun o' ho' b hb hn => ⟨Nat.lt_of_lt_of_le (H.bd o' b hb) hw1, fun x hx => ?_⟩) (by simp)
    by_cases e : x = o
    · simp only [e, if_true] at hx; exact hn hx
    · by_cases e2 : x ∈ dels
      · simp [e, e2] at hx
      · simp only [e, e2, if_false] at hx
        exact H.dj o' x (fun e3 => e2 (e3 ▸ ho')) b hb hx
  · rcases hT with hT | hT
    · exact absurd hT e
    · simp [e, hT] at ho
end
end Go.Ev

/- Operations on memory: places, loads, new objects. -/
set_option linter.unusedVariables false
set_option linter.unusedSimpArgs false
namespace Go.Ev
variable {Δ : Nat → Type} {X : Cx Δ} {P : Program}
section
variable {σ σ' : Nat → Option Value} {F F' : Nat → List Nat} {h h' : Heap Δ} {w w' : World} {S : Nat → Prop}

theorem cells_len (xok : Xok X) (k : Kd) (x : k.T Δ) : (cells X k x).length = ksz X k := by
  cases k <;> simp [cells, ksz, kcs]
  exact xok.len _ _
theorem ksz_pos (xok : Xok X) (k : Kd) : 0 < ksz X k := by
  cases k <;> simp [ksz, kcs]
  exact xok.pos _
theorem flat_len (xok : Xok X) (k : Kd) (l : List (k.T Δ)) : (l.flatMap (cells X k)).length = l.length * ksz X k := by
  induction l with
  | nil => simp
  | cons a l ih => rw [List.flatMap_cons, List.length_append, cells_len xok, ih, List.length_cons, Nat.succ_mul]; omega
theorem flat_drop (xok : Xok X) (k : Kd) : ∀ (l : List (k.T Δ)) (i : Nat), (l.flatMap (cells X k)).drop (i * ksz X k) = (l.drop i).flatMap (cells X k)
  | [], i => by simp
  | a :: l, 0 => by simp
  | a :: l, i + 1 => by
    have := flat_drop xok k l i
    rw [List.flatMap_cons, List.drop_append, cells_len xok, Nat.succ_mul, List.drop_eq_nil_of_le (by rw [cells_len xok]; omega), Nat.add_sub_cancel]
    simpa using this
theorem flat_elem (xok : Xok X) (k : Kd) (l : List (k.T Δ)) (i : Nat) (x : k.T Δ) (hx : l[i]? = some x) : ((l.flatMap (cells X k)).drop (i * ksz X k)).take (ksz X k) = cells X k x := by
  obtain ⟨hi, hx⟩ := List.getElem?_eq_some_iff.1 hx
  rw [flat_drop xok, List.drop_eq_getElem_cons hi, List.flatMap_cons, hx, List.take_left' (cells_len xok k x)]
theorem rd_get (k : Kd) (l : List (k.T Δ)) (i : Int) (h0 : 0 ≤ i) (h1 : i < l.length) : l[i.toNat]? = some (rd X k l i) := by
  have : i.toNat < l.length := by omega
  simp [rd, List.getD, List.getElem?_eq_getElem this]

theorem drop_take_sub {α : Type} (l : List α) (a n b m : Nat) (hm : b + m ≤ n) : (((l.drop a).take n).drop b).take m = (l.drop (a + b)).take m := by
  apply List.ext_getElem?
  intro j
  by_cases hj : j < m
  · simp [List.getElem?_take, List.getElem?_drop, hj, show b + j < n by omega, Nat.add_assoc]
  · simp [List.getElem?_take, hj]

/-- the cells of an element of a slice -/
theorem elem3 (xok : Xok X) {R : Value → CV Δ → List Nat → Prop} {k : Kd} {l : List (k.T Δ)} {V : List Value} {Fs : List (List Nat)}
    (hh : All3 R V (l.flatMap (cells X k)) Fs) {i : Int} (h0 : 0 ≤ i) (h1 : i < l.length) :
    All3 R ((V.drop (i.toNat * ksz X k)).take (ksz X k)) (cells X k (rd X k l i)) ((Fs.drop (i.toNat * ksz X k)).take (ksz X k)) := by
  have := (hh.drop (i.toNat * ksz X k)).take (ksz X k)
  rwa [flat_elem xok k l i.toNat _ (rd_get k l i h0 h1)] at this

theorem Rel.vr {v : Value} {c : CV Δ} {F : List Nat} (hr : Rel X .sh w S v c F) : VR X h σ w S v c := by
  have hF := hr.sh_nil
  subst hF
  cases c <;> first | exact hr | (obtain ⟨n, hn⟩ := hr; cases n <;> exact hn.elim)

theorem Rel.one {m : Own} {v : Value} {c : CV Δ} {F : List Nat} (hr : Rel X m w S v c F) : v.oneCell' = true := by
  cases c with
  | int k n => rw [((Rel.int X).1 hr).1]; rfl
  | bool b => rw [((Rel.bool X).1 hr).1]; rfl
  | str s => rw [((Rel.str X).1 hr).1]; rfl
  | err b =>
    cases b with
    | true => rw [((Rel.errT X).1 hr).1]; rfl
    | false => obtain ⟨t, x, hx⟩ := ((Rel.errF X).1 hr).1; rw [hx]; rfl
  | shs k l =>
    rcases (Rel.shs_iff X).1 hr with h | ⟨b, off, cap, c, t, fr, Fs, h1, _⟩
    · obtain ⟨a, e⟩ := h.1.shape; rw [e]; rfl
    · rw [h1]; rfl
  | _ => obtain ⟨n, hn⟩ := hr; cases n <;> exact hn.elim

theorem add_off (a : Addr) (n : Nat) (h : a.spot = none) : a.add n = ⟨a.block, a.off + n, none⟩ := by
  obtain ⟨b, o, s⟩ := a
  simp at h; subst h
  unfold Addr.add
  split
  · rename_i h; simp [h]
  · rfl

/-- a variable's value read at a place -/
theorem loadVar_ok {t : Nat} {i : TI} (ht : TIok P Δ i t) {b off : Nat} {c : Array Value} {et : TypeId} {fr : Nat × Nat} (hb : w.heap[b]? = some (.cells c et fr))
    {cs : List (CV Δ)} (hv : All2 (VR X h σ w S) ((c.toList.drop off).take i.sz) cs) {av : AV Δ} (hw : wrapL i cs = some av) :
    ∃ u, (loadVar t ⟨b, off, none⟩).run P w = .ok u w ∧ AR X h σ w S u av := by
  have hlen : cs.length = i.sz ∧ ((isAggD i.d = true ∧ av = .v (.agg cs)) ∨ (isAggD i.d = false ∧ ∃ c, cs = [c] ∧ av = .c c)) := by
    unfold wrapL at hw
    split at hw
    · cases hw
    · rename_i hl
      refine ⟨Nat.eq_of_beq_eq_true hl, ?_⟩
      split at hw
      · rename_i ha; cases hw; exact .inl ⟨ha, rfl⟩
      · rename_i ha
        split at hw
        · cases hw; exact .inr ⟨ha, _, rfl, rfl⟩
        · cases hw
  obtain ⟨hl, hcase⟩ := hlen
  have hvl := hv.length
  have hcell : ∀ j v, ((c.toList.drop off).take i.sz)[j]? = some v → w.cell? ((⟨b, off, none⟩ : Addr).add j) = some v := by
    intro j v hj
    rw [add_off _ _ rfl]
    have : c[off + j]? = some v := by
      rw [List.getElem?_take] at hj
      split at hj
      · simpa [List.getElem?_drop] using hj
      · cases hj
    simp [World.cell?, hb, this]
  rcases hcase with ⟨ha, rfl⟩ | ⟨ha, c1, rfl, rfl⟩
  · have hlc := run_loadCells_list (P := P) w (⟨b, off, none⟩ : Addr) ((c.toList.drop off).take i.sz) hcell
    rw [hvl, hl] at hlc
    refine ⟨.agg ((c.toList.drop off).take i.sz).toArray, ?_, _, rfl, hv⟩
    simp [loadVar, run_isAgg ht, ha, run_size ht, hlc]
  · simp at hl
    generalize hV : (c.toList.drop off).take i.sz = V at *
    cases hv with
    | cons h1 h2 =>
      cases h2
      rename_i v
      have := hcell 0 v (by simp)
      refine ⟨v, ?_, h1⟩
      rw [add_off _ _ rfl] at this
      simp [loadVar, run_isAgg ht, ha, run_load, show w.cell? ⟨b, off, none⟩ = some v by simpa using this]

theorem wrap_len {i : TI} {cs : List (CV Δ)} {av : AV Δ} (hw : wrapL i cs = some av) : cs.length = i.sz := by
  unfold wrapL at hw
  split at hw
  · cases hw
  · rename_i hl; exact Nat.eq_of_beq_eq_true hl

theorem All3.all2_vr {V : List Value} {cs : List (CV Δ)} {Fs : List (List Nat)} (hh : All3 (Rel X .sh w S) V cs Fs) : All2 (VR X h σ w S) V cs :=
  hh.to_all2.mono fun _ _ ⟨_, h⟩ => Rel.vr h

/-- own slices in a deep array, told by their places -/
theorem dsl_ok {p ver : Nat} {k : Kd} {i : Int} {l0 : List (k.T Δ)} (hg : hget h p = some (.arr true k l0 ver)) {b base len cap : Nat} (hs : σ p = some (.slice (some ⟨b, base, none⟩) len cap))
    (h0 : 0 ≤ i) (h1 : i < l0.length) : ∀ (V : List Value) (cs : List (CV Δ)) (Fs : List (List Nat)) (j : Nat), All3 (Rel X .dp w S) V cs Fs →
    (∀ n v, V[n]? = some v → w.cell? ⟨b, base + i.toNat * ksz X k + (j + n), none⟩ = some v) → All2 (VR X h σ w S) V (dslCs p ver k i j cs) := by
  intro V cs Fs j hh
  induction hh generalizing j with
  | nil => intro _; exact .nil
  | cons h2 _ ih =>
    intro hc
    rename_i v c f V cs Fs _
    have hr := ih (Nat.succ j) fun n v hn => by have := hc (n + 1) v (by simpa using hn); rwa [show j + (n + 1) = Nat.succ j + n by omega] at this
    have hc0 := hc 0 v (by simp)
    cases c with
    | shs k2 l2 =>
      refine .cons ⟨Rel.one h2, by rw [hs]; simp, fun l ver' hl => ?_⟩ hr
      rw [hg] at hl; cases hl
      exact ⟨Nat.le_refl _, fun _ => ⟨h0, h1, b, base, len, cap, hs, by simpa using hc0⟩⟩
    | int k n => exact .cons ((Rel.int X).2 ⟨((Rel.int X).1 h2).1, rfl⟩) hr
    | bool n => exact .cons ((Rel.bool X).2 ⟨((Rel.bool X).1 h2).1, rfl⟩) hr
    | str n => exact .cons ((Rel.str X).2 ⟨((Rel.str X).1 h2).1, rfl⟩) hr
    | err n =>
      cases n with
      | true => exact .cons ((Rel.errT X).2 ⟨((Rel.errT X).1 h2).1, rfl⟩) hr
      | false => exact .cons ((Rel.errF X).2 ⟨((Rel.errF X).1 h2).1, rfl⟩) hr
    | _ => obtain ⟨n, hn⟩ := h2; cases n <;> exact hn.elim

theorem dslCs_len (p ver : Nat) (k : Kd) (i : Int) : ∀ (j : Nat) (cs : List (CV Δ)), (dslCs p ver k i j cs).length = cs.length
  | _, [] => rfl
  | j, c :: r => by cases c <;> simp [dslCs, dslCs_len p ver k i (Nat.succ j) r]

/-- an object's array, opened: its block, and the values that stand for its content -/
theorem arr_open (H : HRel X σ F h w) {p : Nat} {d : Bool} {k : Kd} {l : List (k.T Δ)} {ver : Nat} (hg : hget h p = some (.arr d k l ver)) (hl : l ≠ []) :
    ∃ b off cap c t Fs, σ p = some (.slice (some ⟨b, off, none⟩) l.length cap) ∧ w.heap[b]? = some (.cells c t (0, 0)) ∧ off + cap * ksz X k ≤ c.size ∧ l.length ≤ cap ∧ F p = b :: Fs.flatten ∧
      All3 (Rel X (own1 d).inner w (Sof F w)) ((c.toList.drop off).take (l.length * ksz X k)) (l.flatMap (cells X k)) Fs := by
  obtain ⟨v, h1, h2⟩ := H.ob p _ hg
  rcases (Rel.shs_iff X).1 h2 with h | ⟨b, off, cap, c, t, fr, Fs, e1, e2, e3, e4, e5, e6⟩
  · exact absurd h.2.1 hl
  · subst e1
    cases d <;> · obtain ⟨rfl, e5⟩ := e5; exact ⟨b, off, cap, c, t, Fs, h1, e2, e3, e4, e5, e6⟩

/-- a slice that lies in a deep array -/
theorem nested_open (xok : Xok X) (H : HRel X σ F h w) {p : Nat} {k : Kd} {l : List (k.T Δ)} {ver : Nat} (hg : hget h p = some (.arr true k l ver)) {i : Int} (h0 : 0 ≤ i) (h1 : i < l.length)
    {off : Nat} {x : CV Δ} (hx : (cells X k (rd X k l i))[off]? = some x) {b base len cap : Nat} (hs : σ p = some (.slice (some ⟨b, base, none⟩) len cap)) {u : Value}
    (hu : w.cell? ⟨b, base + i.toNat * ksz X k + off, none⟩ = some u) : ∃ F2, Rel X .dp w (Sof F w) u x F2 ∧ ∀ b' ∈ F2, b' ∈ F p := by
  have hlne : l ≠ [] := by rintro rfl; simp at h1; omega
  obtain ⟨b', off', cap', c, t', Fs, f1, f2, f3, f4, f5, f6⟩ := arr_open H hg hlne
  rw [hs] at f1; cases f1
  have hel := elem3 xok f6 h0 h1
  obtain ⟨v, f, a1, a2, a3⟩ := hel.get hx
  have hoff : off < ksz X k := by
    have := (List.getElem?_eq_some_iff.1 hx).1
    rwa [cells_len xok] at this
  rw [List.getElem?_take, if_pos hoff, List.getElem?_drop, List.getElem?_take] at a1
  split at a1
  · have : c[base + (i.toNat * ksz X k + off)]? = some v := by simpa [List.getElem?_drop] using a1
    have hu' : u = v := by
      simp [World.cell?, f2, Nat.add_assoc, this] at hu
      exact hu.symm
    subst hu'
    refine ⟨f, a3, fun b' hb' => ?_⟩
    rw [List.getElem?_take, if_pos hoff, List.getElem?_drop] at a2
    rw [f5]
    exact List.mem_cons.2 (.inr (List.mem_flatten.2 ⟨f, List.mem_of_getElem? a2, hb'⟩))
  · cases a1
theorem flat_vr (xok : Xok X) {k : Kd} (hk : flat X k = true) {x : k.T Δ} {m : Own} : ∀ {V : List Value} {Fs : List (List Nat)} {cs : List (CV Δ)}, (∀ c ∈ cs, c ∈ cells X k x) → All3 (Rel X m w S) V cs Fs → All2 (VR X h σ w S) V cs := by
  intro V Fs cs hm hh
  induction hh with
  | nil => exact .nil
  | cons h2 _ ih =>
    refine .cons ?_ (ih fun c hc => hm c (by simp [hc]))
    rename_i v c f V cs Fs _
    have hc := hm c (by simp)
    cases c with
    | shs k2 l2 =>
      exfalso
      cases k with
      | st n => exact xok.nosl n x hk _ hc k2 l2 rfl
      | sl e => simp [flat, kcs, flatKs] at hk
      | _ => simp [cells] at hc
    | int k n => exact (Rel.int X).2 ⟨((Rel.int X).1 h2).1, rfl⟩
    | bool n => exact (Rel.bool X).2 ⟨((Rel.bool X).1 h2).1, rfl⟩
    | str n => exact (Rel.str X).2 ⟨((Rel.str X).1 h2).1, rfl⟩
    | err n =>
      cases n with
      | true => exact (Rel.errT X).2 ⟨((Rel.errT X).1 h2).1, rfl⟩
      | false => exact (Rel.errF X).2 ⟨((Rel.errF X).1 h2).1, rfl⟩
    | _ => obtain ⟨n, hn⟩ := h2; cases n <;> exact hn.elim

/-- loads -/
theorem load_ok (xok : Xok X) (H : HRel X σ F h w) {t : Nat} {i : TI} (ht : TIok P Δ i t) {a : AV Δ} {gs : List Bool} {e : Eff Δ} (he : opLoad X h i a = some (gs, e))
    {v : Value} (hv : AR X h σ w (Sof F w) v a) : e.writes = [] ∧ e.news = [] ∧ ∃ u, (Instr.loadAt t v).run P w = .ok u w ∧ AR X h σ w (Sof F w) u e.val := by
  have fin : ∀ {b off : Nat} {c : Array Value} {et : TypeId} {fr : Nat × Nat} {cs : List (CV Δ)} {av : AV Δ}, v = .pointer (some ⟨b, off, none⟩) → w.heap[b]? = some (.cells c et fr) →
      All2 (VR X h σ w (Sof F w)) ((c.toList.drop off).take i.sz) cs → wrapL i cs = some av → ∃ u, (Instr.loadAt t v).run P w = .ok u w ∧ AR X h σ w (Sof F w) u av := by
    intro b off c et fr cs av hve hb hc hw
    obtain ⟨u, h1, h2⟩ := loadVar_ok (P := P) ht hb hc hw
    exact ⟨u, by subst hve; simp [Instr.loadAt, Instr.sureAddr, h1], h2⟩
  have sz : ∀ {k : Kd} {x : k.T Δ} {off : Nat} {av : AV Δ}, wrapL i (((cells X k x).drop off).take i.sz) = some av → i.sz = 0 ∨ off + i.sz ≤ ksz X k := by
    intro k x off av hw
    have := wrap_len hw
    rw [List.length_take, List.length_drop, cells_len xok] at this
    omega
  unfold opLoad at he
  split at he
  · -- a box
    rename_i p off
    split at he
    · rename_i t' cs hg
      split at he
      · rename_i av hm hw
        cases he
        refine ⟨rfl, rfl, ?_⟩
        obtain ⟨b, c, h1, h2, h3, h4⟩ := (H.ob p _ hg).box hm
        obtain ⟨b', h5, h6⟩ := hv
        rw [h1] at h5; cases h5
        exact fin h6.ptr h3 ((h4.drop off).take i.sz) hw
      · cases he
    · cases he
  · -- an element of shared data
    rename_i k l ix off
    split at he
    · rename_i av hw
      cases he
      refine ⟨rfl, rfl, ?_⟩
      obtain ⟨h0, h1, b, base, cap, h2, h3⟩ := hv
      rcases (Rel.shs_iff X).1 h2 with h | ⟨b', off', cap', c, t', fr, Fs, e1, e2, e3, e4, e5, e6⟩
      · rw [h.2.1] at h1; simp at h1; omega
      · cases e1
        have hel := elem3 xok e6 h0 h1
        have h6 := (hel.all2_vr (h := h) (σ := σ)).drop off |>.take i.sz
        refine fin h3 e2 ?_ hw
        rcases sz hw with hz | hz
        · rw [hz]; rw [hz] at h6; simpa using h6
        · rw [drop_take_sub _ _ _ _ _ hz, List.drop_take, List.take_take] at h6
          have hi : i.sz ≤ l.length * ksz X k - (ix.toNat * ksz X k + off) := by
            have : (ix.toNat + 1) * ksz X k ≤ l.length * ksz X k := Nat.mul_le_mul_right _ (by omega)
            rw [Nat.succ_mul] at this
            omega
          rw [Nat.min_eq_left hi, List.drop_drop] at h6
          rw [Nat.add_assoc]
          exact h6
    · cases he
  · -- an element of an object
    rename_i p k' ix off
    split at he
    · rename_i k l ver hg
      split at he
      · rename_i av hk hw
        cases he
        have hk : k' = k := by simpa using hk
        subst hk
        refine ⟨rfl, rfl, ?_⟩
        obtain ⟨h0, b, base, len, cap, h1, h2, h3⟩ := hv
        have hlne : l ≠ [] := by
          rintro rfl
          obtain ⟨v', a1, a2⟩ := H.ob p _ hg
          rw [h1] at a1; cases a1
          rcases (Rel.shs_iff X).1 a2 with h | ⟨b', off', cap', c, t', fr, Fs, e1, _⟩
          · cases (Emp.own h.1)
          · cases e1; simp at h2; omega
        obtain ⟨b', off', cap', c, t', Fs, f1, f2, f3, f4, f5, f6⟩ := arr_open H hg hlne
        rw [h1] at f1; cases f1
        have hel := elem3 xok f6 h0 h2
        have h6 := (All3.all2_vr (h := h) (σ := σ) hel).drop off |>.take i.sz
        refine fin h3 f2 ?_ hw
        rcases sz hw with hz | hz
        · rw [hz]; rw [hz] at h6; simpa using h6
        · rw [drop_take_sub _ _ _ _ _ hz, List.drop_take, List.take_take] at h6
          have hi : i.sz ≤ l.length * ksz X k' - (ix.toNat * ksz X k' + off) := by
            have : (ix.toNat + 1) * ksz X k' ≤ l.length * ksz X k' := Nat.mul_le_mul_right _ (by omega)
            rw [Nat.succ_mul] at this
            omega
          rw [Nat.min_eq_left hi, List.drop_drop] at h6
          rw [Nat.add_assoc]
          exact h6
      · cases he
    · rename_i k l ver hg
      split at he
      · rename_i av hk hw
        cases he
        have hk : k' = k := by simpa using hk
        subst hk
        refine ⟨rfl, rfl, ?_⟩
        obtain ⟨h0, b, base, len, cap, h1, h2, h3⟩ := hv
        have hlne : l ≠ [] := by
          rintro rfl
          obtain ⟨v', a1, a2⟩ := H.ob p _ hg
          rw [h1] at a1; cases a1
          rcases (Rel.shs_iff X).1 a2 with h | ⟨b', off', cap', c, t', fr, Fs, e1, _⟩
          · cases (Emp.own h.1)
          · cases e1; simp at h2; omega
        obtain ⟨b', off', cap', c, t', Fs, f1, f2, f3, f4, f5, f6⟩ := arr_open H hg hlne
        rw [h1] at f1; cases f1
        have hel := elem3 xok f6 h0 h2
        have hlen6 := hel.length.1
        have hd := dsl_ok (X := X) (h := h) (σ := σ) hg h1 h0 h2 _ _ _ 0 hel (by
          intro n v hn
          have hn' : n < ksz X k' := by
            have := (List.getElem?_eq_some_iff.1 hn).1
            simp at this; omega
          rw [List.getElem?_take, if_pos hn', List.getElem?_drop, List.getElem?_take] at hn
          split at hn
          · have : c[base + (ix.toNat * ksz X k' + n)]? = some v := by simpa [List.getElem?_drop] using hn
            simp [World.cell?, f2, Nat.add_assoc, this]
          · cases hn)
        have h6 := hd.drop off |>.take i.sz
        have hsz : i.sz = 0 ∨ off + i.sz ≤ ksz X k' := by
          have := wrap_len hw
          rw [List.length_take, List.length_drop, dslCs_len, cells_len xok] at this
          omega
        refine fin h3 f2 ?_ hw
        rcases hsz with hz | hz
        · rw [hz]; rw [hz] at h6; simpa using h6
        · rw [drop_take_sub _ _ _ _ _ hz, List.drop_take, List.take_take] at h6
          have hi : i.sz ≤ l.length * ksz X k' - (ix.toNat * ksz X k' + off) := by
            have : (ix.toNat + 1) * ksz X k' ≤ l.length * ksz X k' := Nat.mul_le_mul_right _ (by omega)
            rw [Nat.succ_mul] at this
            omega
          rw [Nat.min_eq_left hi, List.drop_drop] at h6
          rw [Nat.add_assoc]
          exact h6
      · cases he
    · cases he
  · -- an element of a slice in a deep array
    rename_i p ver' k' ix off k2 i2 off2
    split at he
    · rename_i d k l ver hg
      split at he
      · rename_i k2' l2 hk hver hx
        split at he
        · rename_i av hk2 hfl hw
          cases he
          have hk : k' = k := by simpa using hk
          have hk2 : k2 = k2' := by simpa using hk2
          have hver : ver' = ver := Nat.eq_of_beq_eq_true hver
          subst hk hk2 hver
          refine ⟨rfl, rfl, ?_⟩
          obtain ⟨_, _, hv2⟩ := hv
          obtain ⟨h0, h1, b, base, len, cap, b2, base2, len2, cap2, s1, s2, s3, s4, s5⟩ := (hv2 l ver' hg).2 rfl
          obtain ⟨F2, r1, _⟩ := nested_open xok H hg h0 h1 hx s1 s2
          rcases (Rel.shs_iff X).1 r1 with h | ⟨b', off', cap', c, t', fr, Fs, e1, e2, e3, e4, e5, e6⟩
          · have := (Emp.zero h.1).1; omega
          · cases e1
            have hel := elem3 xok e6 s3 s4
            have h6 := (flat_vr (h := h) (σ := σ) xok hfl (fun c hc => hc) hel).drop off2 |>.take i.sz
            refine fin s5 e2 ?_ hw
            rcases sz hw with hz | hz
            · rw [hz]; rw [hz] at h6; simpa using h6
            · rw [drop_take_sub _ _ _ _ _ hz, List.drop_take, List.take_take] at h6
              have hi : i.sz ≤ l2.length * ksz X k2 - (i2.toNat * ksz X k2 + off2) := by
                have : (i2.toNat + 1) * ksz X k2 ≤ l2.length * ksz X k2 := Nat.mul_le_mul_right _ (by omega)
                rw [Nat.succ_mul] at this
                omega
              rw [Nat.min_eq_left hi, List.drop_drop] at h6
              rw [Nat.add_assoc]
              exact h6
        · cases he
      · cases he
    · cases he
  · cases he
end
end Go.Ev

/- Stores: into boxes, into arrays. -/
set_option linter.unusedVariables false
set_option linter.unusedSimpArgs false
namespace Go.Ev
variable {Δ : Nat → Type} {X : Cx Δ} {P : Program}

theorem setAt_nil {α : Type} (l : List α) (n : Nat) : setAt l n [] = l := by cases l <;> rfl
theorem setAt_append {α : Type} : ∀ (E C : List α) (off : Nat) (vs : List α), off + vs.length ≤ E.length → setAt (E ++ C) off vs = setAt E off vs ++ C
  | E, C, off, [], _ => by simp [setAt_nil]
  | [], C, off, v :: vs, h => by simp at h
  | e :: E, C, 0, v :: vs, h => by simp [setAt, setAt_append E C 0 vs (by simp at h ⊢; omega)]
  | e :: E, C, off + 1, v :: vs, h => by simp [setAt, setAt_append E C off (v :: vs) (by simp at h ⊢; omega)]
theorem setAt_mid {α : Type} (A E C : List α) (off : Nat) (vs : List α) (h : off + vs.length ≤ E.length) : setAt (A ++ (E ++ C)) (A.length + off) vs = A ++ (setAt E off vs ++ C) := by
  induction A with
  | nil => simp [setAt_append E C off vs h]
  | cons a A ih =>
    cases vs with
    | nil => simp [setAt_nil]
    | cons v vs => simp [show A.length + 1 + off = (A.length + off) + 1 by omega, setAt, ih]
theorem setAt_eq {α : Type} : ∀ (l : List α) (o : Nat) (vs : List α), o + vs.length ≤ l.length → setAt l o vs = l.take o ++ vs ++ l.drop (o + vs.length)
  | l, o, [], _ => by simp [setAt_nil]
  | [], o, v :: vs, h => by simp at h
  | e :: l, 0, v :: vs, h => by simp [setAt, setAt_eq l 0 vs (by simp at h ⊢; omega)]
  | e :: l, o + 1, v :: vs, h => by
    have := setAt_eq l o (v :: vs) (by simp at h ⊢; omega)
    simp [setAt, this, show o + 1 + (vs.length + 1) = (o + (vs.length + 1)) + 1 by omega]
theorem setAt_len {α : Type} : ∀ (l : List α) (o : Nat) (vs : List α), (setAt l o vs).length = l.length
  | [], _, _ => by simp [setAt]
  | l, o, [] => by simp [setAt_nil]
  | e :: l, 0, v :: vs => by simp [setAt, setAt_len l 0 vs]
  | e :: l, o + 1, v :: vs => by simp [setAt, setAt_len l o (v :: vs)]
theorem All3.setAt {α β γ : Type} {R : α → β → γ → Prop} {as : List α} {bs : List β} {cs : List γ} {vs : List α} {xs : List β} {ys : List γ}
    (h : All3 R as bs cs) (h' : All3 R vs xs ys) (n : Nat) : All3 R (setAt as n vs) (setAt bs n xs) (setAt cs n ys) := by
  induction h generalizing n vs xs ys with
  | nil => simpa [Ev.setAt] using All3.nil
  | cons h t ih =>
    cases h' with
    | nil => simpa [Ev.setAt] using All3.cons h t
    | cons h1 t1 => cases n with
      | zero => simpa [Ev.setAt] using All3.cons h1 (ih t1 0)
      | succ n => simpa [Ev.setAt] using All3.cons h (ih (.cons h1 t1) n)
theorem setAt_drop {α : Type} (l : List α) (a n : Nat) (vs : List α) (h : a + n + vs.length ≤ l.length) : (setAt l (a + n) vs).drop a = setAt (l.drop a) n vs := by
  have e : l = l.take a ++ (l.drop a ++ []) := by simp
  have hl : (l.take a).length = a := by simp; omega
  conv => lhs; rw [e]; rw [show a + n = (l.take a).length + n by omega]
  rw [setAt_mid _ _ _ _ _ (by simp; omega), List.append_nil, List.drop_left' hl]
theorem setAt_take {α : Type} (l : List α) (m n : Nat) (vs : List α) (h : n + vs.length ≤ m) (hm : m ≤ l.length) : (setAt l n vs).take m = setAt (l.take m) n vs := by
  have e : l = l.take m ++ l.drop m := by simp
  have hl : (l.take m).length = m := by simp; omega
  conv => lhs; rw [e]
  rw [setAt_append _ _ _ _ (by omega), List.take_left' (by rw [setAt_len, hl])]

theorem take_flat_set (xok : Xok X) {k : Kd} (l : List (k.T Δ)) (i : Nat) (x : k.T Δ) (hi : i < l.length) :
    (l.set i x).flatMap (cells X k) = (l.flatMap (cells X k)).take (i * ksz X k) ++ (cells X k x ++ (l.flatMap (cells X k)).drop ((i + 1) * ksz X k)) := by
  have h1 : l.set i x = l.take i ++ (x :: l.drop (i + 1)) := by rw [List.set_eq_take_append_cons_drop, if_pos hi]
  have h2 : l = l.take i ++ l.drop i := by simp
  rw [h1, List.flatMap_append, List.flatMap_cons, ← flat_drop xok]
  congr 1
  conv => rhs; rw [h2]
  rw [List.flatMap_append, List.take_left']
  rw [flat_len xok, List.length_take, Nat.min_eq_left (by omega)]
theorem flat_split (xok : Xok X) {k : Kd} (l : List (k.T Δ)) (i : Nat) (x : k.T Δ) (hx : l[i]? = some x) :
    l.flatMap (cells X k) = (l.flatMap (cells X k)).take (i * ksz X k) ++ (cells X k x ++ (l.flatMap (cells X k)).drop ((i + 1) * ksz X k)) := by
  obtain ⟨hi, hx⟩ := List.getElem?_eq_some_iff.1 hx
  have := take_flat_set xok l i x hi
  subst hx
  rwa [List.set_getElem_self] at this

section
variable {σ σ' : Nat → Option Value} {F F' : Nat → List Nat} {h h' : Heap Δ} {w w' : World} {S : Nat → Prop}

/-- a cell that may still be a nil without a kind -/
def RN (X : Cx Δ) (m : Own) (w : World) (S : Nat → Prop) (v : Value) (c : CV Δ) (F : List Nat) : Prop :=
  (c = .nil ∧ v = .slice none 0 0 ∧ F = []) ∨ Rel X m w S v c F
def NN (c' c : CV Δ) : Prop := c' = c ∨ (c = .nil ∧ ∃ e, c' = .shs e [])
theorem NN_norm : ∀ (ks : List Kd) (cs : List (CV Δ)), All2 NN (normCs ks cs) cs
  | [], cs => by
    simp only [normCs]
    induction cs with
    | nil => exact .nil
    | cons c cs ih => exact .cons (.inl rfl) ih
  | k :: ks, [] => .nil
  | k :: ks, c :: cs => by
    refine .cons ?_ (NN_norm ks cs)
    unfold normC
    split
    · exact .inr ⟨rfl, _, rfl⟩
    · exact .inl rfl
theorem NN_self (cs : List (CV Δ)) : All2 NN cs cs := by
  induction cs with
  | nil => exact .nil
  | cons c cs ih => exact .cons (.inl rfl) ih
theorem RN_rel {m : Own} {V : List Value} {cs cs' : List (CV Δ)} {Fs : List (List Nat)} (hh : All3 (RN X m w S) V cs Fs) (hn : All2 NN cs' cs) (hd : ∀ c ∈ cs', isData c = true) :
    All3 (Rel X m w S) V cs' Fs := by
  induction hh generalizing cs' with
  | nil => cases hn; exact .nil
  | cons h1 _ ih =>
    cases hn with
    | cons n1 n2 =>
      refine .cons ?_ (ih n2 fun c hc => hd c (by simp [hc]))
      rename_i c' cs' _ _ _ _ _ _
      have hdc := hd _ (List.mem_cons_self ..)
      rcases h1 with ⟨rfl, rfl, rfl⟩ | h1
      · rcases n1 with rfl | ⟨_, e, rfl⟩
        · simp [isData] at hdc
        · exact (Rel.shs_iff X).2 (.inl ⟨.inl rfl, rfl, rfl⟩)
      · rcases n1 with rfl | ⟨rfl, _⟩
        · exact h1
        · obtain ⟨n, hn⟩ := h1; cases n <;> exact hn.elim
theorem data_cells (xok : Xok X) (k : Kd) (x : k.T Δ) : ∀ c ∈ cells X k x, isData c = true := by
  cases k <;> simp [cells, isData]
  exact xok.data _ _
theorem ofCells_cells (xok : Xok X) {k : Kd} {cs : List (CV Δ)} {x : k.T Δ} (hx : ofCells0 X k cs = some x) : cells X k x = cs := by
  cases k with
  | int k =>
    simp only [ofCells0] at hx
    split at hx
    · split at hx
      · rename_i he; cases hx; subst he; rfl
      · cases hx
    · cases hx
  | sl e =>
    simp only [ofCells0] at hx
    split at hx
    · simp only [castL] at hx
      split at hx
      · rename_i he; subst he; cases hx; rfl
      · cases hx
    · cases hx
  | st n => exact xok.to_fr n cs x hx
  | bool =>
    simp only [ofCells0] at hx
    split at hx
    · cases hx; rfl
    · cases hx
  | str =>
    simp only [ofCells0] at hx
    split at hx
    · cases hx; rfl
    · cases hx
  | err =>
    simp only [ofCells0] at hx
    split at hx
    · cases hx; rfl
    · cases hx
theorem flat_dp (xok : Xok X) {k : Kd} (hk : flat X k = true) {l : List (k.T Δ)} {m m' : Own} : ∀ {V : List Value} {Fs : List (List Nat)} {cs : List (CV Δ)}, (∀ c ∈ cs, c ∈ l.flatMap (cells X k)) → All3 (Rel X m w S) V cs Fs → All3 (Rel X m' w S) V cs Fs := by
  intro V Fs cs hm hh
  induction hh with
  | nil => exact .nil
  | cons h2 _ ih =>
    refine .cons ?_ (ih fun c hc => hm c (by simp [hc]))
    rename_i v c f V cs Fs _
    have hc := hm c (by simp)
    cases c with
    | shs k2 l2 =>
      exfalso
      obtain ⟨x, _, hx⟩ := List.mem_flatMap.1 hc
      cases k with
      | st n => exact xok.nosl n x hk _ hx k2 l2 rfl
      | sl e => simp [flat, kcs, flatKs] at hk
      | _ => simp [cells] at hx
    | int k n => exact (Rel.int X).2 ((Rel.int X).1 h2)
    | bool n => exact (Rel.bool X).2 ((Rel.bool X).1 h2)
    | str n => exact (Rel.str X).2 ((Rel.str X).1 h2)
    | err n =>
      cases n with
      | true => exact (Rel.errT X).2 ((Rel.errT X).1 h2)
      | false => exact (Rel.errF X).2 ((Rel.errF X).1 h2)
    | _ => obtain ⟨n, hn⟩ := h2; cases n <;> exact hn.elim
/-- flat content: what is owned at the top is owned deep -/
theorem rel_flat (xok : Xok X) {k : Kd} (hk : flat X k = true) {l : List (k.T Δ)} {d d' : Bool} {v : Value} {F : List Nat} (hr : Rel X (own1 d) w S v (.shs k l) F) : Rel X (own1 d') w S v (.shs k l) F := by
  rcases (Rel.shs_iff X).1 hr with h | ⟨b, off, cap, c, t, fr, Fs, e1, e2, e3, e4, e5, e6⟩
  · exact (Rel.shs_iff X).2 (.inl ⟨.inl (Emp.own h.1), h.2⟩)
  · refine (Rel.shs_iff X).2 (.inr ⟨b, off, cap, c, t, fr, Fs, e1, e2, e3, e4, ?_, flat_dp xok hk (fun c hc => hc) e6⟩)
    cases d <;> cases d' <;> exact e5

/-- values on their way into an array -/
theorem abs_deep (xok : Xok X) (H : HRel X σ F h w) {vs : List Value} {cs cs' : List (CV Δ)} {ds : List Nat} (hv : All2 (VR X h σ w (Sof F w)) vs cs) (ha : absCs X true h cs = some (cs', ds)) :
    ∃ Fn, All3 (RN X .dp w (Sof F w)) vs cs' Fn ∧ Fn.flatten = ds.flatMap F := by
  induction hv generalizing cs' ds with
  | nil => simp [absCs] at ha; obtain ⟨rfl, rfl⟩ := ha; exact ⟨[], .nil, rfl⟩
  | cons h1 _ ih =>
    rename_i v c vs cs _
    simp only [absCs] at ha
    split at ha
    · cases ha
    · rename_i c1 d1 hc
      split at ha
      · cases ha
      · rename_i cs1 ds1 hcs
        cases ha
        obtain ⟨Fn, a1, a2⟩ := ih hcs
        have key : ∃ Fc, RN X .dp w (Sof F w) v c1 Fc ∧ Fc = d1.flatMap F := by
          cases c with
          | own o =>
            simp only [absC] at hc
            split at hc
            · rename_i d k l ver hg
              split at hc
              · cases hc
              · rename_i hf
                cases hc
                obtain ⟨rv, r1, r2⟩ := H.ob o _ hg
                rw [show σ o = some v from h1] at r1; cases r1
                refine ⟨F o, .inr ?_, by simp⟩
                cases d with
                | true => exact r2
                | false => exact rel_flat (d := false) (d' := true) xok (by simpa using hf) r2
            · cases hc
          | nil => simp [absC] at hc; obtain ⟨rfl, rfl⟩ := hc; exact ⟨[], .inl ⟨rfl, h1, rfl⟩, rfl⟩
          | int k n => simp [absC] at hc; obtain ⟨rfl, rfl⟩ := hc; exact ⟨[], .inr ((Rel.int X).2 ⟨((Rel.int X).1 h1).1, rfl⟩), rfl⟩
          | bool n => simp [absC] at hc; obtain ⟨rfl, rfl⟩ := hc; exact ⟨[], .inr ((Rel.bool X).2 ⟨((Rel.bool X).1 h1).1, rfl⟩), rfl⟩
          | str n => simp [absC] at hc; obtain ⟨rfl, rfl⟩ := hc; exact ⟨[], .inr ((Rel.str X).2 ⟨((Rel.str X).1 h1).1, rfl⟩), rfl⟩
          | err n =>
            simp [absC] at hc; obtain ⟨rfl, rfl⟩ := hc
            refine ⟨[], .inr ?_, rfl⟩
            cases n with
            | true => exact (Rel.errT X).2 ⟨((Rel.errT X).1 h1).1, rfl⟩
            | false => exact (Rel.errF X).2 ⟨((Rel.errF X).1 h1).1, rfl⟩
          | _ => simp [absC] at hc
        obtain ⟨Fc, k1, k2⟩ := key
        exact ⟨Fc :: Fn, .cons k1 a1, by simp [k2, a2]⟩
theorem abs_shal (H : HRel X σ F h w) {vs : List Value} {cs cs' : List (CV Δ)} {ds : List Nat} (hv : All2 (VR X h σ w (Sof F w)) vs cs) (ha : absCs X false h cs = some (cs', ds))
    {w' : World} {S' : Nat → Prop} (hsame : ∀ b, Sof F w b → w'.heap[b]? = w.heap[b]?) (hsub : ∀ b, Sof F w b → S' b) (hds : ∀ o ∈ ds, ∀ b ∈ F o, S' b ∧ w'.heap[b]? = w.heap[b]?) :
    ∃ Fn, All3 (RN X .sh w' S') vs cs' Fn ∧ Fn.flatten = [] := by
  induction hv generalizing cs' ds with
  | nil => simp [absCs] at ha; obtain ⟨rfl, rfl⟩ := ha; exact ⟨[], .nil, rfl⟩
  | cons h1 _ ih =>
    rename_i v c vs cs _
    simp only [absCs] at ha
    split at ha
    · cases ha
    · rename_i c1 d1 hc
      split at ha
      · cases ha
      · rename_i cs1 ds1 hcs
        cases ha
        obtain ⟨Fn, a1, a2⟩ := ih hcs fun o ho => hds o (by simp [ho])
        have key : RN X .sh w' S' v c1 [] := by
          cases c with
          | own o =>
            simp only [absC] at hc
            split at hc
            · rename_i d k l ver hg
              split at hc
              · cases hc
              · rename_i hf
                cases hc
                obtain ⟨rv, r1, r2⟩ := H.ob o _ hg
                rw [show σ o = some v from h1] at r1; cases r1
                have hb := hds o (by simp)
                exact .inr ((r2.frame (S' := S') X hsame hsub fun b hb' => (hb b hb').2).share X (fun _ h => h) fun b hb' => (hb b hb').1)
            · cases hc
          | nil => simp [absC] at hc; obtain ⟨rfl, rfl⟩ := hc; exact .inl ⟨rfl, h1, rfl⟩
          | shs k l => simp [absC] at hc; obtain ⟨rfl, rfl⟩ := hc; exact .inr (Rel.frame X hsame hsub (by simp) h1)
          | int k n => simp [absC] at hc; obtain ⟨rfl, rfl⟩ := hc; exact .inr ((Rel.int X).2 ⟨((Rel.int X).1 h1).1, rfl⟩)
          | bool n => simp [absC] at hc; obtain ⟨rfl, rfl⟩ := hc; exact .inr ((Rel.bool X).2 ⟨((Rel.bool X).1 h1).1, rfl⟩)
          | str n => simp [absC] at hc; obtain ⟨rfl, rfl⟩ := hc; exact .inr ((Rel.str X).2 ⟨((Rel.str X).1 h1).1, rfl⟩)
          | err n =>
            simp [absC] at hc; obtain ⟨rfl, rfl⟩ := hc
            refine .inr ?_
            cases n with
            | true => exact (Rel.errT X).2 ⟨((Rel.errT X).1 h1).1, rfl⟩
            | false => exact (Rel.errF X).2 ⟨((Rel.errF X).1 h1).1, rfl⟩
          | _ => simp [absC] at hc
        exact ⟨[] :: Fn, .cons key a1, by simpa using a2⟩
end
end Go.Ev

/- Stores. -/
set_option linter.unusedVariables false
set_option linter.unusedSimpArgs false
namespace Go.Ev
variable {Δ : Nat → Type} {X : Cx Δ} {P : Program}
theorem absC_live {d : Bool} {h : Heap Δ} {c c' : CV Δ} {os : List Nat} (he : absC X d h c = some (c', os)) : ∀ o ∈ os, hget h o ≠ none := by
  unfold absC at he
  split at he
  · split at he
    · rename_i hg
      split at he
      · cases he
      · cases he; simp [hg]
    · cases he
  · split at he
    · cases he
    · cases he; simp
  all_goals first | (cases he; simp; done) | cases he
theorem absCs_live {d : Bool} {h : Heap Δ} : ∀ {cs cs' : List (CV Δ)} {os : List Nat}, absCs X d h cs = some (cs', os) → ∀ o ∈ os, hget h o ≠ none
  | [], cs', os, he => by simp [absCs] at he; simp [he.2]
  | c :: r, cs', os, he => by
    simp only [absCs] at he
    split at he
    · cases he
    · rename_i h1
      split at he
      · cases he
      · rename_i h2
        cases he
        intro o ho
        rcases List.mem_append.1 ho with ho | ho
        · exact absC_live h1 o ho
        · exact absCs_live h2 o ho
theorem nodup_ok : ∀ {l : List Nat}, nodup l = true → l.Nodup
  | [], _ => List.nodup_nil
  | x :: r, hh => by
    simp only [nodup] at hh
    cases hx : isIn r x with
    | true => rw [hx] at hh; cases hh
    | false =>
      rw [hx] at hh
      refine List.nodup_cons.2 ⟨fun hm => ?_, nodup_ok hh⟩
      have : ∀ (l : List Nat), x ∈ l → isIn l x = true := by
        intro l
        induction l with
        | nil => simp
        | cons y l ih =>
          intro hy
          simp only [isIn]
          rcases List.mem_cons.1 hy with rfl | hy
          · simp
          · simp [ih hy]
      rw [this r hm] at hx; cases hx
theorem isIn_iff {l : List Nat} {x : Nat} : isIn l x = true ↔ x ∈ l := by
  induction l with
  | nil => simp [isIn]
  | cons y l ih =>
    simp only [isIn]
    cases hb : Nat.beq y x with
    | true => have := Nat.eq_of_beq_eq_true hb; simp [this]
    | false => have := Nat.ne_of_beq_eq_false hb; simp [ih, Ne.symm this]
theorem isIn_not {l : List Nat} {x : Nat} : isIn l x = false ↔ x ∉ l := by
  cases h : isIn l x with
  | true => simp [isIn_iff.1 h]
  | false => simp; intro hm; rw [isIn_iff.2 hm] at h; cases h
theorem disj_ok : ∀ {l m : List Nat}, disj l m = true → ∀ x ∈ l, x ∉ m
  | [], _, _ => by simp
  | y :: l, m, hh => by
    simp only [disj] at hh
    cases hx : isIn m y with
    | true => rw [hx] at hh; cases hh
    | false =>
      rw [hx] at hh
      intro x hm
      rcases List.mem_cons.1 hm with rfl | hm
      · exact isIn_not.1 hx
      · exact disj_ok hh x hm
theorem nils_map : ∀ (L : List (List Nat)), (∀ f ∈ L, f = []) → L = L.map fun _ => []
  | [], _ => rfl
  | x :: L, hL => by
    rw [List.map_cons, ← nils_map L fun f hf => hL f (by simp [hf]), hL x (by simp)]
theorem setAt_nils : ∀ (A B : List (List Nat)) (n : Nat), (∀ f ∈ A, f = []) → (∀ f ∈ B, f = []) → setAt A n B = A.map fun _ => []
  | [], B, n, _, _ => by simp [setAt]
  | a :: A, [], n, hA, _ => by rw [setAt_nil]; exact nils_map _ hA
  | a :: A, b :: B, 0, hA, hB => by
    simp only [setAt, List.map_cons]
    rw [setAt_nils A B 0 (fun f hf => hA f (by simp [hf])) (fun f hf => hB f (by simp [hf])), hB b (by simp)]
  | a :: A, b :: B, n + 1, hA, hB => by
    simp only [setAt, List.map_cons]
    rw [setAt_nils A (b :: B) n (fun f hf => hA f (by simp [hf])) hB, hA a (by simp)]
section
variable {σ σ' : Nat → Option Value} {F F' : Nat → List Nat} {h h' : Heap Δ} {w w' : World} {S : Nat → Prop}

/-- an object changed in place, into which others may have gone -/
theorem stp_upd (H : HRel X σ F h w) {p : Nat} {dels : List Nat} {ob0 ob : Ob Δ} {Fn : List Nat} {w1 : World} (hz2 : 999 ∉ dels) (hp : p ∉ dels) (hg : hget h p = some ob0)
    (hw1 : w1.heap.size = w.heap.size) (hbl : ∀ b, b < w.heap.size → b ∉ F p → w1.heap[b]? = w.heap[b]?)
    (hFn : ∀ b ∈ Fn, b ∈ F p ∨ ∃ o ∈ dels, b ∈ F o) (hnd : Fn.Nodup) (hver : ∀ k l ver, ob = .arr true k l ver → ∃ l0 ver0, ob0 = .arr true k l0 ver0 ∧ ver0 < ver)
    (hob : ∀ (h' : Heap Δ) (F' : Nat → List Nat), (∀ v x, VR X h σ w (Sof F w) v x → VR X h' σ w1 (Sof F' w1) v x) → (∀ b, Sof F w b → Sof F' w1 b) →
      (∀ o ∈ dels, ∀ b ∈ F o, b ∉ Fn → Sof F' w1 b) → ObR X h' σ w1 (Sof F' w1) Fn p ob) (hio : SameIo w w1 := by exact ⟨rfl, rfl, rfl⟩) :
    Stp X σ F h w σ (fun x => if x = p then Fn else if x ∈ dels then [] else F x) ((p, some ob) :: dels.map (fun o => (o, none)) ++ h) w1 := by
  have hlk : ∀ (ds : List Nat) (x : Nat), hget ((ds.map fun o => (o, (none : Option (Ob Δ)))) ++ h) x = if x ∈ ds then none else hget h x := by
    intro ds x
    induction ds with
    | nil => simp
    | cons d r ih =>
      simp only [List.map_cons, List.cons_append, hget, look]
      cases hb : Nat.beq d x with
      | true => have : d = x := Nat.eq_of_beq_eq_true hb; simp [this]
      | false =>
        have : d ≠ x := Nat.ne_of_beq_eq_false hb
        simp only [cond_false]
        unfold hget at ih
        rw [ih]
        simp [Ne.symm this]
  have hget' : ∀ x, hget ((p, some ob) :: dels.map (fun o => (o, none)) ++ h) x = if x = p then some ob else if x ∈ dels then none else hget h x := by
    intro x
    show hget ((p, some ob) :: (dels.map (fun o => (o, none)) ++ h)) x = _
    simp only [hget, look]
    cases hb : Nat.beq p x with
    | true => have : p = x := Nat.eq_of_beq_eq_true hb; simp [this]
    | false =>
      have : p ≠ x := Nat.ne_of_beq_eq_false hb
      simp only [cond_false]
      have := hlk dels x
      unfold hget at this
      rw [this]; simp only [show ¬ (x = p) from fun e => ‹p ≠ x› (Eq.symm e), if_false]
  have c : Chg (fun x => x = p ∨ x ∈ dels) σ F h w σ (fun x => if x = p then Fn else if x ∈ dels then [] else F x)
      ((p, some ob) :: dels.map (fun o => (o, none)) ++ h) w1 := by
    refine ⟨fun x hx => ?_, fun b hb hh => hbl b hb (hh p (.inl rfl)), Nat.le_of_eq hw1.symm, fun x hx b hb => ?_, fun x hx => ?_, fun x x' hx hx' hne b hb => ?_, fun x hx hh => ?_, fun x v hv => hv, fun x v hx hv => H.sv _ _ hv, fun hh => hh.elim (fun e => by have := H.hz; rw [e, hg] at this; cases this) hz2, hio, fun x k l ver hx hh => ?_⟩
    · have h1 : x ≠ p := fun e => hx (.inl e)
      have h2 : x ∉ dels := fun e => hx (.inr e)
      exact ⟨by rw [hget']; simp [h1, h2], rfl, by simp [h1, h2]⟩
    · by_cases e : x = p
      · simp only [e, if_true] at hb
        rcases hFn b hb with h1 | ⟨o, ho, h1⟩
        · exact ⟨by rw [hw1]; exact H.bd p b h1, .inl ⟨p, .inl rfl, h1⟩⟩
        · exact ⟨by rw [hw1]; exact H.bd o b h1, .inl ⟨o, .inr ho, h1⟩⟩
      · rcases hx with hx | hx
        · exact absurd hx e
        · simp [e, hx] at hb
    · by_cases e : x = p
      · simp only [e, if_true]; exact hnd
      · rcases hx with hx | hx
        · exact absurd hx e
        · simp [e, hx]
    · rcases hx with rfl | hx
      · rcases hx' with rfl | hx'
        · exact absurd rfl hne
        · have h9 : ¬ x' = x := fun e => hne (Eq.symm e)
          simp [h9, hx']
      · by_cases e : x = p
        · subst e
          rcases hx' with rfl | hx'
          · exact absurd rfl hne
          · have h9 : ¬ x' = x := fun e => hne (Eq.symm e)
            simp [h9, hx']
        · simp [e, hx] at hb
    · by_cases e : x = p
      · rw [hget'] at hh; simp [e] at hh
      · rcases hx with hx | hx
        · exact absurd hx e
        · simp [e, hx]
    · by_cases e : x = p
      · subst e
        rw [hget'] at hh; simp at hh
        obtain ⟨l0, ver0, e1, e2⟩ := hver k l ver hh
        exact .inr ⟨l0, ver0, by rw [hg, e1], e2⟩
      · rcases hx with hx | hx
        · exact absurd hx e
        · rw [hget'] at hh; simp [e, hx] at hh
  refine c.stp H fun vr sub o x hT ho => ?_
  rw [hget'] at ho
  by_cases e : o = p
  · subst e
    simp only [if_true] at ho
    cases ho
    simp only [if_true]
    refine hob _ _ vr sub (fun o' ho' b hb hn => ⟨by rw [hw1]; exact H.bd o' b hb, fun x hx => ?_⟩)
    by_cases e : x = o
    · simp only [e, if_true] at hx; exact hn hx
    · by_cases e2 : x ∈ dels
      · simp [e, e2] at hx
      · simp only [e, e2, if_false] at hx
        exact H.dj o' x (fun e3 => e2 (e3 ▸ ho')) b hb hx
  · rcases hT with hT | hT
    · exact absurd hT e
    · simp [e, hT] at ho

theorem heap_setRow (w : World) (g : Nat) (c : Array Value) : (w.setRow g c).heap.size = w.heap.size := by simp [World.setRow]

theorem storeVar_ok {t : Nat} {i : TI} (ht : TIok P Δ i t) {b off : Nat} {c : Array Value} {et : TypeId} (hb : w.heap[b]? = some (.cells c et (0, 0))) {v : Value} {vs : List Value}
    (hv : v.cells = vs.toArray) (hl : vs.length = i.sz) (h1 : ∀ u ∈ vs, u.oneCell' = true) (hoff : off + vs.length ≤ c.size) :
    (storeVar t ⟨b, off, none⟩ v).run P w = .ok () (w.setRow b (setAt c.toList off vs).toArray) := by
  have := run_storeCells_at P b off et vs 0 c w hb (by simpa using hoff) h1
  simp only [Nat.add_zero] at this
  rw [← setAt_eq _ _ _ (by simpa using hoff)] at this
  simp [storeVar, hv, run_size ht, hl, this]

/-- a store into a box -/
theorem store_box_ok (H : HRel X σ F h w) {t : Nat} {i : TI} (ht : TIok P Δ i t) {p off : Nat} {t' : TypeId} {cs vs' : List (CV Δ)} (hg : hget h p = some (.box t' cs)) (hm : isSpT t' = false)
    {a v : Value} (ha : VR X h σ w (Sof F w) a (.ptr p off)) {av : AV Δ} (hv : AR X h σ w (Sof F w) v av) (hc : pvCells av = some vs') (hl : vs'.length = i.sz) (hoff : off + i.sz ≤ cs.length) :
    ∃ w', (Instr.storeAt t a v).run P w = .ok () w' ∧ Stp X σ F h w σ (fun x => if x = p then F p else F x) ((p, some (.box t' (setAt cs off vs'))) :: h) w' := by
  obtain ⟨b, c, s1, s2, s3, s4⟩ := (H.ob p _ hg).box hm
  obtain ⟨b', s5, s6⟩ := ha
  rw [s1] at s5; cases s5
  have s6 := s6.ptr
  obtain ⟨vs, v1, v2, v3⟩ := pv_ok H hv hc
  have hlen := v2.length
  have hcl := s4.length
  have hrun := storeVar_ok (P := P) ht s3 v1 (by omega) v3 (off := off) (by simp at hcl; omega)
  refine ⟨w.setRow b (setAt c.toList off vs).toArray, by subst s6; simp [Instr.storeAt, Instr.sureAddr, hrun], ?_⟩
  have hlt : b < w.heap.size := (Array.getElem?_eq_some_iff.1 s3).1
  have := stp_upd H (p := p) (dels := []) (ob := .box t' (setAt cs off vs')) (Fn := F p) (w1 := w.setRow b (setAt c.toList off vs).toArray) (by simp) (by simp) hg (heap_setRow ..)
    (fun b' _ hb' => setRow_other w b b' _ (fun e => hb' (by rw [s2, e]; simp))) (fun b' hb' => .inl hb') (H.nd p) (fun k l ver e => by cases e)
    (fun h' F' vr sub _ => .inl ⟨hm, b, _, s1, s2, setRow_heap w b c _ t' _ s3, by simpa using (s4.mono vr).setAt (v2.mono vr) off⟩)
  simpa using this

theorem nodup_flatMap {ds : List Nat} {F : Nat → List Nat} (hd : ds.Nodup) (hn : ∀ o, (F o).Nodup) (hdj : ∀ o o', o ≠ o' → ∀ b ∈ F o, b ∉ F o') : (ds.flatMap F).Nodup := by
  induction ds with
  | nil => simp
  | cons d ds ih =>
    rw [List.flatMap_cons]
    obtain ⟨h1, h2⟩ := List.nodup_cons.1 hd
    refine List.nodup_append.2 ⟨hn d, ih h2, fun a ha b hb e => ?_⟩
    subst e
    obtain ⟨o, ho, hb⟩ := List.mem_flatMap.1 hb
    exact hdj d o (fun e => h1 (e ▸ ho)) a ha hb

/-- a store into an array -/
theorem store_arr_ok (xok : Xok X) (H : HRel X σ F h w) {t : Nat} {i : TI} (ht : TIok P Δ i t) {p off : Nat} {k : Kd} {ix : Int} {d : Bool} {l : List (k.T Δ)} {ver : Nat} (hg : hget h p = some (.arr d k l ver))
    {a v : Value} (ha : VR X h σ w (Sof F w) a (.opp p k ix off)) {av : AV Δ} (hv : AR X h σ w (Sof F w) v av) {cs cs' : List (CV Δ)} (hc : pvCells av = some cs) (hl : cs.length = i.sz) (hoff : off + i.sz ≤ ksz X k)
    {dels : List Nat} (habs : absCs X d h cs = some (cs', dels)) (hp : p ∉ dels) (hnd : dels.Nodup) {x : k.T Δ} (hx : ofCells X k (setAt (cells X k (rd X k l ix)) off cs') = some x) :
    ∃ w' F', (Instr.storeAt t a v).run P w = .ok () w' ∧ Stp X σ F h w σ F' ((p, some (.arr d k (l.set ix.toNat x) (Nat.succ ver))) :: dels.map (fun o => (o, none)) ++ h) w' := by
  obtain ⟨h0, b, base, len, cap, s1, s2, s3⟩ := ha
  have hlne : l ≠ [] := by
    rintro rfl
    obtain ⟨v', a1, a2⟩ := H.ob p _ hg
    rw [s1] at a1; cases a1
    rcases (Rel.shs_iff X).1 a2 with h | ⟨b', off', cap', c, t', fr, Fs, e1, _⟩
    · cases (Emp.own h.1)
    · cases e1; simp at s2; omega
  obtain ⟨b', off', cap', c, t', Fs, f1, f2, f3, f4, f5, f6⟩ := arr_open H hg hlne
  rw [s1] at f1; cases f1
  obtain ⟨vs, v1, v2, v3⟩ := pv_ok H hv hc
  have hvl := v2.length
  have hmul : (ix.toNat + 1) * ksz X k ≤ l.length * ksz X k := Nat.mul_le_mul_right _ (by omega)
  rw [Nat.succ_mul] at hmul
  have hlc : l.length * ksz X k ≤ cap * ksz X k := Nat.mul_le_mul_right _ f4
  have hrun := storeVar_ok (P := P) ht f2 v1 (by omega) v3 (off := base + ix.toNat * ksz X k + off) (by omega)
  have hbF : b ∈ F p := by rw [f5]; simp
  have hcells := ofCells_cells xok hx
  have hcl : cs'.length = cs.length := by
    have : ∀ (cs cs' : List (CV Δ)) (ds : List Nat), absCs X d h cs = some (cs', ds) → cs'.length = cs.length := by
      intro cs
      induction cs with
      | nil => intro cs' ds e; simp [absCs] at e; simp [e.1.symm]
      | cons c cs ih =>
        intro cs' ds e
        simp only [absCs] at e
        split at e
        · cases e
        · split at e
          · cases e
          · rename_i h2; cases e; simp [ih _ _ h2]
    exact this _ _ _ habs
  -- the values behind the store
  have hV : (((setAt c.toList (base + ix.toNat * ksz X k + off) vs).drop base).take (l.length * ksz X k)) =
      setAt ((c.toList.drop base).take (l.length * ksz X k)) (ix.toNat * ksz X k + off) vs := by
    rw [Nat.add_assoc, setAt_drop _ _ _ _ (by simp; omega), setAt_take _ _ _ _ (by omega) (by simp; omega)]
  have hflat : All2 NN ((l.set ix.toNat x).flatMap (cells X k)) (setAt (l.flatMap (cells X k)) (ix.toNat * ksz X k + off) cs') := by
    have hlt : ix.toNat < l.length := by omega
    have e1 := take_flat_set xok l ix.toNat x hlt
    have e2 := flat_split xok l ix.toNat _ (rd_get (X := X) k l ix h0 (by omega))
    have hA : ((l.flatMap (cells X k)).take (ix.toNat * ksz X k)).length = ix.toNat * ksz X k := by rw [List.length_take, flat_len xok]; omega
    rw [e1]
    conv => rhs; rw [e2, show ix.toNat * ksz X k + off = ((l.flatMap (cells X k)).take (ix.toNat * ksz X k)).length + off by rw [hA]]
    rw [setAt_mid _ _ _ _ _ (by rw [cells_len xok]; omega), hcells]
    exact (NN_self _).append ((NN_norm _ _).append (NN_self _))
  have hdat : ∀ y ∈ (l.set ix.toNat x).flatMap (cells X k), isData y = true := fun y hy => by
    obtain ⟨z, _, hz⟩ := List.mem_flatMap.1 hy
    exact data_cells xok k z y hz
  have fin : ∀ (Fs' : List (List Nat)) (hFs' : ∀ b' ∈ Fs'.flatten, b' ∈ F p ∨ ∃ o ∈ dels, b' ∈ F o) (hn' : (b :: Fs'.flatten).Nodup)
      (hrel : ∀ (h' : Heap Δ) (F' : Nat → List Nat), (∀ v x, VR X h σ w (Sof F w) v x → VR X h' σ (w.setRow b (setAt c.toList (base + ix.toNat * ksz X k + off) vs).toArray) (Sof F' (w.setRow b (setAt c.toList (base + ix.toNat * ksz X k + off) vs).toArray)) v x) →
        (∀ b2, Sof F w b2 → Sof F' (w.setRow b (setAt c.toList (base + ix.toNat * ksz X k + off) vs).toArray) b2) → True →
        (∀ b', Sof F w b' → (Sof F' (w.setRow b (setAt c.toList (base + ix.toNat * ksz X k + off) vs).toArray)) b') → (∀ o ∈ dels, ∀ b' ∈ F o, b' ∉ b :: Fs'.flatten → Sof F' (w.setRow b (setAt c.toList (base + ix.toNat * ksz X k + off) vs).toArray) b') →
        All3 (RN X (own1 d).inner (w.setRow b (setAt c.toList (base + ix.toNat * ksz X k + off) vs).toArray) (Sof F' (w.setRow b (setAt c.toList (base + ix.toNat * ksz X k + off) vs).toArray)))
          (setAt ((c.toList.drop base).take (l.length * ksz X k)) (ix.toNat * ksz X k + off) vs) (setAt (l.flatMap (cells X k)) (ix.toNat * ksz X k + off) cs') Fs'),
      ∃ w' F', (Instr.storeAt t a v).run P w = .ok () w' ∧ Stp X σ F h w σ F' ((p, some (.arr d k (l.set ix.toNat x) (Nat.succ ver))) :: dels.map (fun o => (o, none)) ++ h) w' := by
    intro Fs' hFs' hn' hrel
    refine ⟨w.setRow b (setAt c.toList (base + ix.toNat * ksz X k + off) vs).toArray, fun x => if x = p then b :: Fs'.flatten else if x ∈ dels then [] else F x, by subst s3; simp [Instr.storeAt, Instr.sureAddr, hrun], ?_⟩
    refine stp_upd H (p := p) (dels := dels) (ob := .arr d k (l.set ix.toNat x) (Nat.succ ver)) (Fn := b :: Fs'.flatten) (fun h9 => absCs_live habs 999 h9 H.hz) hp hg (heap_setRow ..)
      (fun b' _ hb' => setRow_other w b b' _ (fun e => hb' (by rw [e]; exact hbF))) (fun b' hb' => ?_) hn' (fun k' l' ver' e => by cases e; exact ⟨l, ver, rfl, Nat.lt_succ_self _⟩) ?_
    · rcases List.mem_cons.1 hb' with rfl | hb'
      · exact .inl hbF
      · exact hFs' b' hb'
    · intro h' F' vr sub hds
      refine ⟨_, s1, (Rel.shs_iff X).2 (.inr ⟨b, base, cap, _, t', (0, 0), Fs', by simp, setRow_heap w b c _ t' _ f2, by simp [setAt_len]; omega, by simpa using f4, ?_, ?_⟩)⟩
      · cases d <;> exact ⟨rfl, rfl⟩
      · have := RN_rel (hrel h' F' vr (fun b' hb' => sub b' hb') trivial sub hds) hflat hdat
        simpa [hV] using this
  have hsameO : ∀ b', b' ≠ b → (w.setRow b (setAt c.toList (base + ix.toNat * ksz X k + off) vs).toArray).heap[b']? = w.heap[b']? := fun b' hb' => setRow_other w b b' _ hb'
  have hSb : ∀ b', Sof F w b' → b' ≠ b := fun b' hb' e => hb'.2 p (e ▸ hbF)
  have hbnot : b ∉ Fs.flatten := by
    have := H.nd p; rw [f5] at this; exact (List.nodup_cons.1 this).1
  cases d with
  | false =>
    have hFs0 : Fs.flatten = [] := by
      refine flatten_nil fun f hf => ?_
      obtain ⟨j, hj⟩ := List.getElem?_of_mem hf
      have hjl : j < (l.flatMap (cells X k)).length := by
        have := (List.getElem?_eq_some_iff.1 hj).1; have := f6.length.2; omega
      obtain ⟨_, f', _, hf', hr⟩ := f6.get (List.getElem?_eq_getElem hjl)
      rw [hj] at hf'; cases hf'
      exact hr.sh_nil
    obtain ⟨Fn0, _, hFn0⟩ := abs_shal (w' := w) (S' := fun b => True) H v2 habs (fun _ _ => rfl) (fun _ _ => trivial) (fun _ _ _ _ => ⟨trivial, rfl⟩)
    have hmapnil : (Fs.map fun _ => ([] : List Nat)).flatten = [] := flatten_nil (by simp)
    refine fin (Fs.map fun _ => []) (fun b' hb' => by rw [hmapnil] at hb'; cases hb') (by rw [hmapnil]; simp) fun h' F' vr sub _ hsub hds => ?_
    obtain ⟨Fn, a1, a2⟩ := abs_shal (w' := w.setRow b (setAt c.toList (base + ix.toNat * ksz X k + off) vs).toArray) (S' := Sof F' (w.setRow b (setAt c.toList (base + ix.toNat * ksz X k + off) vs).toArray)) H v2 habs
      (fun b' hb' => hsameO b' (hSb b' hb')) hsub (fun o ho b' hb' => by
        have hne : b' ≠ b := fun e => H.dj o p (fun e2 => hp (e2 ▸ ho)) b' hb' (e ▸ hbF)
        exact ⟨hds o ho b' hb' (by rw [hmapnil]; simp [hne]), hsameO b' hne⟩)
    have f6' : All3 (RN X .sh (w.setRow b (setAt c.toList (base + ix.toNat * ksz X k + off) vs).toArray) (Sof F' (w.setRow b (setAt c.toList (base + ix.toNat * ksz X k + off) vs).toArray)))
        ((c.toList.drop base).take (l.length * ksz X k)) (l.flatMap (cells X k)) Fs :=
      f6.mono fun a c f _ hr => .inr (Rel.frame X (fun b' hb' => hsameO b' (hSb b' hb')) hsub (by rw [hr.sh_nil]; simp) hr)
    have hall := f6'.setAt a1 (ix.toNat * ksz X k + off)
    have : setAt Fs (ix.toNat * ksz X k + off) Fn = Fs.map fun _ => [] := by
      have hFnil : ∀ f ∈ Fn, f = [] := by simpa using a2
      have hFsnil : ∀ f ∈ Fs, f = [] := by simpa using hFs0
      exact setAt_nils Fs Fn _ hFsnil hFnil
    rw [this] at hall
    exact hall
  | true =>
    obtain ⟨Fn, a1, a2⟩ := abs_deep xok H v2 habs
    have hFsl : Fs.length = l.length * ksz X k := by rw [f6.length.2, flat_len xok]
    have hFnl : Fn.length = vs.length := by have := a1.length; omega
    have hset : setAt Fs (ix.toNat * ksz X k + off) Fn = Fs.take (ix.toNat * ksz X k + off) ++ Fn ++ Fs.drop (ix.toNat * ksz X k + off + Fn.length) := setAt_eq _ _ _ (by omega)
    have hmem : ∀ b', b' ∈ (setAt Fs (ix.toNat * ksz X k + off) Fn).flatten → b' ∈ Fs.flatten ∨ b' ∈ dels.flatMap F := by
      intro b' hb'
      rw [hset] at hb'
      simp only [List.flatten_append, List.mem_append, a2] at hb'
      rcases hb' with (hb' | hb') | hb'
      · obtain ⟨f, hf, hb'⟩ := List.mem_flatten.1 hb'; exact .inl (List.mem_flatten.2 ⟨f, List.mem_of_mem_take hf, hb'⟩)
      · exact .inr hb'
      · obtain ⟨f, hf, hb'⟩ := List.mem_flatten.1 hb'; exact .inl (List.mem_flatten.2 ⟨f, List.mem_of_mem_drop hf, hb'⟩)
    have hpd : ∀ b' ∈ F p, b' ∉ dels.flatMap F := fun b' hb' hm => by
      obtain ⟨o, ho, hb2⟩ := List.mem_flatMap.1 hm
      exact H.dj p o (fun e => hp (e ▸ ho)) b' hb' hb2
    refine fin (setAt Fs (ix.toNat * ksz X k + off) Fn) (fun b' hb' => ?_) ?_ fun h' F' vr sub _ hsub hds => ?_
    · rcases hmem b' hb' with h1 | h1
      · exact .inl (by rw [f5]; simp [h1])
      · obtain ⟨o, ho, hb2⟩ := List.mem_flatMap.1 h1; exact .inr ⟨o, ho, hb2⟩
    · refine List.nodup_cons.2 ⟨fun hb' => ?_, ?_⟩
      · rcases hmem b hb' with h1 | h1
        · exact hbnot h1
        · exact hpd b hbF h1
      · rw [hset]
        have hFsnd : Fs.flatten.Nodup := by have := H.nd p; rw [f5] at this; exact (List.nodup_cons.1 this).2
        simp only [List.flatten_append, a2]
        have hsplit : Fs.flatten = (Fs.take (ix.toNat * ksz X k + off)).flatten ++ (Fs.drop (ix.toNat * ksz X k + off)).flatten := by rw [← List.flatten_append, List.take_append_drop]
        have hdd : (Fs.drop (ix.toNat * ksz X k + off)).flatten = ((Fs.drop (ix.toNat * ksz X k + off)).take Fn.length).flatten ++ (Fs.drop (ix.toNat * ksz X k + off + Fn.length)).flatten := by
          rw [← List.flatten_append, show Fs.drop (ix.toNat * ksz X k + off + Fn.length) = (Fs.drop (ix.toNat * ksz X k + off)).drop Fn.length by rw [List.drop_drop], List.take_append_drop]
        rw [hsplit, hdd] at hFsnd
        obtain ⟨n1, n2, n3⟩ := List.nodup_append.1 hFsnd
        obtain ⟨n4, n5, n6⟩ := List.nodup_append.1 n2
        have inF : ∀ b', (b' ∈ (Fs.take (ix.toNat * ksz X k + off)).flatten ∨ b' ∈ (Fs.drop (ix.toNat * ksz X k + off + Fn.length)).flatten) → b' ∈ F p := by
          intro b' hb'
          rw [f5]
          refine List.mem_cons.2 (.inr ?_)
          rcases hb' with hb' | hb'
          · obtain ⟨f, hf, hb'⟩ := List.mem_flatten.1 hb'; exact List.mem_flatten.2 ⟨f, List.mem_of_mem_take hf, hb'⟩
          · obtain ⟨f, hf, hb'⟩ := List.mem_flatten.1 hb'; exact List.mem_flatten.2 ⟨f, List.mem_of_mem_drop hf, hb'⟩
        refine List.nodup_append.2 ⟨List.nodup_append.2 ⟨n1, nodup_flatMap hnd H.nd H.dj, fun x hx y hy e => ?_⟩, n5, fun x hx y hy e => ?_⟩
        · subst e; exact hpd x (inF x (.inl hx)) hy
        · subst e
          rcases List.mem_append.1 hx with hx | hx
          · exact n3 x hx x (by simp [hy]) rfl
          · exact hpd x (inF x (.inr hy)) hx
    · have hdel : ∀ b' ∈ dels.flatMap F, b' ≠ b := fun b' hb' e => hpd b hbF (e ▸ hb')
      have f6' := f6.mono (R' := RN X .dp (w.setRow b (setAt c.toList (base + ix.toNat * ksz X k + off) vs).toArray) (Sof F' (w.setRow b (setAt c.toList (base + ix.toNat * ksz X k + off) vs).toArray)))
        fun a c f hf hr => .inr (Rel.frame X (fun b' hb' => hsameO b' (hSb b' hb')) hsub (fun b' hb' => hsameO b' fun e => hbnot (e ▸ List.mem_flatten.2 ⟨f, hf, hb'⟩)) hr)
      have a1' := a1.mono (R' := RN X .dp (w.setRow b (setAt c.toList (base + ix.toNat * ksz X k + off) vs).toArray) (Sof F' (w.setRow b (setAt c.toList (base + ix.toNat * ksz X k + off) vs).toArray)))
        fun a c f hf hr => by
          rcases hr with hr | hr
          · exact .inl hr
          · exact .inr (Rel.frame X (fun b' hb' => hsameO b' (hSb b' hb')) hsub (fun b' hb' => hsameO b' (hdel b' (by rw [← a2]; exact List.mem_flatten.2 ⟨f, hf, hb'⟩))) hr)
      exact f6'.setAt a1' _
end
end Go.Ev
