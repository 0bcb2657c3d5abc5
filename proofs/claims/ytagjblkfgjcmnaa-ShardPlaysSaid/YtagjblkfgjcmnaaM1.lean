/-
  Parts of the proof: Sx. Conditions: none.
-/
import Derived.WalkKit
import Derived.OrdersHeld
import Derived.KernelRfl
set_option linter.unusedVariables false
set_option linter.unusedSimpArgs false
set_option linter.unusedSectionVars false
namespace Go.Sx
open Go.RowKit

/-! ### Values, blocks, states -/
inductive CV where
  | v (x : Value)
  | p (b i f : Nat)
  | s (b i len cap : Nat)
  | fn (f : FuncId) (caps : List CV)

structure Nm where
  blk : Nat
  base : Nat
  esz : Nat

abbrev Env := Nat → Nm

mutual
def CV.den (ρ : Env) : CV → Value
  | .v x => x
  | .p b i f => .pointer (some ⟨(ρ b).blk, (ρ b).base + i * (ρ b).esz + f, none⟩)
  | .s b i l c => .slice (some ⟨(ρ b).blk, (ρ b).base + i * (ρ b).esz, none⟩) l c
  | .fn f caps => .func (.func f) #[] (CV.denL ρ caps).toArray
def CV.denL (ρ : Env) : List CV → List Value
  | [] => []
  | x :: r => CV.den ρ x :: CV.denL ρ r
end

theorem CV.denL_eq (ρ : Env) (l : List CV) : CV.denL ρ l = l.map (CV.den ρ) := by
  induction l with
  | nil => simp [CV.denL]
  | cons x r ih => simp [CV.denL, ih]
inductive SV where
  | c (x : CV)
  | agg (l : List CV)
  | tup (l : List SV)
  | bad

mutual
def SV.den (ρ : Env) : SV → Value
  | .c x => x.den ρ
  | .agg l => .agg (CV.denL ρ l).toArray
  | .tup l => .tuple (SV.denL ρ l).toArray
  | .bad => undef
def SV.denL (ρ : Env) : List SV → List Value
  | [] => []
  | x :: r => SV.den ρ x :: SV.denL ρ r
end

theorem SV.denL_eq (ρ : Env) (l : List SV) : SV.denL ρ l = l.map (SV.den ρ) := by
  induction l with
  | nil => simp [SV.denL]
  | cons x r ih => simp [SV.denL, ih]

mutual
def SV.ok : SV → Bool
  | .bad => false
  | .tup l => SV.okL l
  | _ => true
def SV.okL : List SV → Bool
  | [] => true
  | x :: r => SV.ok x && SV.okL r
end
inductive Blk where
  | cells (ty : TypeId) (cs : List CV)
  | rows (ty : TypeId) (esz m c : Nat) (r : Nat → List CV)
  | imm (esz m : Nat) (r : Nat → List CV)
  | obj (o : Obj)
  | pred (fp : List Nat) (R : World → Prop)

structure St where
  fr : List (Nat × SV)
  hp : List (Nat × Blk)
  nx : Nat
structure Cx where
  w0 : World
  M : Nat → Prop
  N : Nat
  n0 : Nat
  ρ0 : Env

def lk : List (Nat × SV) → Nat → SV
  | [], _ => .bad
  | (a, x) :: r, t => bif Nat.beq a t then x else lk r t

def hget : List (Nat × Blk) → Nat → Option Blk
  | [], _ => none
  | (a, x) :: r, n => bif Nat.beq a n then some x else hget r n

def hset : List (Nat × Blk) → Nat → Blk → List (Nat × Blk)
  | [], _, _ => []
  | (a, x) :: r, n, y => bif Nat.beq a n then (a, y) :: r else (a, x) :: hset r n y

def St.ev (st : St) : Operand → SV
  | .tmp t => lk st.fr t
  | .const v => .c (.v v)
  | .global g => .c (.v (.pointer (some ⟨g, 0, none⟩)))
  | .func f => .c (.fn f [])

def St.put (st : St) (d : Option Tmp) (x : SV) : St :=
  match d with
  | some d => { st with fr := (d, x) :: st.fr }
  | none => st
def kput (K : St → Prop) (st : St) (d : Option Tmp) (x : SV) : Prop := K (st.put d x)

def St.evL (st : St) : List Operand → List SV
  | [] => []
  | x :: r => st.ev x :: St.evL st r

/-! ### The world against the state -/

def Cx.own (C : Cx) (b : Nat) : Prop := C.w0.heap.size ≤ b ∨ C.M b

structure Keeps (M : Nat → Prop) (w w' : World) : Prop where
  os : w'.os = w.os
  tape : w'.tape = w.tape
  output : w'.output = w.output
  size : w.heap.size ≤ w'.heap.size
  block : ∀ k, k < w.heap.size → ¬ M k → w'.heap[k]? = w.heap[k]?
def Stable (fp : List Nat) (R : World → Prop) : Prop := ∀ w w' : World, R w → (∀ k, k ∈ fp → w'.heap[k]? = w.heap[k]?) → R w'
def HeapAt (w : World) (b : Nat) (arr : Array Value) (ty : TypeId) (e : Nat) : Prop := ∃ fz : Nat × Nat, w.heap[b]? = some (.cells arr ty fz) ∧ (fz = (0, 0) ∨ (arr.size ≤ fz.1 ∧ e = 1))
def Blk.holds (C : Cx) (ρ : Env) (n : Nat) (w : World) : Blk → Prop
  | .cells ty cs => (ρ n).base = 0 ∧ w.heap[(ρ n).blk]? = some (.cells (cs.map (CV.den ρ)).toArray ty (0, 0)) ∧ C.own (ρ n).blk ∧ (ρ n).esz = 1
  | .rows ty e m c r => (ρ n).base = 0 ∧ (ρ n).esz = e ∧ (∃ arr, HeapAt w (ρ n).blk arr ty e ∧ c * e ≤ arr.size ∧
      ∀ i, i < m → (r i).length = e ∧ ∀ k, k < e → arr[i * e + k]? = ((r i)[k]?).map (CV.den ρ)) ∧ C.own (ρ n).blk
  | .imm e m r => (ρ n).esz = e ∧ (∀ i, i < m → (r i).length = e ∧ ∀ k, k < e → w.cell? ⟨(ρ n).blk, (ρ n).base + i * e + k, none⟩ = ((r i)[k]?).map (CV.den ρ)) ∧
      (0 < m → (ρ n).blk < C.w0.heap.size ∧ ¬ C.M (ρ n).blk)
  | .obj o => (ρ n).base = 0 ∧ w.heap[(ρ n).blk]? = some o ∧ C.own (ρ n).blk
  | .pred fp R => R w ∧ Stable fp R ∧ fp.Nodup ∧ ∀ k, k ∈ fp → k < w.heap.size ∧ C.own k
def Blk.foot (ρ : Env) (n : Nat) : Blk → List Nat
  | .imm .. => []
  | .pred fp _ => fp
  | _ => [(ρ n).blk]

def footL (ρ : Env) : List (Nat × Blk) → List Nat
  | [] => []
  | (n, b) :: r => b.foot ρ n ++ footL ρ r
def HpOk (C : Cx) (ρ : Env) (w : World) (hp : List (Nat × Blk)) : Prop := ∀ n b, (n, b) ∈ hp → b.holds C ρ n w

structure Sat0 (C : Cx) (st : St) (ρ : Env) (a : Act) (w : World) : Prop where
  fr : ∀ t, (lk st.fr t).ok = true → a.tmps.getD t undef = (lk st.fr t).den ρ
  defers : a.defers = []
  size : a.tmps.size = C.N ∧ ∀ k, k < C.n0 → ρ k = C.ρ0 k
  keeps : Keeps C.M C.w0 w
  hp : HpOk C ρ w st.hp
  nodup : (footL ρ st.hp).Nodup
  names : ∀ n b, (n, b) ∈ st.hp → n < st.nx
  once : (st.hp.map (·.1)).Nodup
  n0le : C.n0 ≤ st.nx
def Sat (C : Cx) (st : St) (ρ : Env) (a : Act) (w : World) : Prop := ∀ ρ' : Env, (∀ n, n < st.nx → ρ' n = ρ n) → Sat0 C st ρ' a w

theorem Sat.now {C : Cx} {st : St} {ρ : Env} {a : Act} {w : World} (h : Sat C st ρ a w) : Sat0 C st ρ a w := h ρ fun _ _ => rfl
def KK (C : Cx) (n : Nat) (ρ0 : Env) (K : St → Prop) (a : Act) (w : World) : Prop := ∃ st ρ, K st ∧ Sat C st ρ a w ∧ n ≤ st.nx ∧ ∀ k, k < n → ρ k = ρ0 k

def QQ (C : Cx) (ρ0 : Env) (Q : Exit → St → Prop) (e : Exit) (a : Act) (w : World) : Prop :=
  match e with
  | .panic _ => False
  | .outgrown => False
  | e => ∃ st ρ, Q e st ∧ Sat C st ρ a w ∧ ∀ k, k < C.n0 → ρ k = ρ0 k

def nQ : Exit → Act → World → Prop := fun _ _ _ => False
def SCode (P : Program) (C : Cx) (c : Code) (Q : Exit → St → Prop) (st : St) : Prop := ∀ ρ a w, Sat C st ρ a w → c.wp P (QQ C ρ Q) a w
def SOp (P : Program) (C : Cx) (o : Oper) (K : St → Prop) (st : St) : Prop := ∀ ρ a w, Sat C st ρ a w → o.wp P a w (KK C st.nx ρ K) nQ

/-! ### Types -/

def tsz (P : Program) (t : TypeId) : Option Nat := (P.info? t).map (·.size)
def tagg (P : Program) (t : TypeId) : Option Bool := (P.underlying t).map fun | .struct _ => true | .array _ _ => true | _ => false
def tfld (P : Program) (t : TypeId) (k : Nat) : Option (Nat × TypeId) :=
  match P.underlying t with
  | some (.struct fs) => (fs[k]?).map fun f => (f.offset, f.type)
  | _ => none
def tzero (P : Program) (t : TypeId) : Option (List Value) := ((P.info? t).bind (·.zero)).map fun v => v.cells.toList
def tplaces (P : Program) (t : TypeId) : Option (List (Nat × Nat)) :=
  match P.underlying t with
  | some (.struct fs) => fs.toList.mapM fun f => (tsz P f.type).map fun n => (f.offset, n)
  | _ => none
inductive TK where
  | arr (n : Nat) (e : TypeId)
  | slc (e : TypeId)
  | str
  | oth
def tkind (P : Program) (t : TypeId) : Option TK :=
  (P.underlying t).map fun | .array n e => .arr n e | .slice e => .slc e | .string => .str | _ => .oth
def tptr (P : Program) (t : TypeId) : Option Bool := (P.underlying t).map fun | .pointer _ => true | _ => false
def tslc (P : Program) (t : TypeId) : Option Bool := (P.underlying t).map fun | .slice _ => true | _ => false
def tmap (P : Program) (t : TypeId) : Option Bool := (P.underlying t).map fun | .map _ _ => true | _ => false
def tbool (P : Program) (t : TypeId) : Option Bool := (P.underlying t).map fun | .bool => true | _ => false
def tint (P : Program) (t : TypeId) : Option (Option IntKind) := (P.underlying t).map fun | .int k => some k | _ => none
/-! ### The walk -/

def wO {α : Type} (x : Option α) (F : α → Prop) : Prop := match x with | some y => F y | none => False
def wP (x : SV) (F : Nat → Nat → Nat → Prop) : Prop := match x with | .c (.p b i f) => F b i f | _ => False
def wI (x : SV) (F : IntKind → Int → Prop) : Prop := match x with | .c (.v (.int k n)) => F k n | _ => False
def br (b : Bool) (p q : St → Prop) (st : St) : Prop := (b = true → p st) ∧ (b = false → q st)
def wB (x : SV) (p q : St → Prop) (st : St) : Prop := match x with | .c (.v (.bool b)) => br b p q st | _ => False
def wG (x : SV) (p q u : St → Prop) (st : St) : Prop := match x with | .c (.v (.tuple _)) => u st | x => wB x p q st
def wOk (x : SV) (F : SV → Prop) : Prop := match x with | .bad => False | .tup l => SV.okL l = true ∧ F (.tup l) | x => F x
def pk (b : Bool) (x y : SV) (F : SV → Prop) : Prop := (b = true → wOk x F) ∧ (b = false → wOk y F)
def wPk (c x y : SV) (F : SV → Prop) : Prop := match c with | .c (.v (.bool b)) => pk b x y F | _ => False

def takeN : Nat → List CV → Option (List CV)
  | 0, _ => some []
  | n + 1, x :: r => (takeN n r).map (x :: ·)
  | _ + 1, [] => none
def subL : List CV → Nat → Nat → Option (List CV)
  | l, 0, n => takeN n l
  | x :: r, f + 1, n => subL r f n
  | [], _ + 1, _ => none
def spl : List CV → Nat → List CV → Option (List CV)
  | l, 0, [] => some l
  | _ :: r, 0, y :: ys => (spl r 0 ys).map (y :: ·)
  | x :: r, f + 1, ys => (spl r f ys).map (x :: ·)
  | [], _, _ => none
def rupd (r : Nat → List CV) (i : Nat) (l : List CV) : Nat → List CV := fun j => if j = i then l else r j
def rowsOf (e : Nat) (l : List CV) (i : Nat) : List CV := (l.drop (i * e)).take e

def mkV (ag : Bool) (cs : List CV) : SV := match ag, cs with | true, cs => .agg cs | false, [x] => .c x | false, _ => .bad
def SV.cellsOf : SV → Option (List CV)
  | .c (.v (.agg l)) => some (l.toList.map .v)
  | .c x => some [x]
  | .agg l => some l
  | _ => none
def rowsL (r : Nat → List CV) (k : Nat) : List CV := (List.range k).flatMap r
def rdB (b : Option Blk) (i f n : Nat) (F : List CV → Prop) : Prop :=
  match b with
  | some (.cells _ cs) => i = 0 ∧ wO (subL cs f n) F
  | some (.rows _ e m _ r) => bif Nat.ble (f + n) e then i < m ∧ wO (subL (r i) f n) F else
      (f = 0 ∧ 0 < e ∧ n = n / e * e ∧ i + n / e ≤ m ∧ ∀ j, j < n / e → (r (i + j)).length = e) ∧ F (rowsL (fun j => r (i + j)) (n / e))
  | some (.imm _ m r) => i < m ∧ wO (subL (r i) f n) F
  | _ => False
def wrB (b : Option Blk) (i f : Nat) (l : List CV) (F : Blk → Prop) : Prop :=
  match b with
  | some (.cells ty cs) => i = 0 ∧ wO (spl cs f l) fun cs' => F (.cells ty cs')
  | some (.rows ty e m c r) => i < m ∧ wO (spl (r i) f l) fun l' => F (.rows ty e m c (rupd r i l'))
  | _ => False

def one1 : CV → Bool
  | .v (.agg _) => false
  | .v (.tuple _) => false
  | _ => true

def iwr (k : IntKind) (n : Int) : Int := k.wrap n
def ibit (op : BinOp) (k : IntKind) (x y : Int) : Int :=
  let a := BitVec.ofInt k.bits x
  let b := BitVec.ofInt k.bits y
  match op with
  | .and => k.wrap (a &&& b).toNat
  | .or => k.wrap (a ||| b).toNat
  | .xor => k.wrap (a ^^^ b).toNat
  | .andNot => k.wrap (a &&& ~~~b).toNat
  | _ => 0

def binI (op : BinOp) (k : IntKind) (a b : Int) (F : SV → Prop) : Prop :=
  match op with
  | .add => F (.c (.v (.int k (k.wrap (a + b)))))
  | .sub => F (.c (.v (.int k (k.wrap (a - b)))))
  | .mul => F (.c (.v (.int k (k.wrap (a * b)))))
  | .quo => b ≠ 0 ∧ F (.c (.v (.int k (k.wrap (a.tdiv b)))))
  | .rem => b ≠ 0 ∧ F (.c (.v (.int k (a.tmod b))))
  | .and => F (.c (.v (.int k (ibit .and k a b))))
  | .or => F (.c (.v (.int k (ibit .or k a b))))
  | .xor => F (.c (.v (.int k (ibit .xor k a b))))
  | .andNot => F (.c (.v (.int k (ibit .andNot k a b))))
  | .eql => F (.c (.v (.bool (decide (a = b)))))
  | .neq => F (.c (.v (.bool (!decide (a = b)))))
  | .lss => F (.c (.v (.bool (decide (a < b)))))
  | .leq => F (.c (.v (.bool (decide (a ≤ b)))))
  | .gtr => F (.c (.v (.bool (decide (b < a)))))
  | .geq => F (.c (.v (.bool (decide (b ≤ a)))))
  | .shl => 0 ≤ b ∧ F (.c (.v (.int k (k.wrap (a * 2 ^ (min b.toNat k.bits))))))
  | .shr => 0 ≤ b ∧ F (.c (.v (.int k (a.fdiv (2 ^ (min b.toNat k.bits))))))

def binS (op : BinOp) (a b : ByteArray) (F : SV → Prop) : Prop :=
  match op with
  | .add => (a.size + b.size ≤ 9223372036854775807) ∧ F (.c (.v (.string (a ++ b))))
  | .eql => F (.c (.v (.bool (decide (a = b)))))
  | .neq => F (.c (.v (.bool (!decide (a = b)))))
  | _ => False
inductive LK where
  | b
  | i
  | s
def leafFs (P : Program) (rec : TypeId → Option (List LK)) : Nat → List Field → Option (List LK)
  | _, [] => some []
  | off, f :: r => bif decide (f.name ≠ "_") && Nat.beq f.offset off then
      (rec f.type).bind fun l => bif decide (tsz P f.type = some l.length) && Nat.ble 1 l.length then (leafFs P rec (off + l.length) r).map (l ++ ·) else none
    else none
def leafIn (P : Program) : Nat → TypeId → Option (List LK)
  | 0, _ => none
  | d + 1, t =>
    match P.underlying t with
    | some .bool => some [.b]
    | some (.int _) => some [.i]
    | some .string => some [.s]
    | some (.struct fs) => bif P.stoodInHeld t then none else leafFs P (leafIn P d) 0 fs.toList
    | some (.array n e) => (leafIn P d e).bind fun l => bif decide (tsz P e = some l.length) && Nat.ble 1 l.length then some (List.replicate n l).flatten else none
    | _ => none
def tleaf (P : Program) (t : TypeId) : Option (List LK) := bif decide (tagg P t = some true) && !(P.eqGuardType P.depth t) then leafIn P 8 t else none
def eq1 : LK → CV → CV → Option Bool
  | .i, .v (.int k a), .v (.int k' b) => bif decide (k = k') then some (decide (a = b)) else none
  | .b, .v (.bool a), .v (.bool b) => some (decide (a = b))
  | .s, .v (.string a), .v (.string b) => some (decide (a = b))
  | _, _, _ => none
def eqL : List LK → List CV → List CV → Option Bool
  | [], [], [] => some true
  | k :: ks, x :: r, y :: s => (eq1 k x y).bind fun b => (eqL ks r s).map fun c => b && c
  | _, _, _ => none

def neg? : BinOp → Option Bool
  | .eql => some false
  | .neq => some true
  | _ => none

def XBin (P : Program) (op : BinOp) (t : TypeId) (x y : SV) (F : SV → Prop) : Prop :=
  match x, y with
  | .c (.v (.int k a)), .c (.v (.int k' b)) => bif decide (op = .shl ∨ op = .shr) then binI op k a b F else k = k' ∧ binI op k a b F
  | .c (.v (.string a)), .c (.v (.string b)) => binS op a b F
  | .c (.v (.bool a)), .c (.v (.bool b)) => tbool P t = some true ∧ wO (neg? op) fun n => F (.c (.v (.bool (xor n (decide (a = b))))))
  | .c (.p _ _ _), .c (.v (.pointer none)) => tptr P t = some true ∧ wO (neg? op) fun n => F (.c (.v (.bool n)))
  | .c (.v (.pointer a)), .c (.v (.pointer none)) => tptr P t = some true ∧ wO (neg? op) fun n => F (.c (.v (.bool (xor n a.isNone))))
  | .c (.s _ _ _ _), .c (.v (.slice none _ _)) => tslc P t = some true ∧ wO (neg? op) fun n => F (.c (.v (.bool n)))
  | .c (.v (.slice a _ _)), .c (.v (.slice none _ _)) => tslc P t = some true ∧ wO (neg? op) fun n => F (.c (.v (.bool (xor n a.isNone))))
  | .c (.v (.map a)), .c (.v (.map none)) => tmap P t = some true ∧ wO (neg? op) fun n => F (.c (.v (.bool (xor n a.isNone))))
  | .agg xs, .agg ys => wO (tleaf P t) fun ks => wO (neg? op) fun n => wO (eqL ks xs ys) fun b => F (.c (.v (.bool (xor n b))))
  | _, _ => False

def XUn (op : UnOp) (x : SV) (F : SV → Prop) : Prop :=
  match op, x with
  | .not, .c (.v (.bool b)) => F (.c (.v (.bool (!b))))
  | .neg, .c (.v (.int k n)) => F (.c (.v (.int k (k.wrap (0 - n)))))
  | .xor, .c (.v (.int k n)) => F (.c (.v (.int k (ibit .xor k (if k.signed then -1 else k.max) n))))
  | _, _ => False
def byC (x : List CV) (y : Option (List Int)) : Option (List Int) := match x with | [.v (.int .u8 k)] => y.map (k :: ·) | _ => none
def byL (r : Nat → List CV) : Nat → Nat → Option (List Int)
  | _, 0 => some []
  | i, n + 1 => byC (r i) (byL r (i + 1) n)
def byB (b : Option Blk) (i n : Nat) (F : List Int → Prop) : Prop :=
  match b with
  | some (.rows _ e m _ r) => (e = 1 ∧ i + n ≤ m) ∧ wO (byL r i n) F
  | some (.imm e m r) => (e = 1 ∧ i + n ≤ m) ∧ wO (byL r i n) F
  | some (.cells _ cs) => i + n ≤ cs.length ∧ wO (byL (fun j => cs[j]?.toList) i n) F
  | _ => False
def strB (l : List Int) : ByteArray := ⟨(l.map fun n => UInt8.ofNat n.toNat).toArray⟩
def XConS (P : Program) (hp : List (Nat × Blk)) (k : TK) (dst : TypeId) (b i len : Nat) (F : SV → Prop) : Prop :=
  match k with
  | .slc e => (tint P e = some (some .u8) ∧ tkind P dst = some .str) ∧ byB (hget hp b) i len fun l => F (.c (.v (.string (strB l))))
  | _ => False
def XConN (P : Program) (k : TK) (dst : TypeId) (F : SV → Prop) : Prop :=
  match k with
  | .slc e => (tint P e = some (some .u8) ∧ tkind P dst = some .str) ∧ F (.c (.v (.string .empty)))
  | _ => False
def XConv (P : Program) (hp : List (Nat × Blk)) (k : TK) (dst : TypeId) (x : SV) (F : SV → Prop) : Prop :=
  match x with
  | .c (.s b i len _) => XConS P hp k dst b i len F
  | .c (.v (.slice none _ _)) => XConN P k dst F
  | .c (.v (.int _ n)) => wO (tint P dst) fun k => wO k fun k => F (.c (.v (.int k (k.wrap n))))
  | _ => False

def fillX (zs : List CV) : List (Nat × Nat × SV) → Option (List CV)
  | [] => some zs
  | (off, n, x) :: r => match x.cellsOf with
    | some l => bif Nat.beq l.length n then (spl zs off l).bind fun zs => fillX zs r else none
    | none => none

def placed (pl : List (Nat × Nat)) (st : St) : List (Nat × Operand) → Option (List (Nat × Nat × SV))
  | [] => some []
  | (i, x) :: r => match pl[i]? with
    | some (off, n) => (placed pl st r).map ((off, n, st.ev x) :: ·)
    | none => none
def placedA (n : Nat) (st : St) : List (Nat × Operand) → List (Nat × Nat × SV)
  | [] => []
  | (i, x) :: r => (i * n, n, st.ev x) :: placedA n st r

def capCV : List SV → Option (List CV)
  | [] => some []
  | .c x :: r => (capCV r).map (x :: ·)
  | _ :: _ => none
def arrP (bl : Option Blk) (b i f : Nat) (es : Nat) (idx : Nat) : CV :=
  match bl with
  | some (.rows _ e _ _ _) => bif Nat.beq e es && Nat.beq f 0 then .p b (i + idx) 0 else .p b i (f + idx * es)
  | some (.imm e _ _) => bif Nat.beq e es && Nat.beq f 0 then .p b (i + idx) 0 else .p b i (f + idx * es)
  | _ => .p b i (f + idx * es)
def eszOf : Option Blk → Option Nat
  | some (.cells _ _) => some 1
  | some (.rows _ e _ _ _) => some e
  | some (.imm e _ _) => some e
  | _ => none
def rowP (bl : Option Blk) (b i : Nat) : CV :=
  match bl with
  | some (.cells _ _) => .p b 0 i
  | _ => .p b i 0
def arrS (bl : Option Blk) (i f es : Nat) (F : Nat → Prop) : Prop :=
  match bl with
  | some (.cells _ _) => (es = 1 ∧ i = 0) ∧ F f
  | some (.rows _ e _ _ _) => (e = es ∧ f = 0) ∧ F i
  | some (.imm e _ _) => (e = es ∧ f = 0) ∧ F i
  | _ => False

def XIxA (P : Program) (hp : List (Nat × Blk)) (k : TK) (x : SV) (n : Int) (F : SV → Prop) : Prop :=
  match k, x with
  | .arr len e, .c (.p b i f) => (0 ≤ n ∧ n < (len : Int)) ∧ wO (tsz P e) fun es => F (.c (arrP (hget hp b) b i f es n.toNat))
  | .slc e, .c (.s b i len _) => (0 ≤ n ∧ n < (len : Int)) ∧ wO (tsz P e) fun es => eszOf (hget hp b) = some es ∧ F (.c (rowP (hget hp b) b (i + n.toNat)))
  | _, _ => False
def bt (s : ByteArray) (n : Int) : Int := ((s.data.toList.getD n.toNat 0).toNat : Int)

def XIx (P : Program) (k : TK) (x : SV) (n : Int) (F : SV → Prop) : Prop :=
  match k, x with
  | .arr len e, .agg cs => (0 ≤ n ∧ n < (len : Int)) ∧ wO (tagg P e) fun ag => wO (tsz P e) fun es => wO (subL cs (n.toNat * es) (bif ag then es else 1)) fun l => F (mkV ag l)
  | .str, .c (.v (.string s)) => (0 ≤ n ∧ n < (s.size : Int)) ∧ F (.c (.v (.int .u8 (bt s n))))
  | _, _ => False

def XSl (P : Program) (hp : List (Nat × Blk)) (k : TK) (x : SV) (lo hi : Option Int) (F : SV → Prop) : Prop :=
  match k, x with
  | .str, .c (.v (.string s)) =>
    (0 ≤ hi.getD s.size ∧ hi.getD s.size ≤ (s.size : Int)) ∧ (0 ≤ lo.getD 0 ∧ lo.getD 0 ≤ hi.getD s.size) ∧ F (.c (.v (.string (s.extract (lo.getD 0).toNat (hi.getD s.size).toNat))))
  | .slc e, .c (.s b i len cap) => wO (tsz P e) fun es => eszOf (hget hp b) = some es ∧
    (0 ≤ hi.getD len ∧ hi.getD len ≤ (cap : Int)) ∧ (0 ≤ lo.getD 0 ∧ lo.getD 0 ≤ hi.getD len) ∧ F (.c (.s b (if cap = (lo.getD 0).toNat then i else i + (lo.getD 0).toNat) ((hi.getD len).toNat - (lo.getD 0).toNat) (cap - (lo.getD 0).toNat)))
  | .arr len e, .c (.p b i f) => wO (tsz P e) fun es => arrS (hget hp b) i f es fun i0 =>
    (0 ≤ hi.getD len ∧ hi.getD len ≤ (len : Int)) ∧ (0 ≤ lo.getD 0 ∧ lo.getD 0 ≤ hi.getD len) ∧ F (.c (.s b (if len = (lo.getD 0).toNat then i0 else i0 + (lo.getD 0).toNat) ((hi.getD len).toNat - (lo.getD 0).toNat) (len - (lo.getD 0).toNat)))
  | .slc e, .c (.v (.slice none 0 0)) => wO (tsz P e) fun _ =>
    (0 ≤ hi.getD 0 ∧ hi.getD 0 ≤ (0 : Int)) ∧ (0 ≤ lo.getD 0 ∧ lo.getD 0 ≤ hi.getD 0) ∧ F (.c (.v (.slice none 0 0)))
  | _, _ => False
def bnd (st : St) (x : Option Operand) (F : Option Int → Prop) : Prop :=
  match x with
  | none => F none
  | some x => wI (st.ev x) fun _ n => F (some n)

def XLen (k : TK) (x : SV) (F : SV → Prop) : Prop :=
  match k, x with
  | .arr _ _, .bad => False
  | .str, .c (.v (.string s)) => F (.c (.v (.int .i64 s.size)))
  | .arr n _, _ => F (.c (.v (.int .i64 n)))
  | .slc _, .c (.s _ _ l _) => F (.c (.v (.int .i64 l)))
  | .slc _, .c (.v (.slice _ l _)) => F (.c (.v (.int .i64 l)))
  | _, _ => False

def XCap (k : TK) (x : SV) (F : SV → Prop) : Prop :=
  match k, x with
  | .slc _, .c (.s _ _ _ c) => F (.c (.v (.int .i64 c)))
  | .slc _, .c (.v (.slice _ _ c)) => F (.c (.v (.int .i64 c)))
  | _, _ => False

def XMax (mx : Bool) (x y : SV) (F : SV → Prop) : Prop :=
  match x, y with
  | .c (.v (.int k a)), .c (.v (.int _ b)) => F (.c (.v (.int k (bif mx then max a b else min a b))))
  | _, _ => False

def XNil (x : SV) (F : SV → Prop) : Prop :=
  match x with
  | .c (.p b i f) => F (.c (.p b i f))
  | .c (.v (.pointer (some a))) => F (.c (.v (.pointer (some a))))
  | .c (.fn f l) => F (.c (.fn f l))
  | .c (.v (.func (.func f) a l)) => F (.c (.v (.func (.func f) a l)))
  | _ => False
def XS2A (k : TK) (x : SV) (F : SV → Prop) : Prop :=
  match k, x with
  | .arr n _, .c (.s b i len _) => n ≤ len ∧ F (.c (.p b i 0))
  | _, _ => False
def isVal : Op → Bool
  | .sliceToArrayPointer .. | .move _ | .assign _ | .pick .. | .nilCheck _ | .load .. | .binOp .. | .unOp .. | .convert .. | .fieldAddr .. | .field .. | .indexAddr .. | .index .. | .extract .. | .build .. | .makeFunc .. | .slice .. => true
  | .call { callee := .builtin b, .. } => match b with | .len | .max | .min | .cap => true | _ => false
  | _ => false

def XExt (x : SV) (k : Nat) (F : SV → Prop) : Prop :=
  match x with
  | .tup l => SV.okL l = true ∧ wO l[k]? fun y => wOk y F
  | _ => False
def XFld (x : SV) (off : Nat) (ag : Bool) (n : Nat) (F : SV → Prop) : Prop :=
  match x with
  | .agg cs => wO (subL cs off (bif ag then n else 1)) fun l => F (mkV ag l)
  | _ => False
def XBldA (P : Program) (k : TK) (zs : List Value) (ps : List (Nat × Operand)) (st : St) (F : SV → Prop) : Prop :=
  match k with
  | .arr _ e => wO (tsz P e) fun n => wO (fillX (zs.map .v) (placedA n st ps)) fun cs => F (.agg cs)
  | _ => False
def XBld (P : Program) (t : TypeId) (zs : List Value) (pl : Option (List (Nat × Nat))) (ps : List (Nat × Operand)) (st : St) (F : SV → Prop) : Prop :=
  match pl with
  | some pl => wO (placed pl st ps) fun l => wO (fillX (zs.map .v) l) fun cs => F (.agg cs)
  | none => wO (tkind P t) fun k => XBldA P k zs ps st F
def XMkF (fn : Fn) (first cap : List Operand) (st : St) (F : SV → Prop) : Prop :=
  match fn, first with
  | .func f, [] => wO (capCV (st.evL cap)) fun l => F (.c (.fn f l))
  | _, _ => False
def XBui (P : Program) (b : Builtin) (args : List Operand) (tys : List TypeId) (st : St) (F : SV → Prop) : Prop :=
  match b, args, tys with
  | .len, [x], t :: _ => wO (tkind P t) fun k => XLen k (st.ev x) F
  | .cap, [x], t :: _ => wO (tkind P t) fun k => XCap k (st.ev x) F
  | .max, [x, y], _ => XMax true (st.ev x) (st.ev y) F
  | .min, [x, y], _ => XMax false (st.ev x) (st.ev y) F
  | _, _, _ => False

def XV (P : Program) (o : Op) (st : St) (F : SV → Prop) : Prop :=
  match o with
  | .move x => wOk (st.ev x) F
  | .assign x => wOk (st.ev x) F
  | .pick c a b => wPk (st.ev c) (st.ev a) (st.ev b) F
  | .nilCheck x => XNil (st.ev x) F
  | .sliceToArrayPointer t x => wO (tkind P t) fun k => XS2A k (st.ev x) F
  | .load t x => wO (tagg P t) fun ag => wO (tsz P t) fun n => wP (st.ev x) fun b i f => rdB (hget st.hp b) i f (bif ag then n else 1) fun cs => F (mkV ag cs)
  | .binOp op t x y _ => XBin P op t (st.ev x) (st.ev y) F
  | .unOp op _ x => XUn op (st.ev x) F
  | .convert src dst x => wO (tkind P src) fun k => XConv P st.hp k dst (st.ev x) F
  | .fieldAddr s x k => wO (tfld P s k) fun fo => wO (tsz P fo.2) fun n => n ≠ 0 ∧ wP (st.ev x) fun b i f => F (.c (.p b i (f + fo.1)))
  | .field s x k => wO (tfld P s k) fun fo => wO (tagg P fo.2) fun ag => wO (tsz P fo.2) fun n =>
XFld (st.ev x) fo.1 ag n F
  | .indexAddr t x ix => wO (tkind P t) fun k => wI (st.ev ix) fun _ n => XIxA P st.hp k (st.ev x) n F
  | .index t x ix => wO (tkind P t) fun k => wI (st.ev ix) fun _ n => XIx P k (st.ev x) n F
  | .extract x k => XExt (st.ev x) k F
  | .build t ps => wO (tzero P t) fun zs => XBld P t zs (tplaces P t) ps.toList st F
  | .makeFunc fn first cap => XMkF fn first.toList cap.toList st F
  | .slice t x lo hi mx => mx = none ∧ wO (tkind P t) fun k => bnd st lo fun lo => bnd st hi fun hi => XSl P st.hp k (st.ev x) lo hi F
  | .call { callee := .builtin b, args := args, argTypes := tys } => XBui P b args.toList tys.toList st F
  | _ => False
def SCall (P : Program) (C : Cx) (f : FuncId) (args : List SV) (d : Option Tmp) (K : St → Prop) (st : St) : Prop :=
  SV.okL args = true ∧ ∀ ρ w a, Sat C st ρ a w → (∀ ρ' : Env, (∀ k, k < st.nx → ρ' k = ρ k) → SV.denL ρ' args = SV.denL ρ args) →
    ((∀ (v : List Value) w, (callFunc f v.toArray).run P w = .ok (.enter f v.toArray) w) ∧
    Calls P f (SV.denL ρ args).toArray w fun e w' => ∃ v, e = .returned v ∧ KK C st.nx ρ K (a.put d v) w') ∨
    ∃ v w', (callFunc f (SV.denL ρ args).toArray).run P w = .ok (.value v) w' ∧ KK C st.nx ρ K (a.put d v) w'

def XCall (P : Program) (C : Cx) (f : SV) (args : List SV) (d : Option Tmp) (K : St → Prop) (st : St) : Prop :=
  match f with
  | .c (.fn f caps) => SCall P C f (args ++ caps.map .c) d K st
  | .c (.v (.func (.func f) first caps)) => SCall P C f (first.toList.map (fun x => .c (.v x)) ++ args ++ caps.toList.map (fun x => .c (.v x))) d K st
  | _ => False

def dOk (N : Nat) : Option Tmp → Prop
  | some d => d < N
  | none => True
def tarr (P : Program) (t : TypeId) : Option (Nat × Nat) :=
  match P.underlying t with
  | some (.array n e) => bif (match tagg P e with | some b => b | none => false) then (tsz P e).map fun z => (n, z) else none
  | _ => none
def allocB (a : Option (Nat × Nat)) (t : TypeId) (zs : List Value) (F : Blk → Prop) : Prop :=
  match a with
  | none => F (.cells t (zs.map .v))
  | some (n, e) => (zs.length = n * e ∧ 0 < e) ∧ F (.rows t e n n (rowsOf e (zs.map .v)))
def XCv (x : SV) (A B : Prop) : Prop := match x with | .c (.v (.string _)) => A | _ => B
def XOp (P : Program) (C : Cx) (o : Oper) (K : St → Prop) (st : St) : Prop :=
  match o.op with
  | .alloc t => wO o.dst fun d => wO (tzero P t) fun zs => allocB (tarr P t) t zs fun bl => K ⟨(d, .c (.p st.nx 0 0)) :: st.fr, (st.nx, bl) :: st.hp, st.nx + 1⟩
  | .box t x => wO o.dst fun d => wO (st.ev x).cellsOf fun cs => K ⟨(d, .c (.p st.nx 0 0)) :: st.fr, (st.nx, .cells t cs) :: st.hp, st.nx + 1⟩
  | .buildSlice t len ps => wO o.dst fun d => wO (tkind P t) fun k => (match k with
      | .slc e => wO (tsz P e) fun n => wO (tzero P e) fun zs => (len * n ≤ 1024 ∧ 0 < n ∧ zs.length = n) ∧
          wO (fillX ((List.replicate len (zs.map .v)).flatten) (placedA n st ps.toList)) fun cs =>
            K ⟨(d, .c (.s st.nx 0 len len)) :: st.fr, (st.nx, .rows e n len len (rowsOf n cs)) :: st.hp, st.nx + 1⟩
      | _ => False)
  | .store t x y => wO (tsz P t) fun n => wO (st.ev y).cellsOf fun cs => (cs.length = n ∧ cs.all one1 = true) ∧ wP (st.ev x) fun b i f =>
      wrB (hget st.hp b) i f cs fun bl => K ⟨(match o.dst with | some d => (d, .bad) :: st.fr | none => st.fr), hset st.hp b bl, st.nx⟩
  | .call { callee := .value f, args := args, .. } => XCall P C (st.ev f) (st.evL args.toList) o.dst K st
  | .convert s t x => XCv (st.ev x) (SOp P C o K st) (XV P (.convert s t x) st (kput K st o.dst))
  | op => bif isVal op then XV P op st (kput K st o.dst) else SOp P C o K st

def gdst (all : Array Oper) (j : Nat) : Option Tmp := (all[j]?).bind (·.dst)
def gOn (run : St → Prop) (t : Tmp) (b : Bool) (st : St) : Prop := run (st.put (some t) (.c (.v (.bool b))))
def gSk (rest : St → Prop) (d : Option Tmp) (st : St) : Prop := rest (st.put d (.c (.v undef)))
def gOff (rest : St → Prop) (t : Tmp) (b : Bool) (d : Option Tmp) (st : St) : Prop := rest ((st.put (some t) (.c (.v (.bool b)))).put d (.c (.v undef)))
def XL (P : Program) (C : Cx) (all : Array Oper) : List Oper → (St → Prop) → St → Prop
  | [], K, st => K st
  | o :: rest, K, st => dOk C.N o.dst ∧
    (match o.guard with
     | none => XOp P C o (XL P C all rest K) st
     | some (j, want) => wO (gdst all j) fun t => wG (lk st.fr t)
        (bif want then gOn (XOp P C o (XL P C all rest K)) t true else gOff (XL P C all rest K) t true o.dst)
        (bif want then gOff (XL P C all rest K) t false o.dst else gOn (XOp P C o (XL P C all rest K)) t false) (gSk (XL P C all rest K) o.dst) st)

def seqQ (k : St → Prop) (Q : Exit → St → Prop) (e : Exit) (st : St) : Prop := match e with | .normal => k st | e => Q e st
def blockQ (id : Nat) (Q : Exit → St → Prop) (e : Exit) (st : St) : Prop :=
  match e with
  | .exit id' => bif Nat.beq id' id then Q .normal st else Q (.exit id') st
  | e => Q e st

def X (P : Program) (C : Cx) : Code → (Exit → St → Prop) → St → Prop
  | .skip, Q, st => Q .normal st
  | .seq a b, Q, st => X P C a (seqQ (X P C b Q) Q) st
  | .cond c t e, Q, st => wB (st.ev c) (X P C t Q) (X P C e Q) st
  | .block id c, Q, st => X P C c (blockQ id Q) st
  | .ret, Q, st => Q .ret st
  | .exit id, Q, st => Q (.exit id) st
  | .region _ ops false, Q, st => XL P C ops ops.toList (Q .normal) st
  | c, Q, st => SCode P C c Q st
def XRes1 (P : Program) (st : St) (r : ResultVar) (F : SV → Prop) : Prop :=
  match r with
  | .tmp t => wOk (lk st.fr t) F
  | .cell t ty => wO (tagg P ty) fun ag => wO (tsz P ty) fun n => wP (lk st.fr t) fun b i f => rdB (hget st.hp b) i f (bif ag then n else 1) fun cs => F (mkV ag cs)
def XResL (P : Program) (st : St) : List ResultVar → (List SV → Prop) → Prop
  | [], F => F []
  | r :: rs, F => XRes1 P st r fun x => XResL P st rs fun l => F (x :: l)
def Done (C : Cx) (x : SV) (R : Ending → World → Prop) (st : St) : Prop := ∀ ρ a w, Sat C st ρ a w → (∀ k, k < C.n0 → ρ k = C.ρ0 k) → R (.returned (x.den ρ)) w
def tupSV : List SV → SV
  | [x] => x
  | l => .tup l

def retQ (P : Program) (C : Cx) (rs : List ResultVar) (R : Ending → World → Prop) (e : Exit) (st : St) : Prop :=
  match e with
  | .normal => XResL P st rs fun l => Done C (tupSV l) R st
  | .ret => XResL P st rs fun l => Done C (tupSV l) R st
  | _ => False

end Go.Sx
