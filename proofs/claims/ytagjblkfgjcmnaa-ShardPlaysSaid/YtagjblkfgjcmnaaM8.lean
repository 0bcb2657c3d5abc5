/-
  Parts of the proof: Sx8. Conditions: none.
-/
import Derived.Test.YtagjblkfgjcmnaaM7
set_option linter.unusedVariables false
set_option linter.unusedSimpArgs false
set_option linter.unusedSectionVars false
namespace Go.Sx
open Go.RowKit
section
variable {P : Program} {C : Cx} {st st' : St}

/-! ### What 'simp' may look into: the state, and what is asked next; never what comes behind -/
theorem X_congr {c : Code} {Q : Exit → St → Prop} (h : st = st') : X P C c Q st = X P C c Q st' := by rw [h]
theorem XCv_congr {x x' : SV} {A B : Prop} (h : x = x') : XCv x A B = XCv x' A B := by rw [h]
theorem XL_congr {all : Array Oper} {l : List Oper} {K : St → Prop} (h : st = st') : XL P C all l K st = XL P C all l K st' := by rw [h]
theorem XOp_congr {o : Oper} {K : St → Prop} (h : st = st') : XOp P C o K st = XOp P C o K st' := by rw [h]
theorem XV_congr {o : Op} {F : SV → Prop} (h : st = st') : XV P o st F = XV P o st' F := by rw [h]
theorem XP_congr {ops : Array Oper} {last : Nat} {hS : List (Nat × Blk)} {p : List PS} {K : St → Prop} (h : st = st') : XP P C ops last hS p K st = XP P C ops last hS p K st' := by rw [h]
theorem SCode_congr {c : Code} {Q : Exit → St → Prop} (h : st = st') : SCode P C c Q st = SCode P C c Q st' := by rw [h]
theorem SOp_congr {o : Oper} {K : St → Prop} (h : st = st') : SOp P C o K st = SOp P C o K st' := by rw [h]
theorem SCall_congr {f : FuncId} {args args' : List SV} {d : Option Tmp} {K : St → Prop} (h1 : args = args') (h : st = st') : SCall P C f args d K st = SCall P C f args' d K st' := by rw [h1, h]
theorem XCall_congr {f f' : SV} {args args' : List SV} {d : Option Tmp} {K : St → Prop} (h0 : f = f') (h1 : args = args') (h : st = st') : XCall P C f args d K st = XCall P C f' args' d K st' := by rw [h0, h1, h]
theorem Done_congr {x x' : SV} {R : Ending → World → Prop} (h0 : x = x') (h : st = st') : Done C x R st = Done C x' R st' := by rw [h0, h]
theorem wO_congr {α : Type} {x x' : Option α} {F : α → Prop} (h : x = x') : wO x F = wO x' F := by rw [h]
theorem wP_congr {x x' : SV} {F : Nat → Nat → Nat → Prop} (h : x = x') : wP x F = wP x' F := by rw [h]
theorem wI_congr {x x' : SV} {F : IntKind → Int → Prop} (h : x = x') : wI x F = wI x' F := by rw [h]
theorem br_congr {b b' : Bool} {p q : St → Prop} (h : b = b') (h1 : st = st') : br b p q st = br b' p q st' := by rw [h, h1]
theorem pk_congr {b b' : Bool} {x x' y y' : SV} {F : SV → Prop} (h : b = b') (h1 : x = x') (h2 : y = y') : pk b x y F = pk b' x' y' F := by rw [h, h1, h2]
theorem wPk_congr {b b' x x' y y' : SV} {F : SV → Prop} (h : b = b') (h1 : x = x') (h2 : y = y') : wPk b x y F = wPk b' x' y' F := by rw [h, h1, h2]
theorem wG_congr {x x' : SV} {p q u : St → Prop} (h : x = x') (h1 : st = st') : wG x p q u st = wG x' p q u st' := by rw [h, h1]
theorem wB_congr {x x' : SV} {p q : St → Prop} (h : x = x') (h1 : st = st') : wB x p q st = wB x' p q st' := by rw [h, h1]
theorem wOk_congr {x x' : SV} {F : SV → Prop} (h : x = x') : wOk x F = wOk x' F := by rw [h]
theorem rdB_congr {b b' : Option Blk} {i i' f f' n n' : Nat} {F : List CV → Prop} (h : b = b') (h1 : i = i') (h2 : f = f') (h3 : n = n') : rdB b i f n F = rdB b' i' f' n' F := by rw [h, h1, h2, h3]
theorem wrB_congr {b b' : Option Blk} {i i' f f' : Nat} {l l' : List CV} {F : Blk → Prop} (h : b = b') (h1 : i = i') (h2 : f = f') (h3 : l = l') : wrB b i f l F = wrB b' i' f' l' F := by rw [h, h1, h2, h3]
theorem XBin_congr {op : BinOp} {t : TypeId} {x x' y y' : SV} {F : SV → Prop} (h1 : x = x') (h2 : y = y') : XBin P op t x y F = XBin P op t x' y' F := by rw [h1, h2]
theorem XUn_congr {op : UnOp} {x x' : SV} {F : SV → Prop} (h1 : x = x') : XUn op x F = XUn op x' F := by rw [h1]
theorem XConv_congr {hp hp' : List (Nat × Blk)} {k k' : TK} {t : TypeId} {x x' : SV} {F : SV → Prop} (h0 : hp = hp') (hk : k = k') (h1 : x = x') : XConv P hp k t x F = XConv P hp' k' t x' F := by rw [h0, hk, h1]
theorem XConS_congr {hp hp' : List (Nat × Blk)} {k : TK} {t : TypeId} {b i l l' : Nat} {F : SV → Prop} (h0 : hp = hp') (h1 : l = l') : XConS P hp k t b i l F = XConS P hp' k t b i l' F := by rw [h0, h1]
theorem byB_congr {b b' : Option Blk} {i n i' n' : Nat} {F : List Int → Prop} (h : b = b') (h1 : i = i') (h2 : n = n') : byB b i n F = byB b' i' n' F := by rw [h, h1, h2]
theorem XConN_congr {k : TK} {t : TypeId} {F : SV → Prop} : XConN P k t F = XConN P k t F := rfl
theorem binI_congr {op : BinOp} {k : IntKind} {a b : Int} {F : SV → Prop} : binI op k a b F = binI op k a b F := (rfl)
theorem XIxA_congr {hp hp' : List (Nat × Blk)} {k : TK} {x x' : SV} {n n' : Int} {F : SV → Prop} (h0 : hp = hp') (h1 : x = x') (h2 : n = n') : XIxA P hp k x n F = XIxA P hp' k x' n' F := by rw [h0, h1, h2]
theorem XIx_congr {k : TK} {x x' : SV} {n n' : Int} {F : SV → Prop} (h1 : x = x') (h2 : n = n') : XIx P k x n F = XIx P k x' n' F := by rw [h1, h2]
theorem XSl_congr {hp hp' : List (Nat × Blk)} {k : TK} {x x' : SV} {lo lo' hi hi' : Option Int} {F : SV → Prop} (h0 : hp = hp') (h1 : x = x') (h2 : lo = lo') (h3 : hi = hi') : XSl P hp k x lo hi F = XSl P hp' k x' lo' hi' F := by rw [h0, h1, h2, h3]
theorem bnd_congr {x : Option Operand} {F : Option Int → Prop} (h : st = st') : bnd st x F = bnd st' x F := by rw [h]
theorem XLen_congr {k : TK} {x x' : SV} {F : SV → Prop} (h1 : x = x') : XLen k x F = XLen k x' F := by rw [h1]
theorem XMax_congr {b : Bool} {x x' y y' : SV} {F : SV → Prop} (h1 : x = x') (h2 : y = y') : XMax b x y F = XMax b x' y' F := by rw [h1, h2]
theorem XS2A_congr {k k' : TK} {x x' : SV} {F : SV → Prop} (h0 : k = k') (h1 : x = x') : XS2A k x F = XS2A k' x' F := by rw [h0, h1]
theorem XNil_congr {x x' : SV} {F : SV → Prop} (h1 : x = x') : XNil x F = XNil x' F := by rw [h1]
theorem XExt_congr {x x' : SV} {k : Nat} {F : SV → Prop} (h1 : x = x') : XExt x k F = XExt x' k F := by rw [h1]
theorem XFld_congr {x x' : SV} {o n : Nat} {ag : Bool} {F : SV → Prop} (h1 : x = x') : XFld x o ag n F = XFld x' o ag n F := by rw [h1]
theorem XBld_congr {t : TypeId} {zs : List Value} {pl pl' : Option (List (Nat × Nat))} {ps : List (Nat × Operand)} {F : SV → Prop} (h0 : pl = pl') (h : st = st') : XBld P t zs pl ps st F = XBld P t zs pl' ps st' F := by rw [h0, h]
theorem XBldA_congr {k k' : TK} {zs : List Value} {ps : List (Nat × Operand)} {F : SV → Prop} (h0 : k = k') (h : st = st') : XBldA P k zs ps st F = XBldA P k' zs ps st' F := by rw [h0, h]
theorem XMkF_congr {fn : Fn} {a b : List Operand} {F : SV → Prop} (h : st = st') : XMkF fn a b st F = XMkF fn a b st' F := by rw [h]
theorem XBui_congr {b : Builtin} {a : List Operand} {t : List TypeId} {F : SV → Prop} (h : st = st') : XBui P b a t st F = XBui P b a t st' F := by rw [h]
theorem XRes1_congr {r : ResultVar} {F : SV → Prop} (h : st = st') : XRes1 P st r F = XRes1 P st' r F := by rw [h]
theorem XResL_congr {r : List ResultVar} {F : List SV → Prop} (h : st = st') : XResL P st r F = XResL P st' r F := by rw [h]
theorem gd_congr {all : Array Oper} {g : Option (Nat × Bool)} {p q : St → Prop} (h : st = st') : gd all g p q st = gd all g p q st' := by rw [h]
theorem seqQ_congr {k : St → Prop} {Q : Exit → St → Prop} {e : Exit} (h : st = st') : seqQ k Q e st = seqQ k Q e st' := by rw [h]
theorem blockQ_congr {id : Nat} {Q : Exit → St → Prop} {e : Exit} (h : st = st') : blockQ id Q e st = blockQ id Q e st' := by rw [h]
theorem inQ_congr {rs : List ResultVar} {K : St → Prop} {fr : List (Nat × SV)} {d : Option Tmp} {e : Exit} (h : st = st') : inQ P rs K fr d e st = inQ P rs K fr d e st' := by rw [h]
theorem retQ_congr {rs : List ResultVar} {R : Ending → World → Prop} {e : Exit} (h : st = st') : retQ P C rs R e st = retQ P C rs R e st' := by rw [h]
theorem binS_congr {op : BinOp} {a b : ByteArray} {F : SV → Prop} : binS op a b F = binS op a b F := (rfl)
attribute [congr] X_congr XL_congr XOp_congr XV_congr XP_congr SCode_congr SOp_congr SCall_congr XCall_congr Done_congr wO_congr wP_congr wI_congr br_congr pk_congr wPk_congr wB_congr wG_congr wOk_congr rdB_congr wrB_congr XBin_congr XUn_congr XConv_congr
  XIxA_congr XIx_congr XSl_congr bnd_congr XLen_congr XMax_congr XNil_congr XExt_congr XFld_congr XBld_congr XBldA_congr XMkF_congr XBui_congr XRes1_congr XResL_congr gd_congr seqQ_congr blockQ_congr retQ_congr inQ_congr

theorem br_true {p q : St → Prop} : br true p q st = p st := by simp [br]
theorem br_false {p q : St → Prop} : br false p q st = q st := by simp [br]
theorem br_split {b : Bool} {p q : St → Prop} (h1 : b = true → p st) (h2 : b = false → q st) : br b p q st := ⟨h1, h2⟩
theorem br_if {p q : St → Prop} {c : Prop} [Decidable c] (h1 : c → p st) (h2 : ¬ c → q st) : br (decide c) p q st := ⟨fun h => h1 (of_decide_eq_true h), fun h => h2 (of_decide_eq_false h)⟩
theorem br_pos {p q : St → Prop} {c : Prop} [Decidable c] (hc : c) (h1 : p st) : br (decide c) p q st := ⟨fun _ => h1, fun h => absurd hc (of_decide_eq_false h)⟩
theorem br_neg {p q : St → Prop} {c : Prop} [Decidable c] (hc : ¬ c) (h1 : q st) : br (decide c) p q st := ⟨fun h => absurd (of_decide_eq_true h) hc, fun _ => h1⟩
theorem br_ifn {p q : St → Prop} {c : Prop} [Decidable c] (h1 : c → q st) (h2 : ¬ c → p st) : br (!decide c) p q st := ⟨fun h => h2 (by simpa using h), fun h => h1 (by simpa using h)⟩
theorem br_npos {p q : St → Prop} {c : Prop} [Decidable c] (hc : c) (h1 : q st) : br (!decide c) p q st := ⟨fun h => by simp [hc] at h, fun _ => h1⟩
theorem br_nneg {p q : St → Prop} {c : Prop} [Decidable c] (hc : ¬ c) (h1 : p st) : br (!decide c) p q st := ⟨fun _ => h1, fun h => by simp [hc] at h⟩
theorem pk_true {x y : SV} {F : SV → Prop} : pk true x y F = wOk x F := by simp [pk]
theorem pk_false {x y : SV} {F : SV → Prop} : pk false x y F = wOk y F := by simp [pk]

theorem natBeq (a b : Nat) : Nat.beq a b = decide (a = b) := by
  cases h : Nat.beq a b with
  | true => simp [Nat.eq_of_beq_eq_true h]
  | false => by_cases e : a = b; subst e; simp at h; simp [e]
theorem lk_cons (a t : Nat) (x : SV) (r : List (Nat × SV)) : lk ((a, x) :: r) t = if a = t then x else lk r t := by
  simp only [lk, natBeq]; split <;> simp_all
theorem hget_cons (a t : Nat) (x : Blk) (r : List (Nat × Blk)) : hget ((a, x) :: r) t = if a = t then some x else hget r t := by
  simp only [hget, natBeq]; split <;> simp_all
theorem hset_cons (a t : Nat) (x y : Blk) (r : List (Nat × Blk)) : hset ((a, x) :: r) t y = if a = t then (a, y) :: r else (a, x) :: hset r t y := by
  simp only [hset, natBeq]; split <;> simp_all
theorem put_some (fr : List (Nat × SV)) (hp : List (Nat × Blk)) (nx d : Nat) (x : SV) : St.put ⟨fr, hp, nx⟩ (some d) x = ⟨(d, x) :: fr, hp, nx⟩ := (rfl)
theorem put_none (st : St) (x : SV) : st.put none x = st := (rfl)
theorem ev_tmp (fr : List (Nat × SV)) (hp : List (Nat × Blk)) (nx t : Nat) : St.ev ⟨fr, hp, nx⟩ (.tmp t) = lk fr t := (rfl)
theorem ev_const (st : St) (v : Value) : st.ev (.const v) = .c (.v v) := (rfl)
theorem ev_func (st : St) (f : FuncId) : st.ev (.func f) = .c (.fn f []) := (rfl)
theorem ev_global (st : St) (g : Nat) : st.ev (.global g) = .c (.v (.pointer (some ⟨g, 0, none⟩))) := (rfl)
theorem evL_nil (st : St) : st.evL [] = [] := (rfl)
theorem evL_cons (st : St) (x : Operand) (r : List Operand) : st.evL (x :: r) = st.ev x :: st.evL r := (rfl)
def kg (run rs : St → Prop) (want : Bool) (d : Option Tmp) (st : St) (t : Tmp) : Prop := wG (lk st.fr t) (bif want then gOn run t true else gOff rs t true d) (bif want then gOff rs t false d else gOn run t false) (gSk rs d) st
def kin1 (K : St → Prop) (fr : List (Nat × SV)) (d : Option Tmp) (st : St) (l : List SV) : Prop := kin K fr d (tupSV l) st
section x
variable {Q : Exit → St → Prop} {K : St → Prop} {F : SV → Prop} {d : Option Tmp}
theorem X_skip {fr : List (Nat × SV)} {hp : List (Nat × Blk)} {nx : Nat} : X P C .skip Q ⟨fr, hp, nx⟩ = Q .normal ⟨fr, hp, nx⟩ := (rfl)
theorem X_seq {fr : List (Nat × SV)} {hp : List (Nat × Blk)} {nx : Nat} {a b : Code} : X P C (.seq a b) Q ⟨fr, hp, nx⟩ = X P C a (seqQ (X P C b Q) Q) ⟨fr, hp, nx⟩ := (rfl)
theorem X_cond {fr : List (Nat × SV)} {hp : List (Nat × Blk)} {nx : Nat} {c : Operand} {t e : Code} : X P C (.cond c t e) Q ⟨fr, hp, nx⟩ = wB (St.ev ⟨fr, hp, nx⟩ c) (X P C t Q) (X P C e Q) ⟨fr, hp, nx⟩ := (rfl)
theorem X_block {fr : List (Nat × SV)} {hp : List (Nat × Blk)} {nx : Nat} {id : Nat} {c : Code} : X P C (.block id c) Q ⟨fr, hp, nx⟩ = X P C c (blockQ id Q) ⟨fr, hp, nx⟩ := (rfl)
theorem X_ret {fr : List (Nat × SV)} {hp : List (Nat × Blk)} {nx : Nat} : X P C .ret Q ⟨fr, hp, nx⟩ = Q .ret ⟨fr, hp, nx⟩ := (rfl)
theorem X_exit {fr : List (Nat × SV)} {hp : List (Nat × Blk)} {nx : Nat} {id : Nat} : X P C (.exit id) Q ⟨fr, hp, nx⟩ = Q (.exit id) ⟨fr, hp, nx⟩ := (rfl)
theorem X_reg {fr : List (Nat × SV)} {hp : List (Nat × Blk)} {nx : Nat} {id : Nat} {l : List Oper} : X P C (.region id l.toArray false) Q ⟨fr, hp, nx⟩ = XL P C l.toArray l (Q .normal) ⟨fr, hp, nx⟩ := (rfl)
theorem X_draw {fr : List (Nat × SV)} {hp : List (Nat × Blk)} {nx : Nat} {id : Nat} {l : Array Oper} : X P C (.region id l true) Q ⟨fr, hp, nx⟩ = SCode P C (.region id l true) Q ⟨fr, hp, nx⟩ := (rfl)
theorem X_loop {fr : List (Nat × SV)} {hp : List (Nat × Blk)} {nx : Nat} {c : Code} : X P C (.loop c) Q ⟨fr, hp, nx⟩ = SCode P C (.loop c) Q ⟨fr, hp, nx⟩ := (rfl)
theorem X_rf {fr : List (Nat × SV)} {hp : List (Nat × Blk)} {nx : Nat} {f : Operand} {p : Array Tmp} {x c : Code} : X P C (.rangeFunc f p x c) Q ⟨fr, hp, nx⟩ = SCode P C (.rangeFunc f p x c) Q ⟨fr, hp, nx⟩ := (rfl)
theorem X_scope {fr : List (Nat × SV)} {hp : List (Nat × Blk)} {nx : Nat} {c : Code} : X P C (.scope c) Q ⟨fr, hp, nx⟩ = SCode P C (.scope c) Q ⟨fr, hp, nx⟩ := (rfl)
theorem X_label {fr : List (Nat × SV)} {hp : List (Nat × Blk)} {nx : Nat} {l : Nat} : X P C (.label l) Q ⟨fr, hp, nx⟩ = SCode P C (.label l) Q ⟨fr, hp, nx⟩ := (rfl)
theorem X_goto {fr : List (Nat × SV)} {hp : List (Nat × Blk)} {nx : Nat} {l : Nat} : X P C (.goto l) Q ⟨fr, hp, nx⟩ = SCode P C (.goto l) Q ⟨fr, hp, nx⟩ := (rfl)
theorem seqQ_n {k : St → Prop} : seqQ k Q .normal st = k st := (rfl)
theorem seqQ_r {k : St → Prop} : seqQ k Q .ret st = Q .ret st := (rfl)
theorem seqQ_e {k : St → Prop} {id : Nat} : seqQ k Q (.exit id) st = Q (.exit id) st := (rfl)
theorem blockQ_n {id : Nat} : blockQ id Q .normal st = Q .normal st := (rfl)
theorem blockQ_r {id : Nat} : blockQ id Q .ret st = Q .ret st := (rfl)
theorem blockQ_e {id id' : Nat} : blockQ id Q (.exit id') st = if id' = id then Q .normal st else Q (.exit id') st := by
  simp only [blockQ, natBeq]; split <;> simp_all
theorem retQ_r {rs : List ResultVar} {R : Ending → World → Prop} : retQ P C rs R .ret st = XResL P st rs fun l => Done C (tupSV l) R st := (rfl)
theorem inQ_r {rs : List ResultVar} {fr : List (Nat × SV)} : inQ P rs K fr d .ret st = XResL P st rs (kin1 K fr d st) := (rfl)
theorem inQ_n {rs : List ResultVar} {fr : List (Nat × SV)} : inQ P rs K fr d .normal st = XResL P st rs (kin1 K fr d st) := (rfl)
theorem kin1_s {fr fr' : List (Nat × SV)} {hp : List (Nat × Blk)} {nx : Nat} {l : List SV} : kin1 K fr d ⟨fr', hp, nx⟩ l = kput K ⟨fr, hp, nx⟩ d (tupSV l) := (rfl)
theorem retQ_n {rs : List ResultVar} {R : Ending → World → Prop} : retQ P C rs R .normal st = XResL P st rs fun l => Done C (tupSV l) R st := (rfl)
theorem XResL_nil {G : List SV → Prop} : XResL P st [] G = G [] := (rfl)
theorem XResL_cons {r : ResultVar} {rs : List ResultVar} {G : List SV → Prop} : XResL P st (r :: rs) G = XRes1 P st r fun x => XResL P st rs fun l => G (x :: l) := (rfl)
theorem XRes1_tmp {fr : List (Nat × SV)} {hp : List (Nat × Blk)} {nx t : Nat} : XRes1 P ⟨fr, hp, nx⟩ (.tmp t) F = wOk (lk fr t) F := (rfl)
theorem XRes1_cell {fr : List (Nat × SV)} {hp : List (Nat × Blk)} {nx t : Nat} {ty : TypeId} : XRes1 P ⟨fr, hp, nx⟩ (.cell t ty) F = wO (tagg P ty) fun ag => wO (tsz P ty) fun n => wP (lk fr t) fun b i f => rdB (hget hp b) i f (bif ag then n else 1) fun cs => F (mkV ag cs) := (rfl)
theorem tupSV_1 {x : SV} : tupSV [x] = x := (rfl)
theorem tupSV_0 : tupSV [] = .tup [] := (rfl)
theorem tupSV_2 {x y : SV} {r : List SV} : tupSV (x :: y :: r) = .tup (x :: y :: r) := (rfl)

variable {ty : TypeId} {pos : String} {af : Array Edge} {g : Option (Nat × Bool)} {all : Array Oper} {rest : List Oper}
theorem XL_nil {fr : List (Nat × SV)} {hp : List (Nat × Blk)} {nx : Nat} : XL P C all [] K ⟨fr, hp, nx⟩ = K ⟨fr, hp, nx⟩ := (rfl)
theorem XL_none {fr : List (Nat × SV)} {hp : List (Nat × Blk)} {nx : Nat} {op : Op} : XL P C all (⟨d, op, ty, pos, af, none⟩ :: rest) K ⟨fr, hp, nx⟩ = (dOk C.N d ∧ XOp P C ⟨d, op, ty, pos, af, none⟩ (XL P C all rest K) ⟨fr, hp, nx⟩) := (rfl)
theorem XL_t {op : Op} {j : Nat} {fr : List (Nat × SV)} {hp : List (Nat × Blk)} {nx : Nat} : XL P C all (⟨d, op, ty, pos, af, some (j, true)⟩ :: rest) K ⟨fr, hp, nx⟩ = (dOk C.N d ∧ wO (gdst all j) (kg (XOp P C ⟨d, op, ty, pos, af, some (j, true)⟩ (XL P C all rest K)) (XL P C all rest K) true d ⟨fr, hp, nx⟩)) := (rfl)
theorem XL_f {op : Op} {j : Nat} {fr : List (Nat × SV)} {hp : List (Nat × Blk)} {nx : Nat} : XL P C all (⟨d, op, ty, pos, af, some (j, false)⟩ :: rest) K ⟨fr, hp, nx⟩ = (dOk C.N d ∧ wO (gdst all j) (kg (XOp P C ⟨d, op, ty, pos, af, some (j, false)⟩ (XL P C all rest K)) (XL P C all rest K) false d ⟨fr, hp, nx⟩)) := (rfl)
theorem kg_t {run rs : St → Prop} {fr : List (Nat × SV)} {hp : List (Nat × Blk)} {nx t : Nat} : kg run rs true d ⟨fr, hp, nx⟩ t = wG (lk fr t) (gOn run t true) (gOff rs t false d) (gSk rs d) ⟨fr, hp, nx⟩ := (rfl)
theorem kg_f {run rs : St → Prop} {fr : List (Nat × SV)} {hp : List (Nat × Blk)} {nx t : Nat} : kg run rs false d ⟨fr, hp, nx⟩ t = wG (lk fr t) (gOff rs t true d) (gOn run t false) (gSk rs d) ⟨fr, hp, nx⟩ := (rfl)
theorem gOn_s {run : St → Prop} {fr : List (Nat × SV)} {hp : List (Nat × Blk)} {nx t : Nat} {b : Bool} : gOn run t b ⟨fr, hp, nx⟩ = run ⟨(t, .c (.v (.bool b))) :: fr, hp, nx⟩ := (rfl)
theorem gOff_s {rs : St → Prop} {fr : List (Nat × SV)} {hp : List (Nat × Blk)} {nx t u : Nat} {b : Bool} : gOff rs t b (some u) ⟨fr, hp, nx⟩ = rs ⟨(u, .c (.v undef)) :: (t, .c (.v (.bool b))) :: fr, hp, nx⟩ := (rfl)
theorem gOff_n {rs : St → Prop} {fr : List (Nat × SV)} {hp : List (Nat × Blk)} {nx t : Nat} {b : Bool} : gOff rs t b none ⟨fr, hp, nx⟩ = rs ⟨(t, .c (.v (.bool b))) :: fr, hp, nx⟩ := (rfl)
theorem dOk_s {n t : Nat} : dOk n (some t) = (t < n) := (rfl)
theorem dOk_n {n : Nat} : dOk n none = True := (rfl)

theorem wO_s {α : Type} {x : α} {G : α → Prop} : wO (some x) G = G x := (rfl)
theorem wO_n {α : Type} {G : α → Prop} : wO none G = False := (rfl)
theorem wP_p {b i f : Nat} {G : Nat → Nat → Nat → Prop} : wP (.c (.p b i f)) G = G b i f := (rfl)
theorem wI_i {k : IntKind} {n : Int} {G : IntKind → Int → Prop} : wI (.c (.v (.int k n))) G = G k n := (rfl)
theorem wG_b {b : Bool} {p q u : St → Prop} : wG (.c (.v (.bool b))) p q u st = br b p q st := (rfl)
theorem wG_u {p q u : St → Prop} : wG (.c (.v undef)) p q u st = u st := (rfl)
theorem gSk_s {rs : St → Prop} {fr : List (Nat × SV)} {hp : List (Nat × Blk)} {nx v : Nat} : gSk rs (some v) ⟨fr, hp, nx⟩ = rs ⟨(v, .c (.v undef)) :: fr, hp, nx⟩ := (rfl)
theorem gSk_n {rs : St → Prop} {fr : List (Nat × SV)} {hp : List (Nat × Blk)} {nx : Nat} : gSk rs none ⟨fr, hp, nx⟩ = rs ⟨fr, hp, nx⟩ := (rfl)
theorem wB_b {b : Bool} {p q : St → Prop} : wB (.c (.v (.bool b))) p q st = br b p q st := (rfl)
theorem wPk_b {b : Bool} {x y : SV} : wPk (.c (.v (.bool b))) x y F = pk b x y F := (rfl)
theorem wOk_c {x : CV} : wOk (.c x) F = F (.c x) := (rfl)
theorem wOk_a {l : List CV} : wOk (.agg l) F = F (.agg l) := (rfl)
theorem wOk_t {l : List SV} : wOk (.tup l) F = (SV.okL l = true ∧ F (.tup l)) := (rfl)
theorem okL_n : SV.okL [] = true := (rfl)
theorem okL_c {x : SV} {l : List SV} : SV.okL (x :: l) = (SV.ok x && SV.okL l) := (rfl)
theorem ok_c {x : CV} : SV.ok (.c x) = true := (rfl)
theorem ok_a {l : List CV} : SV.ok (.agg l) = true := (rfl)
theorem ok_t {l : List SV} : SV.ok (.tup l) = SV.okL l := (rfl)

theorem rdB_c {t : TypeId} {cs : List CV} {i f n : Nat} {G : List CV → Prop} : rdB (some (.cells t cs)) i f n G = (i = 0 ∧ wO (subL cs f n) G) := (rfl)
theorem rdB_r {t : TypeId} {e m c : Nat} {r : Nat → List CV} {i f n : Nat} {G : List CV → Prop} : rdB (some (.rows t e m c r)) i f n G = if f + n ≤ e then (i < m ∧ wO (subL (r i) f n) G) else
    ((f = 0 ∧ 0 < e ∧ n = n / e * e ∧ i + n / e ≤ m ∧ ∀ j, j < n / e → (r (i + j)).length = e) ∧ G (rowsL (fun j => r (i + j)) (n / e))) := by
  simp only [rdB]
  by_cases h : f + n ≤ e
  · rw [show Nat.ble (f + n) e = true from Nat.ble_eq_true_of_le h, if_pos h]; rfl
  · have : Nat.ble (f + n) e = false := by
      cases hb : Nat.ble (f + n) e with
      | false => rfl
      | true => exact absurd (Nat.le_of_ble_eq_true hb) h
    rw [this, if_neg h]; rfl
theorem rdB_i {e m : Nat} {r : Nat → List CV} {i f n : Nat} {G : List CV → Prop} : rdB (some (.imm e m r)) i f n G = (i < m ∧ wO (subL (r i) f n) G) := (rfl)
theorem wrB_c {t : TypeId} {cs l : List CV} {i f : Nat} {G : Blk → Prop} : wrB (some (.cells t cs)) i f l G = (i = 0 ∧ wO (spl cs f l) fun cs' => G (.cells t cs')) := (rfl)
theorem wrB_r {t : TypeId} {e m c : Nat} {r : Nat → List CV} {l : List CV} {i f : Nat} {G : Blk → Prop} : wrB (some (.rows t e m c r)) i f l G = (i < m ∧ wO (spl (r i) f l) fun l' => G (.rows t e m c (rupd r i l'))) := (rfl)
theorem subL_0 {l : List CV} {n : Nat} : subL l 0 n = takeN n l := by cases l <;> rfl
theorem subL_s {x : CV} {l : List CV} {f n : Nat} : subL (x :: l) (f + 1) n = subL l f n := (rfl)
theorem takeN_0 {l : List CV} : takeN 0 l = some [] := by cases l <;> rfl
theorem takeN_s {x : CV} {l : List CV} {n : Nat} : takeN (n + 1) (x :: l) = (takeN n l).map (x :: ·) := (rfl)
theorem spl_0 {l : List CV} : spl l 0 [] = some l := by cases l <;> rfl
theorem spl_c {x y : CV} {l ys : List CV} : spl (x :: l) 0 (y :: ys) = (spl l 0 ys).map (y :: ·) := (rfl)
theorem spl_s {x : CV} {l ys : List CV} {f : Nat} : spl (x :: l) (f + 1) ys = (spl l f ys).map (x :: ·) := by cases ys <;> rfl
theorem mkV_t {cs : List CV} : mkV true cs = .agg cs := (rfl)
theorem mkV_f {x : CV} : mkV false [x] = .c x := (rfl)
theorem rupd_same {r : Nat → List CV} {i : Nat} {l : List CV} : rupd r i l i = l := by simp [rupd]
theorem rupd_ne {r : Nat → List CV} {i j : Nat} {l : List CV} : rupd r i l j = if j = i then l else r j := (rfl)
theorem rowsOf_eq {e i : Nat} {l : List CV} : rowsOf e l i = (l.drop (i * e)).take e := (rfl)
theorem cO_a {l : List CV} : SV.cellsOf (.agg l) = some l := (rfl)
theorem cO_p {b i f : Nat} : SV.cellsOf (.c (.p b i f)) = some [.p b i f] := (rfl)
theorem cO_s {b i f c : Nat} : SV.cellsOf (.c (.s b i f c)) = some [.s b i f c] := (rfl)
theorem cO_f {f : Nat} {l : List CV} : SV.cellsOf (.c (.fn f l)) = some [.fn f l] := (rfl)
theorem cO_i {k : IntKind} {n : Int} : SV.cellsOf (.c (.v (.int k n))) = some [.v (.int k n)] := (rfl)
theorem cO_b {b : Bool} : SV.cellsOf (.c (.v (.bool b))) = some [.v (.bool b)] := (rfl)
theorem cO_st {b : ByteArray} : SV.cellsOf (.c (.v (.string b))) = some [.v (.string b)] := (rfl)
theorem cO_pt {b : Option Addr} : SV.cellsOf (.c (.v (.pointer b))) = some [.v (.pointer b)] := (rfl)
theorem cO_sl {b : Option Addr} {l c : Nat} : SV.cellsOf (.c (.v (.slice b l c))) = some [.v (.slice b l c)] := (rfl)
theorem cO_m {b : Option Nat} : SV.cellsOf (.c (.v (.map b))) = some [.v (.map b)] := (rfl)
theorem cO_ch {b : Option Nat} : SV.cellsOf (.c (.v (.chan b))) = some [.v (.chan b)] := (rfl)
theorem cO_va {b : Array Value} : SV.cellsOf (.c (.v (.agg b))) = some (b.toList.map .v) := (rfl)
theorem cO_ni : SV.cellsOf (.c (.v .nilIface)) = some [.v .nilIface] := (rfl)
theorem cO_nf : SV.cellsOf (.c (.v .nilFunc)) = some [.v .nilFunc] := (rfl)
theorem one_p {b i f : Nat} : one1 (.p b i f) = true := (rfl)
theorem one_s {b i f c : Nat} : one1 (.s b i f c) = true := (rfl)
theorem one_f {f : Nat} {l : List CV} : one1 (.fn f l) = true := (rfl)
theorem one_i {k : IntKind} {n : Int} : one1 (.v (.int k n)) = true := (rfl)
theorem one_b {b : Bool} : one1 (.v (.bool b)) = true := (rfl)
theorem one_st {b : ByteArray} : one1 (.v (.string b)) = true := (rfl)
theorem one_pt {b : Option Addr} : one1 (.v (.pointer b)) = true := (rfl)
theorem one_sl {b : Option Addr} {l c : Nat} : one1 (.v (.slice b l c)) = true := (rfl)
theorem one_m {b : Option Nat} : one1 (.v (.map b)) = true := (rfl)
theorem one_ch {b : Option Nat} : one1 (.v (.chan b)) = true := (rfl)
theorem one_ni : one1 (.v .nilIface) = true := (rfl)
theorem one_nf : one1 (.v .nilFunc) = true := (rfl)

theorem XV_move {fr : List (Nat × SV)} {hp : List (Nat × Blk)} {nx : Nat} {x : Operand} : XV P (.move x) ⟨fr, hp, nx⟩ F = wOk (St.ev ⟨fr, hp, nx⟩ x) F := (rfl)
theorem XV_assign {fr : List (Nat × SV)} {hp : List (Nat × Blk)} {nx : Nat} {x : Operand} : XV P (.assign x) ⟨fr, hp, nx⟩ F = wOk (St.ev ⟨fr, hp, nx⟩ x) F := (rfl)
theorem XV_pick {fr : List (Nat × SV)} {hp : List (Nat × Blk)} {nx : Nat} {c a b : Operand} : XV P (.pick c a b) ⟨fr, hp, nx⟩ F = wPk (St.ev ⟨fr, hp, nx⟩ c) (St.ev ⟨fr, hp, nx⟩ a) (St.ev ⟨fr, hp, nx⟩ b) F := (rfl)
theorem XV_s2a {fr : List (Nat × SV)} {hp : List (Nat × Blk)} {nx : Nat} {t : TypeId} {x : Operand} : XV P (.sliceToArrayPointer t x) ⟨fr, hp, nx⟩ F = wO (tkind P t) fun k => XS2A k (St.ev ⟨fr, hp, nx⟩ x) F := (rfl)
theorem XS2A_s {n e b i len c : Nat} : XS2A (.arr n e) (.c (.s b i len c)) F = (n ≤ len ∧ F (.c (.p b i 0))) := (rfl)
theorem XV_nil {fr : List (Nat × SV)} {hp : List (Nat × Blk)} {nx : Nat} {x : Operand} : XV P (.nilCheck x) ⟨fr, hp, nx⟩ F = XNil (St.ev ⟨fr, hp, nx⟩ x) F := (rfl)
theorem XV_load {t : TypeId} {x : Operand} {fr : List (Nat × SV)} {hp : List (Nat × Blk)} {nx : Nat} : XV P (.load t x) ⟨fr, hp, nx⟩ F = wO (tagg P t) fun ag => wO (tsz P t) fun n => wP (St.ev ⟨fr, hp, nx⟩ x) fun b i f => rdB (hget hp b) i f (bif ag then n else 1) fun cs => F (mkV ag cs) := (rfl)
theorem XV_bin {fr : List (Nat × SV)} {hp : List (Nat × Blk)} {nx : Nat} {op : BinOp} {t u : TypeId} {x y : Operand} : XV P (.binOp op t x y u) ⟨fr, hp, nx⟩ F = XBin P op t (St.ev ⟨fr, hp, nx⟩ x) (St.ev ⟨fr, hp, nx⟩ y) F := (rfl)
theorem XV_un {fr : List (Nat × SV)} {hp : List (Nat × Blk)} {nx : Nat} {op : UnOp} {t : TypeId} {x : Operand} : XV P (.unOp op t x) ⟨fr, hp, nx⟩ F = XUn op (St.ev ⟨fr, hp, nx⟩ x) F := (rfl)
theorem XV_conv {fr : List (Nat × SV)} {hp : List (Nat × Blk)} {nx : Nat} {s t : TypeId} {x : Operand} : XV P (.convert s t x) ⟨fr, hp, nx⟩ F = wO (tkind P s) fun k => XConv P hp k t (St.ev ⟨fr, hp, nx⟩ x) F := (rfl)
theorem XV_fa {fr : List (Nat × SV)} {hp : List (Nat × Blk)} {nx : Nat} {s : TypeId} {x : Operand} {k : Nat} : XV P (.fieldAddr s x k) ⟨fr, hp, nx⟩ F = wO (tfld P s k) fun fo => wO (tsz P fo.2) fun n => n ≠ 0 ∧ wP (St.ev ⟨fr, hp, nx⟩ x) fun b i f => F (.c (.p b i (f + fo.1))) := (rfl)
theorem XV_fld {fr : List (Nat × SV)} {hp : List (Nat × Blk)} {nx : Nat} {s : TypeId} {x : Operand} {k : Nat} : XV P (.field s x k) ⟨fr, hp, nx⟩ F = wO (tfld P s k) fun fo => wO (tagg P fo.2) fun ag => wO (tsz P fo.2) fun n => XFld (St.ev ⟨fr, hp, nx⟩ x) fo.1 ag n F := (rfl)
theorem XV_ia {t : TypeId} {x y : Operand} {fr : List (Nat × SV)} {hp : List (Nat × Blk)} {nx : Nat} : XV P (.indexAddr t x y) ⟨fr, hp, nx⟩ F = wO (tkind P t) fun k => wI (St.ev ⟨fr, hp, nx⟩ y) fun _ n => XIxA P hp k (St.ev ⟨fr, hp, nx⟩ x) n F := (rfl)
theorem XV_ix {fr : List (Nat × SV)} {hp : List (Nat × Blk)} {nx : Nat} {t : TypeId} {x y : Operand} : XV P (.index t x y) ⟨fr, hp, nx⟩ F = wO (tkind P t) fun k => wI (St.ev ⟨fr, hp, nx⟩ y) fun _ n => XIx P k (St.ev ⟨fr, hp, nx⟩ x) n F := (rfl)
theorem XV_ext {fr : List (Nat × SV)} {hp : List (Nat × Blk)} {nx : Nat} {x : Operand} {k : Nat} : XV P (.extract x k) ⟨fr, hp, nx⟩ F = XExt (St.ev ⟨fr, hp, nx⟩ x) k F := (rfl)
theorem XV_bld {fr : List (Nat × SV)} {hp : List (Nat × Blk)} {nx : Nat} {t : TypeId} {ps : List (Nat × Operand)} : XV P (.build t ps.toArray) ⟨fr, hp, nx⟩ F = wO (tzero P t) fun zs => XBld P t zs (tplaces P t) ps ⟨fr, hp, nx⟩ F := (rfl)
theorem XV_mk {fr : List (Nat × SV)} {hp : List (Nat × Blk)} {nx : Nat} {fn : Fn} {a b : List Operand} : XV P (.makeFunc fn a.toArray b.toArray) ⟨fr, hp, nx⟩ F = XMkF fn a b ⟨fr, hp, nx⟩ F := (rfl)
theorem XV_sl {t : TypeId} {x : Operand} {lo hi : Option Operand} {fr : List (Nat × SV)} {hp : List (Nat × Blk)} {nx : Nat} : XV P (.slice t x lo hi none) ⟨fr, hp, nx⟩ F = wO (tkind P t) fun k => bnd ⟨fr, hp, nx⟩ lo fun lo => bnd ⟨fr, hp, nx⟩ hi fun hi => XSl P hp k (St.ev ⟨fr, hp, nx⟩ x) lo hi F := by
  simp only [XV, true_and]
theorem XV_bui {fr : List (Nat × SV)} {hp : List (Nat × Blk)} {nx : Nat} {b : Builtin} {a : List Operand} {t : List TypeId} : XV P (.call { callee := .builtin b, args := a.toArray, argTypes := t.toArray }) ⟨fr, hp, nx⟩ F = XBui P b a t ⟨fr, hp, nx⟩ F := (rfl)

theorem XOp_move {fr : List (Nat × SV)} {hp : List (Nat × Blk)} {nx : Nat} {x : Operand} : XOp P C ⟨d, .move x, ty, pos, af, g⟩ K ⟨fr, hp, nx⟩ = XV P (.move x) ⟨fr, hp, nx⟩ (kput K ⟨fr, hp, nx⟩ d) := (rfl)
theorem XOp_assign {fr : List (Nat × SV)} {hp : List (Nat × Blk)} {nx : Nat} {x : Operand} : XOp P C ⟨d, .assign x, ty, pos, af, g⟩ K ⟨fr, hp, nx⟩ = XV P (.assign x) ⟨fr, hp, nx⟩ (kput K ⟨fr, hp, nx⟩ d) := (rfl)
theorem XOp_pick {fr : List (Nat × SV)} {hp : List (Nat × Blk)} {nx : Nat} {c a b : Operand} : XOp P C ⟨d, .pick c a b, ty, pos, af, g⟩ K ⟨fr, hp, nx⟩ = XV P (.pick c a b) ⟨fr, hp, nx⟩ (kput K ⟨fr, hp, nx⟩ d) := (rfl)
theorem XOp_s2a {fr : List (Nat × SV)} {hp : List (Nat × Blk)} {nx : Nat} {t : TypeId} {x : Operand} : XOp P C ⟨d, .sliceToArrayPointer t x, ty, pos, af, g⟩ K ⟨fr, hp, nx⟩ = XV P (.sliceToArrayPointer t x) ⟨fr, hp, nx⟩ (kput K ⟨fr, hp, nx⟩ d) := (rfl)
theorem XOp_nil {fr : List (Nat × SV)} {hp : List (Nat × Blk)} {nx : Nat} {x : Operand} : XOp P C ⟨d, .nilCheck x, ty, pos, af, g⟩ K ⟨fr, hp, nx⟩ = XV P (.nilCheck x) ⟨fr, hp, nx⟩ (kput K ⟨fr, hp, nx⟩ d) := (rfl)
theorem XOp_load {fr : List (Nat × SV)} {hp : List (Nat × Blk)} {nx : Nat} {t : TypeId} {x : Operand} : XOp P C ⟨d, .load t x, ty, pos, af, g⟩ K ⟨fr, hp, nx⟩ = XV P (.load t x) ⟨fr, hp, nx⟩ (kput K ⟨fr, hp, nx⟩ d) := (rfl)
theorem XOp_bin {fr : List (Nat × SV)} {hp : List (Nat × Blk)} {nx : Nat} {op : BinOp} {t u : TypeId} {x y : Operand} : XOp P C ⟨d, .binOp op t x y u, ty, pos, af, g⟩ K ⟨fr, hp, nx⟩ = XV P (.binOp op t x y u) ⟨fr, hp, nx⟩ (kput K ⟨fr, hp, nx⟩ d) := (rfl)
theorem XOp_un {fr : List (Nat × SV)} {hp : List (Nat × Blk)} {nx : Nat} {op : UnOp} {t : TypeId} {x : Operand} : XOp P C ⟨d, .unOp op t x, ty, pos, af, g⟩ K ⟨fr, hp, nx⟩ = XV P (.unOp op t x) ⟨fr, hp, nx⟩ (kput K ⟨fr, hp, nx⟩ d) := (rfl)
theorem XOp_conv {fr : List (Nat × SV)} {hp : List (Nat × Blk)} {nx : Nat} {s t : TypeId} {x : Operand} : XOp P C ⟨d, .convert s t x, ty, pos, af, g⟩ K ⟨fr, hp, nx⟩ = XCv (St.ev ⟨fr, hp, nx⟩ x) (SOp P C ⟨d, .convert s t x, ty, pos, af, g⟩ K ⟨fr, hp, nx⟩) (XV P (.convert s t x) ⟨fr, hp, nx⟩ (kput K ⟨fr, hp, nx⟩ d)) := (rfl)
theorem XCv_t {s : ByteArray} {A B : Prop} : XCv (.c (.v (.string s))) A B = A := (rfl)
theorem XCv_i {k : IntKind} {n : Int} {A B : Prop} : XCv (.c (.v (.int k n))) A B = B := (rfl)
theorem XCv_n {a : Option Addr} {n m : Nat} {A B : Prop} : XCv (.c (.v (.slice a n m))) A B = B := (rfl)
theorem XCv_s {b i l c : Nat} {A B : Prop} : XCv (.c (.s b i l c)) A B = B := (rfl)
theorem XOp_fa {fr : List (Nat × SV)} {hp : List (Nat × Blk)} {nx : Nat} {s : TypeId} {x : Operand} {k : Nat} : XOp P C ⟨d, .fieldAddr s x k, ty, pos, af, g⟩ K ⟨fr, hp, nx⟩ = XV P (.fieldAddr s x k) ⟨fr, hp, nx⟩ (kput K ⟨fr, hp, nx⟩ d) := (rfl)
theorem XOp_fld {fr : List (Nat × SV)} {hp : List (Nat × Blk)} {nx : Nat} {s : TypeId} {x : Operand} {k : Nat} : XOp P C ⟨d, .field s x k, ty, pos, af, g⟩ K ⟨fr, hp, nx⟩ = XV P (.field s x k) ⟨fr, hp, nx⟩ (kput K ⟨fr, hp, nx⟩ d) := (rfl)
theorem XOp_ia {fr : List (Nat × SV)} {hp : List (Nat × Blk)} {nx : Nat} {t : TypeId} {x y : Operand} : XOp P C ⟨d, .indexAddr t x y, ty, pos, af, g⟩ K ⟨fr, hp, nx⟩ = XV P (.indexAddr t x y) ⟨fr, hp, nx⟩ (kput K ⟨fr, hp, nx⟩ d) := (rfl)
theorem XOp_ix {fr : List (Nat × SV)} {hp : List (Nat × Blk)} {nx : Nat} {t : TypeId} {x y : Operand} : XOp P C ⟨d, .index t x y, ty, pos, af, g⟩ K ⟨fr, hp, nx⟩ = XV P (.index t x y) ⟨fr, hp, nx⟩ (kput K ⟨fr, hp, nx⟩ d) := (rfl)
theorem XOp_ext {fr : List (Nat × SV)} {hp : List (Nat × Blk)} {nx : Nat} {x : Operand} {k : Nat} : XOp P C ⟨d, .extract x k, ty, pos, af, g⟩ K ⟨fr, hp, nx⟩ = XV P (.extract x k) ⟨fr, hp, nx⟩ (kput K ⟨fr, hp, nx⟩ d) := (rfl)
theorem XOp_bld {fr : List (Nat × SV)} {hp : List (Nat × Blk)} {nx : Nat} {t : TypeId} {ps : Array (Nat × Operand)} : XOp P C ⟨d, .build t ps, ty, pos, af, g⟩ K ⟨fr, hp, nx⟩ = XV P (.build t ps) ⟨fr, hp, nx⟩ (kput K ⟨fr, hp, nx⟩ d) := (rfl)
theorem XOp_mk {fr : List (Nat × SV)} {hp : List (Nat × Blk)} {nx : Nat} {fn : Fn} {a b : Array Operand} : XOp P C ⟨d, .makeFunc fn a b, ty, pos, af, g⟩ K ⟨fr, hp, nx⟩ = XV P (.makeFunc fn a b) ⟨fr, hp, nx⟩ (kput K ⟨fr, hp, nx⟩ d) := (rfl)
theorem XOp_sl {fr : List (Nat × SV)} {hp : List (Nat × Blk)} {nx : Nat} {t : TypeId} {x : Operand} {lo hi mx : Option Operand} : XOp P C ⟨d, .slice t x lo hi mx, ty, pos, af, g⟩ K ⟨fr, hp, nx⟩ = XV P (.slice t x lo hi mx) ⟨fr, hp, nx⟩ (kput K ⟨fr, hp, nx⟩ d) := (rfl)
theorem XOp_len {fr : List (Nat × SV)} {hp : List (Nat × Blk)} {nx : Nat} {a : Array Operand} {t : Array TypeId} : XOp P C ⟨d, .call { callee := .builtin .len, args := a, argTypes := t }, ty, pos, af, g⟩ K ⟨fr, hp, nx⟩ = XV P (.call { callee := .builtin .len, args := a, argTypes := t }) ⟨fr, hp, nx⟩ (kput K ⟨fr, hp, nx⟩ d) := (rfl)
theorem XOp_max {fr : List (Nat × SV)} {hp : List (Nat × Blk)} {nx : Nat} {a : Array Operand} {t : Array TypeId} : XOp P C ⟨d, .call { callee := .builtin .max, args := a, argTypes := t }, ty, pos, af, g⟩ K ⟨fr, hp, nx⟩ = XV P (.call { callee := .builtin .max, args := a, argTypes := t }) ⟨fr, hp, nx⟩ (kput K ⟨fr, hp, nx⟩ d) := (rfl)
theorem XOp_min {fr : List (Nat × SV)} {hp : List (Nat × Blk)} {nx : Nat} {a : Array Operand} {t : Array TypeId} : XOp P C ⟨d, .call { callee := .builtin .min, args := a, argTypes := t }, ty, pos, af, g⟩ K ⟨fr, hp, nx⟩ = XV P (.call { callee := .builtin .min, args := a, argTypes := t }) ⟨fr, hp, nx⟩ (kput K ⟨fr, hp, nx⟩ d) := (rfl)
theorem XOp_alloc {t : TypeId} {d : Tmp} {fr : List (Nat × SV)} {hp : List (Nat × Blk)} {nx : Nat} : XOp P C ⟨some d, .alloc t, ty, pos, af, g⟩ K ⟨fr, hp, nx⟩ = wO (tzero P t) fun zs => allocB (tarr P t) t zs fun bl => K ⟨(d, .c (.p nx 0 0)) :: fr, (nx, bl) :: hp, nx + 1⟩ := (rfl)
theorem allocB_n {t : TypeId} {zs : List Value} {F : Blk → Prop} : allocB none t zs F = F (.cells t (zs.map .v)) := (rfl)
theorem allocB_s {t : TypeId} {zs : List Value} {F : Blk → Prop} {n e : Nat} : allocB (some (n, e)) t zs F = ((zs.length = n * e ∧ 0 < e) ∧ F (.rows t e n n (rowsOf e (zs.map .v)))) := (rfl)
theorem allocB_congr {a a' : Option (Nat × Nat)} {t : TypeId} {zs : List Value} {F : Blk → Prop} (h : a = a') : allocB a t zs F = allocB a' t zs F := by rw [h]
theorem XOp_box {t : TypeId} {x : Operand} {d : Tmp} {fr : List (Nat × SV)} {hp : List (Nat × Blk)} {nx : Nat} : XOp P C ⟨some d, .box t x, ty, pos, af, g⟩ K ⟨fr, hp, nx⟩ = wO (St.ev ⟨fr, hp, nx⟩ x).cellsOf fun cs => K ⟨(d, .c (.p nx 0 0)) :: fr, (nx, .cells t cs) :: hp, nx + 1⟩ := (rfl)
def XBs (P : Program) (k : TK) (len : Nat) (ps : List (Nat × Operand)) (d : Tmp) (st : St) (K : St → Prop) : Prop :=
  match k with
  | .slc e => wO (tsz P e) fun n => wO (tzero P e) fun zs => (len * n ≤ 1024 ∧ 0 < n ∧ zs.length = n) ∧ wO (fillX ((List.replicate len (zs.map .v)).flatten) (placedA n st ps)) fun cs => K ⟨(d, .c (.s st.nx 0 len len)) :: st.fr, (st.nx, .rows e n len len (rowsOf n cs)) :: st.hp, st.nx + 1⟩
  | _ => False
theorem XBs_congr {k k' : TK} {len : Nat} {ps : List (Nat × Operand)} {d : Tmp} (h0 : k = k') (h : st = st') : XBs P k len ps d st K = XBs P k' len ps d st' K := by rw [h0, h]
theorem XOp_bs {fr : List (Nat × SV)} {hp : List (Nat × Blk)} {nx : Nat} {t : TypeId} {len : Nat} {ps : List (Nat × Operand)} {d : Tmp} : XOp P C ⟨some d, .buildSlice t len ps.toArray, ty, pos, af, g⟩ K ⟨fr, hp, nx⟩ = wO (tkind P t) fun k => XBs P k len ps d ⟨fr, hp, nx⟩ K := by
  simp only [XOp, wO_s]
  cases tkind P t with
  | none => rfl
  | some k => cases k <;> rfl
theorem XBs_s {e : TypeId} {len : Nat} {ps : List (Nat × Operand)} {d : Tmp} {fr : List (Nat × SV)} {hp : List (Nat × Blk)} {nx : Nat} : XBs P (.slc e) len ps d ⟨fr, hp, nx⟩ K = wO (tsz P e) fun n => wO (tzero P e) fun zs => (len * n ≤ 1024 ∧ 0 < n ∧ zs.length = n) ∧ wO (fillX ((List.replicate len (zs.map .v)).flatten) (placedA n ⟨fr, hp, nx⟩ ps)) fun cs => K ⟨(d, .c (.s nx 0 len len)) :: fr, (nx, .rows e n len len (rowsOf n cs)) :: hp, nx + 1⟩ := (rfl)
theorem XOp_store {t : TypeId} {x y : Operand} {fr : List (Nat × SV)} {hp : List (Nat × Blk)} {nx : Nat} : XOp P C ⟨none, .store t x y, ty, pos, af, g⟩ K ⟨fr, hp, nx⟩ = wO (tsz P t) fun n => wO (St.ev ⟨fr, hp, nx⟩ y).cellsOf fun cs => (cs.length = n ∧ cs.all one1 = true) ∧ wP (St.ev ⟨fr, hp, nx⟩ x) fun b i f => wrB (hget hp b) i f cs fun bl => K ⟨fr, hset hp b bl, nx⟩ := (rfl)
theorem XOp_call {fr : List (Nat × SV)} {hp : List (Nat × Blk)} {nx : Nat} {f : Operand} {a : List Operand} {t : Array TypeId} : XOp P C ⟨d, .call { callee := .value f, args := a.toArray, argTypes := t }, ty, pos, af, g⟩ K ⟨fr, hp, nx⟩ = XCall P C (St.ev ⟨fr, hp, nx⟩ f) (St.evL ⟨fr, hp, nx⟩ a) d K ⟨fr, hp, nx⟩ := (rfl)
theorem XCall_fn {f : FuncId} {caps : List CV} {args : List SV} : XCall P C (.c (.fn f caps)) args d K st = SCall P C f (args ++ caps.map .c) d K st := (rfl)
theorem XCall_v {f : FuncId} {a c : List Value} {args : List SV} : XCall P C (.c (.v (.func (.func f) a.toArray c.toArray))) args d K st = SCall P C f (a.map (fun x => .c (.v x)) ++ args ++ c.map (fun x => .c (.v x))) d K st := (rfl)
theorem XOp_append {fr : List (Nat × SV)} {hp : List (Nat × Blk)} {nx : Nat} {a : Array Operand} {t : Array TypeId} : XOp P C ⟨d, .call { callee := .builtin .append, args := a, argTypes := t }, ty, pos, af, g⟩ K ⟨fr, hp, nx⟩ = SOp P C ⟨d, .call { callee := .builtin .append, args := a, argTypes := t }, ty, pos, af, g⟩ K ⟨fr, hp, nx⟩ := (rfl)
theorem XOp_cap {fr : List (Nat × SV)} {hp : List (Nat × Blk)} {nx : Nat} {a : Array Operand} {t : Array TypeId} : XOp P C ⟨d, .call { callee := .builtin .cap, args := a, argTypes := t }, ty, pos, af, g⟩ K ⟨fr, hp, nx⟩ = XV P (.call { callee := .builtin .cap, args := a, argTypes := t }) ⟨fr, hp, nx⟩ (kput K ⟨fr, hp, nx⟩ d) := (rfl)
theorem XOp_copy {fr : List (Nat × SV)} {hp : List (Nat × Blk)} {nx : Nat} {a : Array Operand} {t : Array TypeId} : XOp P C ⟨d, .call { callee := .builtin .copy, args := a, argTypes := t }, ty, pos, af, g⟩ K ⟨fr, hp, nx⟩ = SOp P C ⟨d, .call { callee := .builtin .copy, args := a, argTypes := t }, ty, pos, af, g⟩ K ⟨fr, hp, nx⟩ := (rfl)
theorem XOp_clear {fr : List (Nat × SV)} {hp : List (Nat × Blk)} {nx : Nat} {a : Array Operand} {t : Array TypeId} : XOp P C ⟨d, .call { callee := .builtin .clear, args := a, argTypes := t }, ty, pos, af, g⟩ K ⟨fr, hp, nx⟩ = SOp P C ⟨d, .call { callee := .builtin .clear, args := a, argTypes := t }, ty, pos, af, g⟩ K ⟨fr, hp, nx⟩ := (rfl)

theorem XNil_p {b i f : Nat} : XNil (.c (.p b i f)) F = F (.c (.p b i f)) := (rfl)
theorem XNil_f {f : Nat} {l : List CV} : XNil (.c (.fn f l)) F = F (.c (.fn f l)) := (rfl)
theorem XNil_v {a : Addr} : XNil (.c (.v (.pointer (some a)))) F = F (.c (.v (.pointer (some a)))) := (rfl)
theorem XNil_g {f : FuncId} {a l : Array Value} : XNil (.c (.v (.func (.func f) a l))) F = F (.c (.v (.func (.func f) a l))) := (rfl)
theorem XBi_add {t : TypeId} {k k' : IntKind} {a b : Int} : XBin P .add t (.c (.v (.int k a))) (.c (.v (.int k' b))) F = (k = k' ∧ binI .add k a b F) := by simp [XBin]
theorem XBi_sub {t : TypeId} {k k' : IntKind} {a b : Int} : XBin P .sub t (.c (.v (.int k a))) (.c (.v (.int k' b))) F = (k = k' ∧ binI .sub k a b F) := by simp [XBin]
theorem XBi_mul {t : TypeId} {k k' : IntKind} {a b : Int} : XBin P .mul t (.c (.v (.int k a))) (.c (.v (.int k' b))) F = (k = k' ∧ binI .mul k a b F) := by simp [XBin]
theorem XBi_quo {t : TypeId} {k k' : IntKind} {a b : Int} : XBin P .quo t (.c (.v (.int k a))) (.c (.v (.int k' b))) F = (k = k' ∧ binI .quo k a b F) := by simp [XBin]
theorem XBi_rem {t : TypeId} {k k' : IntKind} {a b : Int} : XBin P .rem t (.c (.v (.int k a))) (.c (.v (.int k' b))) F = (k = k' ∧ binI .rem k a b F) := by simp [XBin]
theorem XBi_and {t : TypeId} {k k' : IntKind} {a b : Int} : XBin P .and t (.c (.v (.int k a))) (.c (.v (.int k' b))) F = (k = k' ∧ binI .and k a b F) := by simp [XBin]
theorem XBi_or {t : TypeId} {k k' : IntKind} {a b : Int} : XBin P .or t (.c (.v (.int k a))) (.c (.v (.int k' b))) F = (k = k' ∧ binI .or k a b F) := by simp [XBin]
theorem XBi_xor {t : TypeId} {k k' : IntKind} {a b : Int} : XBin P .xor t (.c (.v (.int k a))) (.c (.v (.int k' b))) F = (k = k' ∧ binI .xor k a b F) := by simp [XBin]
theorem XBi_andNot {t : TypeId} {k k' : IntKind} {a b : Int} : XBin P .andNot t (.c (.v (.int k a))) (.c (.v (.int k' b))) F = (k = k' ∧ binI .andNot k a b F) := by simp [XBin]
theorem XBi_eql {t : TypeId} {k k' : IntKind} {a b : Int} : XBin P .eql t (.c (.v (.int k a))) (.c (.v (.int k' b))) F = (k = k' ∧ binI .eql k a b F) := by simp [XBin]
theorem XBi_neq {t : TypeId} {k k' : IntKind} {a b : Int} : XBin P .neq t (.c (.v (.int k a))) (.c (.v (.int k' b))) F = (k = k' ∧ binI .neq k a b F) := by simp [XBin]
theorem XBi_lss {t : TypeId} {k k' : IntKind} {a b : Int} : XBin P .lss t (.c (.v (.int k a))) (.c (.v (.int k' b))) F = (k = k' ∧ binI .lss k a b F) := by simp [XBin]
theorem XBi_leq {t : TypeId} {k k' : IntKind} {a b : Int} : XBin P .leq t (.c (.v (.int k a))) (.c (.v (.int k' b))) F = (k = k' ∧ binI .leq k a b F) := by simp [XBin]
theorem XBi_gtr {t : TypeId} {k k' : IntKind} {a b : Int} : XBin P .gtr t (.c (.v (.int k a))) (.c (.v (.int k' b))) F = (k = k' ∧ binI .gtr k a b F) := by simp [XBin]
theorem XBi_geq {t : TypeId} {k k' : IntKind} {a b : Int} : XBin P .geq t (.c (.v (.int k a))) (.c (.v (.int k' b))) F = (k = k' ∧ binI .geq k a b F) := by simp [XBin]
theorem XBi_shl {t : TypeId} {k k' : IntKind} {a b : Int} : XBin P .shl t (.c (.v (.int k a))) (.c (.v (.int k' b))) F = binI .shl k a b F := by simp [XBin]
theorem XBi_shr {t : TypeId} {k k' : IntKind} {a b : Int} : XBin P .shr t (.c (.v (.int k a))) (.c (.v (.int k' b))) F = binI .shr k a b F := by simp [XBin]
theorem XBin_s {op : BinOp} {t : TypeId} {a b : ByteArray} : XBin P op t (.c (.v (.string a))) (.c (.v (.string b))) F = binS op a b F := (rfl)
theorem XBin_b {op : BinOp} {t : TypeId} {a b : Bool} : XBin P op t (.c (.v (.bool a))) (.c (.v (.bool b))) F = (tbool P t = some true ∧ wO (neg? op) fun n => F (.c (.v (.bool (xor n (decide (a = b))))))) := (rfl)
theorem XBin_p {op : BinOp} {t : TypeId} {b i f : Nat} : XBin P op t (.c (.p b i f)) (.c (.v (.pointer none))) F = (tptr P t = some true ∧ wO (neg? op) fun n => F (.c (.v (.bool n)))) := (rfl)
theorem XBin_pv {op : BinOp} {t : TypeId} {a : Option Addr} : XBin P op t (.c (.v (.pointer a))) (.c (.v (.pointer none))) F = (tptr P t = some true ∧ wO (neg? op) fun n => F (.c (.v (.bool (xor n a.isNone))))) := (rfl)
theorem XBin_sl {op : BinOp} {t : TypeId} {b i l c l' c' : Nat} : XBin P op t (.c (.s b i l c)) (.c (.v (.slice none l' c'))) F = (tslc P t = some true ∧ wO (neg? op) fun n => F (.c (.v (.bool n)))) := (rfl)
theorem XBin_slv {op : BinOp} {t : TypeId} {a : Option Addr} {l c l' c' : Nat} : XBin P op t (.c (.v (.slice a l c))) (.c (.v (.slice none l' c'))) F = (tslc P t = some true ∧ wO (neg? op) fun n => F (.c (.v (.bool (xor n a.isNone))))) := (rfl)
theorem XBin_m {op : BinOp} {t : TypeId} {a : Option Nat} : XBin P op t (.c (.v (.map a))) (.c (.v (.map none))) F = (tmap P t = some true ∧ wO (neg? op) fun n => F (.c (.v (.bool (xor n a.isNone))))) := (rfl)
theorem XBin_a {op : BinOp} {t : TypeId} {xs ys : List CV} : XBin P op t (.agg xs) (.agg ys) F = wO (tleaf P t) fun ks => wO (neg? op) fun n => wO (eqL ks xs ys) fun b => F (.c (.v (.bool (xor n b)))) := (rfl)
theorem eqL_n : eqL [] [] [] = some true := (rfl)
theorem eqL_i {k : IntKind} {a b : Int} {r s : List CV} {ks : List LK} : eqL (.i :: ks) (.v (.int k a) :: r) (.v (.int k b) :: s) = (eqL ks r s).map fun c => decide (a = b) && c := by simp [eqL, eq1]
theorem eqL_b {a b : Bool} {r s : List CV} {ks : List LK} : eqL (.b :: ks) (.v (.bool a) :: r) (.v (.bool b) :: s) = (eqL ks r s).map fun c => decide (a = b) && c := by simp [eqL, eq1]
theorem eqL_s {a b : ByteArray} {r s : List CV} {ks : List LK} : eqL (.s :: ks) (.v (.string a) :: r) (.v (.string b) :: s) = (eqL ks r s).map fun c => decide (a = b) && c := by simp [eqL, eq1]
theorem neg_e : neg? .eql = some false := (rfl)
theorem neg_n : neg? .neq = some true := (rfl)
theorem bI_add {k : IntKind} {a b : Int} : binI .add k a b F = F (.c (.v (.int k (k.wrap (a + b))))) := (rfl)
theorem bI_sub {k : IntKind} {a b : Int} : binI .sub k a b F = F (.c (.v (.int k (k.wrap (a - b))))) := (rfl)
theorem bI_mul {k : IntKind} {a b : Int} : binI .mul k a b F = F (.c (.v (.int k (k.wrap (a * b))))) := (rfl)
theorem bI_quo {k : IntKind} {a b : Int} : binI .quo k a b F = (b ≠ 0 ∧ F (.c (.v (.int k (k.wrap (a.tdiv b)))))) := (rfl)
theorem bI_rem {k : IntKind} {a b : Int} : binI .rem k a b F = (b ≠ 0 ∧ F (.c (.v (.int k (a.tmod b))))) := (rfl)
theorem bI_and {k : IntKind} {a b : Int} : binI .and k a b F = F (.c (.v (.int k (ibit .and k a b)))) := (rfl)
theorem bI_or {k : IntKind} {a b : Int} : binI .or k a b F = F (.c (.v (.int k (ibit .or k a b)))) := (rfl)
theorem bI_xor {k : IntKind} {a b : Int} : binI .xor k a b F = F (.c (.v (.int k (ibit .xor k a b)))) := (rfl)
theorem bI_eql {k : IntKind} {a b : Int} : binI .eql k a b F = F (.c (.v (.bool (decide (a = b))))) := (rfl)
theorem bI_neq {k : IntKind} {a b : Int} : binI .neq k a b F = F (.c (.v (.bool (!decide (a = b))))) := (rfl)
theorem bI_lss {k : IntKind} {a b : Int} : binI .lss k a b F = F (.c (.v (.bool (decide (a < b))))) := (rfl)
theorem bI_leq {k : IntKind} {a b : Int} : binI .leq k a b F = F (.c (.v (.bool (decide (a ≤ b))))) := (rfl)
theorem bI_gtr {k : IntKind} {a b : Int} : binI .gtr k a b F = F (.c (.v (.bool (decide (b < a))))) := (rfl)
theorem bI_geq {k : IntKind} {a b : Int} : binI .geq k a b F = F (.c (.v (.bool (decide (b ≤ a))))) := (rfl)
theorem bI_shl {k : IntKind} {a b : Int} : binI .shl k a b F = (0 ≤ b ∧ F (.c (.v (.int k (k.wrap (a * 2 ^ (min b.toNat k.bits))))))) := (rfl)
theorem bI_shr {k : IntKind} {a b : Int} : binI .shr k a b F = (0 ≤ b ∧ F (.c (.v (.int k (a.fdiv (2 ^ (min b.toNat k.bits))))))) := (rfl)
theorem bS_add {a b : ByteArray} : binS .add a b F = ((a.size + b.size ≤ 9223372036854775807) ∧ F (.c (.v (.string (a ++ b))))) := (rfl)
theorem bS_eql {a b : ByteArray} : binS .eql a b F = F (.c (.v (.bool (decide (a = b))))) := (rfl)
theorem bS_neq {a b : ByteArray} : binS .neq a b F = F (.c (.v (.bool (!decide (a = b))))) := (rfl)
theorem XUn_not {b : Bool} : XUn .not (.c (.v (.bool b))) F = F (.c (.v (.bool (!b)))) := (rfl)
theorem XUn_neg {k : IntKind} {n : Int} : XUn .neg (.c (.v (.int k n))) F = F (.c (.v (.int k (k.wrap (0 - n))))) := (rfl)
theorem XUn_xor {k : IntKind} {n : Int} : XUn .xor (.c (.v (.int k n))) F = F (.c (.v (.int k (ibit .xor k (if k.signed then -1 else k.max) n)))) := (rfl)
theorem XConv_s {hp : List (Nat × Blk)} {q : TK} {t : TypeId} {b i l c : Nat} : XConv P hp q t (.c (.s b i l c)) F = XConS P hp q t b i l F := (rfl)
theorem XConv_n {hp : List (Nat × Blk)} {q : TK} {t : TypeId} {l c : Nat} : XConv P hp q t (.c (.v (.slice none l c))) F = XConN P q t F := (rfl)
theorem XConS_s {hp : List (Nat × Blk)} {e t : TypeId} {b i l : Nat} : XConS P hp (.slc e) t b i l F = ((tint P e = some (some .u8) ∧ tkind P t = some .str) ∧ byB (hget hp b) i l fun l => F (.c (.v (.string (strB l))))) := (rfl)
theorem XConN_s {e t : TypeId} : XConN P (.slc e) t F = ((tint P e = some (some .u8) ∧ tkind P t = some .str) ∧ F (.c (.v (.string .empty)))) := (rfl)
theorem byB_r {G : List Int → Prop} {ty e m c i n : Nat} {r : Nat → List CV} : byB (some (.rows ty e m c r)) i n G = ((e = 1 ∧ i + n ≤ m) ∧ wO (byL r i n) G) := (rfl)
theorem byB_i {G : List Int → Prop} {e m i n : Nat} {r : Nat → List CV} : byB (some (.imm e m r)) i n G = ((e = 1 ∧ i + n ≤ m) ∧ wO (byL r i n) G) := (rfl)
theorem byL_z {r : Nat → List CV} {i : Nat} : byL r i 0 = some [] := (rfl)
theorem byL_s {r : Nat → List CV} {i n : Nat} : byL r i (n + 1) = byC (r i) (byL r (i + 1) n) := (rfl)
theorem byC_s {k : Int} {y : Option (List Int)} : byC [.v (.int .u8 k)] y = y.map (k :: ·) := (rfl)
theorem XConv_i {hp : List (Nat × Blk)} {q : TK} {t : TypeId} {k : IntKind} {n : Int} : XConv P hp q t (.c (.v (.int k n))) F = wO (tint P t) fun k => wO k fun k => F (.c (.v (.int k (k.wrap n)))) := (rfl)
theorem XIxA_a {hp : List (Nat × Blk)} {len e b i f : Nat} {n : Int} : XIxA P hp (.arr len e) (.c (.p b i f)) n F = ((0 ≤ n ∧ n < (len : Int)) ∧ wO (tsz P e) fun es => F (.c (arrP (hget hp b) b i f es n.toNat))) := (rfl)
theorem XIxA_s {hp : List (Nat × Blk)} {len e b i c : Nat} {n : Int} : XIxA P hp (.slc e) (.c (.s b i len c)) n F = ((0 ≤ n ∧ n < (len : Int)) ∧ wO (tsz P e) fun es => eszOf (hget hp b) = some es ∧ F (.c (rowP (hget hp b) b (i + n.toNat)))) := (rfl)
theorem arrP_c {t : TypeId} {cs : List CV} {b i f es idx : Nat} : arrP (some (.cells t cs)) b i f es idx = .p b i (f + idx * es) := (rfl)
theorem arrP_r {t : TypeId} {e m c : Nat} {r : Nat → List CV} {b i f es idx : Nat} : arrP (some (.rows t e m c r)) b i f es idx = if e = es ∧ f = 0 then .p b (i + idx) 0 else .p b i (f + idx * es) := by
  simp only [arrP, natBeq]; by_cases h : e = es <;> by_cases h2 : f = 0 <;> simp [h, h2]
theorem arrP_i {e m : Nat} {r : Nat → List CV} {b i f es idx : Nat} : arrP (some (.imm e m r)) b i f es idx = if e = es ∧ f = 0 then .p b (i + idx) 0 else .p b i (f + idx * es) := by
  simp only [arrP, natBeq]; by_cases h : e = es <;> by_cases h2 : f = 0 <;> simp [h, h2]
theorem eszOf_r {t : TypeId} {e m c : Nat} {r : Nat → List CV} : eszOf (some (.rows t e m c r)) = some e := (rfl)
theorem eszOf_c {t : TypeId} {cs : List CV} : eszOf (some (.cells t cs)) = some 1 := (rfl)
theorem rowP_c {t : TypeId} {cs : List CV} {b i : Nat} : rowP (some (.cells t cs)) b i = .p b 0 i := (rfl)
theorem rowP_r {t : TypeId} {e m c : Nat} {r : Nat → List CV} {b i : Nat} : rowP (some (.rows t e m c r)) b i = .p b i 0 := (rfl)
theorem rowP_i {e m : Nat} {r : Nat → List CV} {b i : Nat} : rowP (some (.imm e m r)) b i = .p b i 0 := (rfl)
theorem arrS_c {t : TypeId} {cs : List CV} {i f es : Nat} {G : Nat → Prop} : arrS (some (.cells t cs)) i f es G = ((es = 1 ∧ i = 0) ∧ G f) := (rfl)
theorem arrS_r {t : TypeId} {e m c : Nat} {r : Nat → List CV} {i f es : Nat} {G : Nat → Prop} : arrS (some (.rows t e m c r)) i f es G = ((e = es ∧ f = 0) ∧ G i) := (rfl)
theorem arrS_i {e m : Nat} {r : Nat → List CV} {i f es : Nat} {G : Nat → Prop} : arrS (some (.imm e m r)) i f es G = ((e = es ∧ f = 0) ∧ G i) := (rfl)
theorem byB_c {G : List Int → Prop} {ty i n : Nat} {cs : List CV} : byB (some (.cells ty cs)) i n G = (i + n ≤ cs.length ∧ wO (byL (fun j => cs[j]?.toList) i n) G) := (rfl)
theorem XSl_arr {hp : List (Nat × Blk)} {e len b i f : Nat} {lo hi : Option Int} : XSl P hp (.arr len e) (.c (.p b i f)) lo hi F = wO (tsz P e) fun es => arrS (hget hp b) i f es fun i0 =>
    (0 ≤ hi.getD len ∧ hi.getD len ≤ (len : Int)) ∧ (0 ≤ lo.getD 0 ∧ lo.getD 0 ≤ hi.getD len) ∧ F (.c (.s b (if len = (lo.getD 0).toNat then i0 else i0 + (lo.getD 0).toNat) ((hi.getD len).toNat - (lo.getD 0).toNat) (len - (lo.getD 0).toNat))) := (rfl)
theorem XBui_cap {x : Operand} {t : TypeId} {ts : List TypeId} : XBui P .cap [x] (t :: ts) st F = wO (tkind P t) fun k => XCap k (st.ev x) F := (rfl)
theorem XCap_s {e b i l c : Nat} : XCap (.slc e) (.c (.s b i l c)) F = F (.c (.v (.int .i64 c))) := (rfl)
theorem XCap_v {e l c : Nat} {a : Option Addr} : XCap (.slc e) (.c (.v (.slice a l c))) F = F (.c (.v (.int .i64 c))) := (rfl)
theorem XCap_congr {k : TK} {x x' : SV} {F : SV → Prop} (h1 : x = x') : XCap k x F = XCap k x' F := by rw [h1]
theorem arrS_congr {b b' : Option Blk} {i i' f f' e e' : Nat} {G : Nat → Prop} (h : b = b') (h1 : i = i') (h2 : f = f') (h3 : e = e') : arrS b i f e G = arrS b' i' f' e' G := by rw [h, h1, h2, h3]
theorem eszOf_i {e m : Nat} {r : Nat → List CV} : eszOf (some (.imm e m r)) = some e := (rfl)
theorem XIx_a {len e : Nat} {cs : List CV} {n : Int} : XIx P (.arr len e) (.agg cs) n F = ((0 ≤ n ∧ n < (len : Int)) ∧ wO (tagg P e) fun ag => wO (tsz P e) fun es => wO (subL cs (n.toNat * es) (bif ag then es else 1)) fun l => F (mkV ag l)) := (rfl)
theorem XIx_s {s : ByteArray} {n : Int} : XIx P .str (.c (.v (.string s))) n F = ((0 ≤ n ∧ n < (s.size : Int)) ∧ F (.c (.v (.int .u8 (bt s n))))) := (rfl)
theorem XSl_str {hp : List (Nat × Blk)} {s : ByteArray} {lo hi : Option Int} : XSl P hp .str (.c (.v (.string s))) lo hi F = ((0 ≤ hi.getD s.size ∧ hi.getD s.size ≤ (s.size : Int)) ∧ (0 ≤ lo.getD 0 ∧ lo.getD 0 ≤ hi.getD s.size) ∧ F (.c (.v (.string (s.extract (lo.getD 0).toNat (hi.getD s.size).toNat))))) := (rfl)
theorem XSl_slc {hp : List (Nat × Blk)} {e b i len cap : Nat} {lo hi : Option Int} : XSl P hp (.slc e) (.c (.s b i len cap)) lo hi F = wO (tsz P e) fun es => eszOf (hget hp b) = some es ∧
    (0 ≤ hi.getD len ∧ hi.getD len ≤ (cap : Int)) ∧ (0 ≤ lo.getD 0 ∧ lo.getD 0 ≤ hi.getD len) ∧ F (.c (.s b (if cap = (lo.getD 0).toNat then i else i + (lo.getD 0).toNat) ((hi.getD len).toNat - (lo.getD 0).toNat) (cap - (lo.getD 0).toNat))) := rfl
theorem XSl_nil {hp : List (Nat × Blk)} {e : Nat} {lo hi : Option Int} : XSl P hp (.slc e) (.c (.v (.slice none 0 0))) lo hi F = wO (tsz P e) fun _ => (0 ≤ hi.getD 0 ∧ hi.getD 0 ≤ (0 : Int)) ∧ (0 ≤ lo.getD 0 ∧ lo.getD 0 ≤ hi.getD 0) ∧ F (.c (.v (.slice none 0 0))) := (rfl)
theorem bnd_n {G : Option Int → Prop} : bnd st none G = G none := (rfl)
theorem bnd_s {x : Operand} {G : Option Int → Prop} : bnd st (some x) G = wI (st.ev x) fun _ n => G (some n) := (rfl)
theorem XLen_str {s : ByteArray} : XLen .str (.c (.v (.string s))) F = F (.c (.v (.int .i64 s.size))) := (rfl)
theorem XLen_s {e b i l c : Nat} : XLen (.slc e) (.c (.s b i l c)) F = F (.c (.v (.int .i64 l))) := (rfl)
theorem XLen_v {e : Nat} {a : Option Addr} {l c : Nat} : XLen (.slc e) (.c (.v (.slice a l c))) F = F (.c (.v (.int .i64 l))) := (rfl)
theorem XLen_a {n e : Nat} {cs : List CV} : XLen (.arr n e) (.agg cs) F = F (.c (.v (.int .i64 n))) := (rfl)
theorem XLen_ac {n e : Nat} {x : CV} : XLen (.arr n e) (.c x) F = F (.c (.v (.int .i64 n))) := (rfl)
theorem XMax_t {k k' : IntKind} {a b : Int} : XMax true (.c (.v (.int k a))) (.c (.v (.int k' b))) F = F (.c (.v (.int k (max a b)))) := (rfl)
theorem XMax_f {k k' : IntKind} {a b : Int} : XMax false (.c (.v (.int k a))) (.c (.v (.int k' b))) F = F (.c (.v (.int k (min a b)))) := (rfl)
theorem XBui_len {x : Operand} {t : TypeId} {ts : List TypeId} : XBui P .len [x] (t :: ts) st F = wO (tkind P t) fun k => XLen k (st.ev x) F := (rfl)
theorem XBui_max {x y : Operand} {ts : List TypeId} : XBui P .max [x, y] ts st F = XMax true (st.ev x) (st.ev y) F := (rfl)
theorem XBui_min {x y : Operand} {ts : List TypeId} : XBui P .min [x, y] ts st F = XMax false (st.ev x) (st.ev y) F := (rfl)
def kOk (F : SV → Prop) (y : SV) : Prop := wOk y F
theorem kOk_s {y : SV} : kOk F y = wOk y F := (rfl)
theorem XExt_t {l : List SV} {k : Nat} : XExt (.tup l) k F = (SV.okL l = true ∧ wO l[k]? (kOk F)) := (rfl)
theorem XFld_a {cs : List CV} {off n : Nat} {ag : Bool} : XFld (.agg cs) off ag n F = wO (subL cs off (bif ag then n else 1)) fun l => F (mkV ag l) := (rfl)
theorem XBld_s {t : TypeId} {zs : List Value} {pl : List (Nat × Nat)} {ps : List (Nat × Operand)} : XBld P t zs (some pl) ps st F = wO (placed pl st ps) fun l => wO (fillX (zs.map .v) l) fun cs => F (.agg cs) := (rfl)
theorem XBld_n {t : TypeId} {zs : List Value} {ps : List (Nat × Operand)} : XBld P t zs none ps st F = wO (tkind P t) fun k => XBldA P k zs ps st F := (rfl)
theorem XBldA_a {n e : Nat} {zs : List Value} {ps : List (Nat × Operand)} : XBldA P (.arr n e) zs ps st F = wO (tsz P e) fun n => wO (fillX (zs.map .v) (placedA n st ps)) fun cs => F (.agg cs) := (rfl)
theorem placed_n {pl : List (Nat × Nat)} : placed pl st [] = some [] := (rfl)
def plc (q : Option (Nat × Nat)) (x : SV) (r : Option (List (Nat × Nat × SV))) : Option (List (Nat × Nat × SV)) := match q with | some (off, n) => r.map ((off, n, x) :: ·) | none => none
theorem placed_c {pl : List (Nat × Nat)} {i : Nat} {x : Operand} {r : List (Nat × Operand)} : placed pl st ((i, x) :: r) = plc pl[i]? (st.ev x) (placed pl st r) := by
  cases h : pl[i]? <;> simp [placed, plc, h]
theorem plc_s {off n : Nat} {x : SV} {l : List (Nat × Nat × SV)} : plc (some (off, n)) x (some l) = some ((off, n, x) :: l) := (rfl)
theorem placedA_n {n : Nat} : placedA n st [] = [] := (rfl)
theorem placedA_c {n i : Nat} {x : Operand} {r : List (Nat × Operand)} : placedA n st ((i, x) :: r) = (i * n, n, st.ev x) :: placedA n st r := (rfl)
theorem fillX_n {zs : List CV} : fillX zs [] = some zs := (rfl)
def fl1 (zs : List CV) (off n : Nat) (l : Option (List CV)) (r : List (Nat × Nat × SV)) : Option (List CV) := match l with | some l => if l.length = n then (spl zs off l).bind fun zs => fillX zs r else none | none => none
theorem fillX_c {zs : List CV} {off n : Nat} {x : SV} {r : List (Nat × Nat × SV)} : fillX zs ((off, n, x) :: r) = fl1 zs off n x.cellsOf r := by
  simp only [fillX, fl1, natBeq]
  split
  · rename_i l h; rw [h]; simp only []; by_cases h : l.length = n <;> simp [h]
  · rename_i h; rw [h]
theorem fl1_s {zs l : List CV} {off n : Nat} {r : List (Nat × Nat × SV)} : fl1 zs off n (some l) r = if l.length = n then (spl zs off l).bind fun zs => fillX zs r else none := (rfl)
theorem XMkF_f {f : FuncId} {c : List Operand} : XMkF (.func f) [] c st F = wO (capCV (st.evL c)) fun l => F (.c (.fn f l)) := (rfl)
theorem cap_n : capCV [] = some [] := (rfl)
theorem cap_c {x : CV} {r : List SV} : capCV (.c x :: r) = (capCV r).map (x :: ·) := (rfl)
theorem gd_n {p q : St → Prop} {fr : List (Nat × SV)} {hp : List (Nat × Blk)} {nx : Nat} : gd all none p q ⟨fr, hp, nx⟩ = p ⟨fr, hp, nx⟩ := (rfl)
def kd (p q u : St → Prop) (st : St) (t : Tmp) : Prop := wG (lk st.fr t) p q u st
theorem kd_s {p q u : St → Prop} {fr : List (Nat × SV)} {hp : List (Nat × Blk)} {nx t : Nat} : kd p q u ⟨fr, hp, nx⟩ t = wG (lk fr t) p q u ⟨fr, hp, nx⟩ := (rfl)
theorem gd_t {j : Nat} {p q : St → Prop} {fr : List (Nat × SV)} {hp : List (Nat × Blk)} {nx : Nat} : gd all (some (j, true)) p q ⟨fr, hp, nx⟩ = wO (gdst all j) (kd p q q ⟨fr, hp, nx⟩) := (rfl)
theorem gd_f {j : Nat} {p q : St → Prop} {fr : List (Nat × SV)} {hp : List (Nat × Blk)} {nx : Nat} : gd all (some (j, false)) p q ⟨fr, hp, nx⟩ = wO (gdst all j) (kd q p q ⟨fr, hp, nx⟩) := (rfl)
theorem gdst_l {l : List Oper} {j : Nat} : gdst l.toArray j = (l[j]?).bind (·.dst) := by simp [gdst]
variable {hS : List (Nat × Blk)} {p : List PS} {last : Nat}
theorem XP_n {fr : List (Nat × SV)} {hp : List (Nat × Blk)} {nx : Nat} : XP P C all last hS [] K ⟨fr, hp, nx⟩ = K ⟨fr, hp, nx⟩ := (rfl)
theorem XP_t {l : List Oper} {i : Nat} {fr : List (Nat × SV)} {hp : List (Nat × Blk)} {nx : Nat} : XP P C l.toArray last hS (.t i :: p) K ⟨fr, hp, nx⟩ = wO l[i]? (XPt P C l.toArray hS (XP P C l.toArray last hS p K) ⟨fr, hp, nx⟩) := by
  simp only [XP, XP1, List.getElem?_toArray]
theorem XP_d {l : List Oper} {i j k : Nat} {p q s r : List PS} {fr : List (Nat × SV)} {hp : List (Nat × Blk)} {nx : Nat} : XP P C l.toArray last hS (.d i p j q k s :: r) K ⟨fr, hp, nx⟩ = (wO l[i]? (XPr P C l.toArray i last hS (XP P C l.toArray last hS p K) ⟨fr, hp, nx⟩) ∧ wO l[j]? (XPr P C l.toArray j last hS (XP P C l.toArray last hS q K) ⟨fr, hp, nx⟩) ∧ wO l[k]? (XPr P C l.toArray k last hS (XP P C l.toArray last hS s K) ⟨fr, hp, nx⟩)) := by
  simp [XP, XP1]
theorem XP_c {l : List Oper} {i j : Nat} {p q r : List PS} {fr : List (Nat × SV)} {hp : List (Nat × Blk)} {nx : Nat} : XP P C l.toArray last hS (.c i p j q :: r) K ⟨fr, hp, nx⟩ = (wO l[i]? (XPr P C l.toArray i last hS (XP P C l.toArray last hS p K) ⟨fr, hp, nx⟩) ∧ wO l[j]? (XPr P C l.toArray j last hS (XP P C l.toArray last hS q K) ⟨fr, hp, nx⟩)) := by
  simp [XP, XP1]
theorem XP_r {l : List Oper} {i : Nat} {fr : List (Nat × SV)} {hp : List (Nat × Blk)} {nx : Nat} : XP P C l.toArray last hS (.r i :: p) K ⟨fr, hp, nx⟩ = wO l[i]? (XPr P C l.toArray i last hS (XP P C l.toArray last hS p K) ⟨fr, hp, nx⟩) := by
  simp only [XP, XP1, List.getElem?_toArray]
theorem XPt_s {op : Op} {fr : List (Nat × SV)} {hp : List (Nat × Blk)} {nx : Nat} : XPt P C all hS K ⟨fr, hp, nx⟩ ⟨d, op, ty, pos, af, g⟩ = (dOk C.N d ∧ isVal op = true ∧ gd all g (kt P hS op d K) (ksk K d) ⟨fr, hp, nx⟩) := (rfl)
theorem XPr_s {op : Op} {i : Nat} {fr : List (Nat × SV)} {hp : List (Nat × Blk)} {nx : Nat} : XPr P C all i last hS K ⟨fr, hp, nx⟩ ⟨d, op, ty, pos, af, g⟩ = (dOk C.N d ∧ gd all g (XOp P C ⟨d, op, ty, pos, af, g⟩ (kact K i last hS)) (ksk K d) ⟨fr, hp, nx⟩) := (rfl)
theorem kt_s {op : Op} {fr : List (Nat × SV)} {hp : List (Nat × Blk)} {nx : Nat} : kt P hS op d K ⟨fr, hp, nx⟩ = XV P op ⟨fr, hS, nx⟩ (kput K ⟨fr, hp, nx⟩ d) := (rfl)
theorem ksk_s {fr : List (Nat × SV)} {hp : List (Nat × Blk)} {nx t : Nat} : ksk K (some t) ⟨fr, hp, nx⟩ = K ⟨(t, .c (.v undef)) :: fr, hp, nx⟩ := (rfl)
theorem ksk_n {fr : List (Nat × SV)} {hp : List (Nat × Blk)} {nx : Nat} : ksk K none ⟨fr, hp, nx⟩ = K ⟨fr, hp, nx⟩ := (rfl)
theorem sameAll_n {hp : List (Nat × Blk)} : sameAll [] hp = True := (rfl)
theorem sameAll_c {n : Nat} {b : Blk} {r hp : List (Nat × Blk)} : sameAll ((n, b) :: r) hp = (hget hp n = some b ∧ sameAll r hp) := (rfl)
theorem isVal_move {x : Operand} : isVal (.move x) = true := (rfl)
theorem isVal_assign {x : Operand} : isVal (.assign x) = true := (rfl)
theorem isVal_pick {a b c : Operand} : isVal (.pick a b c) = true := (rfl)
theorem isVal_s2a {t : TypeId} {x : Operand} : isVal (.sliceToArrayPointer t x) = true := (rfl)
theorem isVal_nil {x : Operand} : isVal (.nilCheck x) = true := (rfl)
theorem isVal_load {t : TypeId} {x : Operand} : isVal (.load t x) = true := (rfl)
theorem isVal_bin {op : BinOp} {t u : TypeId} {x y : Operand} : isVal (.binOp op t x y u) = true := (rfl)
theorem isVal_un {op : UnOp} {t : TypeId} {x : Operand} : isVal (.unOp op t x) = true := (rfl)
theorem isVal_conv {s t : TypeId} {x : Operand} : isVal (.convert s t x) = true := (rfl)
theorem isVal_fa {s : TypeId} {x : Operand} {k : Nat} : isVal (.fieldAddr s x k) = true := (rfl)
theorem isVal_fld {s : TypeId} {x : Operand} {k : Nat} : isVal (.field s x k) = true := (rfl)
theorem isVal_ia {t : TypeId} {x y : Operand} : isVal (.indexAddr t x y) = true := (rfl)
theorem isVal_ix {t : TypeId} {x y : Operand} : isVal (.index t x y) = true := (rfl)
theorem isVal_ext {x : Operand} {k : Nat} : isVal (.extract x k) = true := (rfl)
theorem isVal_bld {t : TypeId} {ps : Array (Nat × Operand)} : isVal (.build t ps) = true := (rfl)
theorem isVal_mk {f : Fn} {a b : Array Operand} : isVal (.makeFunc f a b) = true := (rfl)
theorem isVal_sl {t : TypeId} {x : Operand} {a b c : Option Operand} : isVal (.slice t x a b c) = true := (rfl)
theorem isVal_len {a : Array Operand} {t : Array TypeId} : isVal (.call { callee := .builtin .len, args := a, argTypes := t }) = true := (rfl)
theorem isVal_cap {a : Array Operand} {t : Array TypeId} : isVal (.call { callee := .builtin .cap, args := a, argTypes := t }) = true := (rfl)
theorem isVal_max {a : Array Operand} {t : Array TypeId} : isVal (.call { callee := .builtin .max, args := a, argTypes := t }) = true := (rfl)
theorem isVal_min {a : Array Operand} {t : Array TypeId} : isVal (.call { callee := .builtin .min, args := a, argTypes := t }) = true := (rfl)
theorem kput_s {fr : List (Nat × SV)} {hp : List (Nat × Blk)} {nx t : Nat} {x : SV} : kput K ⟨fr, hp, nx⟩ (some t) x = K ⟨(t, x) :: fr, hp, nx⟩ := (rfl)
theorem kput_n {x : SV} : kput K st none x = K st := (rfl)
theorem kact_s {fr : List (Nat × SV)} {hp : List (Nat × Blk)} {nx i : Nat} : kact K i last hS ⟨fr, hp, nx⟩ = ((if i = last then True else sameAll hS hp) ∧ K ⟨fr, hp, nx⟩) := (rfl)
theorem wrap_i64 (n : Int) (h1 : -9223372036854775808 ≤ n) (h2 : n ≤ 9223372036854775807) : IntKind.i64.wrap n = n := by simp [IntKind.wrap, IntKind.bits, IntKind.signed]; omega
theorem wrap_u64 (n : Int) (h1 : 0 ≤ n) (h2 : n ≤ 18446744073709551615) : IntKind.u64.wrap n = n := by simp [IntKind.wrap, IntKind.bits, IntKind.signed]; omega
theorem wrap_u32 (n : Int) (h1 : 0 ≤ n) (h2 : n ≤ 4294967295) : IntKind.u32.wrap n = n := by simp [IntKind.wrap, IntKind.bits, IntKind.signed]; omega
theorem wrap_u8 (n : Int) (h1 : 0 ≤ n) (h2 : n ≤ 255) : IntKind.u8.wrap n = n := by simp [IntKind.wrap, IntKind.bits, IntKind.signed]; omega
theorem cond_t {α : Type _} {a b : α} : (bif true then a else b) = a := (rfl)
theorem cond_f {α : Type _} {a b : α} : (bif false then a else b) = b := (rfl)
theorem frOf_n {n : Nat} : frOf n [] = [] := (rfl)
theorem frOf_c {n : Nat} {x : SV} {r : List SV} : frOf n (x :: r) = (n, x) :: frOf (n + 1) r := (rfl)
end x
end
attribute [go_sem] XP_c XP_d XConv_s XConv_n XConS_s XConN_s byB_r byB_i byL_z byL_s byC_s allocB_n allocB_s inQ_r inQ_n kin1_s XBi_add XBi_sub XBi_mul XBi_quo XBi_rem XBi_and XBi_or XBi_xor XBi_andNot XBi_eql XBi_neq XBi_lss XBi_leq XBi_gtr XBi_geq XBi_shl XBi_shr br_true br_false pk_true pk_false lk_cons hget_cons hset_cons put_some put_none ev_tmp ev_const ev_func ev_global evL_nil evL_cons X_skip X_seq X_cond X_block X_ret X_exit X_reg X_draw X_loop X_rf X_scope X_label X_goto seqQ_n seqQ_r seqQ_e blockQ_n blockQ_r blockQ_e retQ_r retQ_n XResL_nil XResL_cons XRes1_tmp XRes1_cell tupSV_1 tupSV_0 tupSV_2 XL_nil XL_none XL_t XL_f kg_t kg_f gOn_s gOff_s gOff_n dOk_s dOk_n wO_s wO_n wP_p wI_i wB_b wG_b wG_u gSk_s gSk_n wPk_b wOk_c wOk_a wOk_t okL_n okL_c ok_c ok_a ok_t rdB_c rdB_r rdB_i wrB_c wrB_r subL_0 subL_s takeN_0 takeN_s spl_0 spl_c spl_s mkV_t mkV_f rupd_same rupd_ne rowsOf_eq cO_a cO_p cO_s cO_f cO_i cO_b cO_st cO_pt cO_sl cO_m cO_ch cO_va cO_ni cO_nf one_p one_s one_f one_i one_b one_st one_pt one_sl one_m one_ch one_ni one_nf XV_move XV_assign XV_pick XV_nil XV_load XV_bin XV_un XV_conv XV_fa XV_fld XV_ia XV_ix XV_ext XV_bld XV_mk XV_sl XV_bui XOp_move XOp_assign XOp_pick XOp_nil XOp_load XOp_bin XOp_un XOp_conv XOp_fa XOp_fld XOp_ia XOp_ix XOp_ext XOp_bld XOp_mk XOp_sl XOp_len XOp_max XOp_min XOp_alloc XOp_box XOp_bs XBs_s XOp_store XOp_call XCall_fn XCall_v XOp_append XNil_p XNil_f XNil_v XNil_g XBin_s XBin_b XBin_p XBin_pv XBin_sl XBin_slv XBin_m XBin_a eqL_n eqL_i eqL_b eqL_s neg_e neg_n bI_add bI_sub bI_mul bI_quo bI_rem bI_and bI_or bI_xor bI_eql bI_neq bI_lss bI_leq bI_gtr bI_geq bI_shl bI_shr bS_add bS_eql bS_neq XUn_not XUn_neg XUn_xor XConv_i XIxA_a XIxA_s arrP_c arrP_r arrP_i eszOf_r eszOf_i XIx_a XIx_s XSl_str XSl_slc XSl_nil bnd_n bnd_s XLen_str XLen_s XLen_v XLen_a XLen_ac XMax_t XMax_f XBui_len XBui_max XBui_min kOk_s XExt_t XFld_a XBld_s XBld_n XBldA_a placed_n placed_c plc_s placedA_n placedA_c fillX_n fillX_c fl1_s XMkF_f cap_n cap_c gd_n kd_s gd_t gd_f gdst_l XP_n XP_t XP_r XPt_s XPr_s kt_s ksk_s ksk_n sameAll_n sameAll_c isVal_move isVal_assign isVal_pick isVal_nil isVal_load isVal_bin isVal_un isVal_conv isVal_fa isVal_fld isVal_ia isVal_ix isVal_ext isVal_bld isVal_mk isVal_sl isVal_len isVal_max isVal_min kput_s kput_n kact_s frOf_n frOf_c
attribute [go_sem ↓] XP_c XP_d XConv_s XConv_n XConS_s XConN_s byB_r byB_i byL_z byL_s allocB_n allocB_s inQ_r inQ_n kin1_s XBi_add XBi_sub XBi_mul XBi_quo XBi_rem XBi_and XBi_or XBi_xor XBi_andNot XBi_eql XBi_neq XBi_lss XBi_leq XBi_gtr XBi_geq XBi_shl XBi_shr br_true br_false pk_true pk_false lk_cons hget_cons hset_cons put_some put_none ev_tmp ev_const ev_func ev_global evL_nil evL_cons X_skip X_seq X_cond X_block X_ret X_exit X_reg X_draw X_loop X_rf X_scope X_label X_goto seqQ_n seqQ_r seqQ_e blockQ_n blockQ_r blockQ_e retQ_r retQ_n XResL_nil XResL_cons XRes1_tmp XRes1_cell tupSV_1 tupSV_0 tupSV_2 XL_nil XL_none XL_t XL_f kg_t kg_f gOn_s gOff_s gOff_n dOk_s dOk_n wO_s wO_n wP_p wI_i wB_b wG_b wG_u gSk_s gSk_n wPk_b wOk_c wOk_a wOk_t okL_n okL_c ok_c ok_a ok_t rdB_c rdB_r rdB_i wrB_c wrB_r subL_0 subL_s takeN_0 takeN_s spl_0 spl_c spl_s mkV_t mkV_f rupd_same rupd_ne rowsOf_eq cO_a cO_p cO_s cO_f cO_i cO_b cO_st cO_pt cO_sl cO_m cO_ch cO_va cO_ni cO_nf one_p one_s one_f one_i one_b one_st one_pt one_sl one_m one_ch one_ni one_nf XV_move XV_assign XV_pick XV_nil XV_load XV_bin XV_un XV_conv XV_fa XV_fld XV_ia XV_ix XV_ext XV_bld XV_mk XV_sl XV_bui XOp_move XOp_assign XOp_pick XOp_nil XOp_load XOp_bin XOp_un XOp_conv XOp_fa XOp_fld XOp_ia XOp_ix XOp_ext XOp_bld XOp_mk XOp_sl XOp_len XOp_max XOp_min XOp_alloc XOp_box XOp_bs XBs_s XOp_store XOp_call XCall_fn XCall_v XOp_append XNil_p XNil_f XNil_v XNil_g XBin_s XBin_b XBin_p XBin_pv XBin_sl XBin_slv XBin_m XBin_a eqL_n eqL_i eqL_b eqL_s neg_e neg_n bI_add bI_sub bI_mul bI_quo bI_rem bI_and bI_or bI_xor bI_eql bI_neq bI_lss bI_leq bI_gtr bI_geq bI_shl bI_shr bS_add bS_eql bS_neq XUn_not XUn_neg XUn_xor XConv_i XIxA_a XIxA_s arrP_c arrP_r arrP_i eszOf_r eszOf_i XIx_a XIx_s XSl_str XSl_slc XSl_nil bnd_n bnd_s XLen_str XLen_s XLen_v XLen_a XLen_ac XMax_t XMax_f XBui_len XBui_max XBui_min kOk_s XExt_t XFld_a XBld_s XBld_n XBldA_a placed_n placed_c plc_s placedA_n placedA_c fillX_n fillX_c fl1_s XMkF_f cap_n cap_c gd_n kd_s gd_t gd_f gdst_l XP_n XP_t XP_r XPt_s XPr_s kt_s ksk_s ksk_n sameAll_n sameAll_c isVal_move isVal_assign isVal_pick isVal_nil isVal_load isVal_bin isVal_un isVal_conv isVal_fa isVal_fld isVal_ia isVal_ix isVal_ext isVal_bld isVal_mk isVal_sl isVal_len isVal_max isVal_min kput_s kput_n kact_s frOf_n frOf_c
attribute [go_sem] wrap_i64 wrap_u64 wrap_u32 wrap_u8 cond_t cond_f Option.map_some Option.map_none Option.bind_some Option.bind_none true_and and_true List.map_cons List.map_nil List.nil_append List.cons_append List.append_nil List.length_cons List.length_nil List.all_cons List.all_nil Bool.and_true Bool.true_and List.getElem?_cons_zero List.getElem?_cons_succ Option.getD_some Option.getD_none List.take_succ_cons List.take_zero List.drop_succ_cons List.drop_zero List.replicate_succ List.replicate_zero List.flatten_cons List.flatten_nil Bool.false_xor Bool.true_xor Bool.not_true Bool.not_false
attribute [go_sem] eszOf_c rowP_c rowP_r rowP_i arrS_c arrS_r arrS_i byB_c XSl_arr isVal_cap XOp_cap XOp_copy XOp_clear XBui_cap XCap_s XCap_v Option.toList_some Option.toList_none
attribute [go_sem] XCv_t XCv_i XCv_n XCv_s XV_s2a XS2A_s XOp_s2a isVal_s2a
attribute [go_sem ↓] XCv_t XCv_i XCv_n XCv_s XV_s2a XS2A_s XOp_s2a isVal_s2a
attribute [congr] XS2A_congr XCv_congr XCap_congr arrS_congr XConS_congr byB_congr XBs_congr allocB_congr
end Go.Sx
