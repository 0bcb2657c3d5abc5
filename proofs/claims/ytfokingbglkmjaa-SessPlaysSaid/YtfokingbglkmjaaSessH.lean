/-
  Calls on the document's table in a walk; a list of writes turned. Conditions: none.
-/
import Derived.Test.YtfokingbglkmjaaSessG
import Derived.Test.YtfokingbglkmjaaSx19
namespace Go.Proofs.Ytfokingbglkmjaa
open Go.RowKit Go.Sx
set_option linter.unusedVariables false
set_option linter.unusedSimpArgs false
section
variable {C : Cx} {fr : List (Nat × SV)} {hp : List (Nat × Blk)} {nx : Nat}

theorem rtab_call {f : FuncId} {args : List SV} {d : Option Tmp} {K : St → Prop} (n : Nat) {g : Nat} {U U' : Nat → RO} {S : Nat → Option (Nat × Nat)} {v : Value} (vs : List Value) (x : SV)
    (hc : ∀ (v : Array Value) w, (callFunc f v).run Try.prog w = .ok (.enter f v) w) (hcall : ∀ w, RTab g U S w → Calls Try.prog f vs.toArray w (RTurn g S v U' w))
    (hg : hget hp n = some (.pred (fpR g S) (RTab g U S))) (hok : SV.okL args = true) (hv : ∀ ρ, SV.denL ρ args = vs) (hx : ∀ ρ, v = x.den ρ) (hd : dkB C.N d = true) (hK : ∀ S', kput K ⟨fr, hset hp n (.pred (fpR g S') (RTab g U' S')), nx⟩ d x) :
    SCall Try.prog C f args d K ⟨fr, hp, nx⟩ := by
  refine ⟨hok, fun ρ w a hs _ => ⟨fun v w => hc _ w, ?_⟩⟩
  rw [hv ρ]
  exact (hcall w (hs.now.hp _ _ (mem_hget hg)).1).mono fun e w' ⟨S', he, hR, hch⟩ => ⟨_, he, _, ρ, hK S', (hs.pred hg hch hR RTab.stable).put (dk_of hd) fun _ ρ' _ => hx ρ', (by cases d <;> simp [St.put]), fun _ _ => rfl⟩
theorem rtab_callk {f : FuncId} {args : List SV} {d : Option Tmp} {K : St → Prop} (n : Nat) {g : Nat} {U : Nat → RO} {S : Nat → Option (Nat × Nat)} {v : Value} (vs : List Value) (x : SV)
    (hc : ∀ (v : Array Value) w, (callFunc f v).run Try.prog w = .ok (.enter f v) w) (hcall : ∀ w, RTab g U S w → Calls Try.prog f vs.toArray w (RKeep g U S v w))
    (hg : hget hp n = some (.pred (fpR g S) (RTab g U S))) (hok : SV.okL args = true) (hv : ∀ ρ, SV.denL ρ args = vs) (hx : ∀ ρ, v = x.den ρ) (hd : dkB C.N d = true) (hK : kput K ⟨fr, hset hp n (.pred (fpR g S) (RTab g U S)), nx⟩ d x) :
    SCall Try.prog C f args d K ⟨fr, hp, nx⟩ := by
  refine ⟨hok, fun ρ w a hs _ => ⟨fun v w => hc _ w, ?_⟩⟩
  rw [hv ρ]
  exact (hcall w (hs.now.hp _ _ (mem_hget hg)).1).mono fun e w' ⟨he, hR, hch⟩ => ⟨_, he, _, ρ, hK, (hs.pred hg hch hR RTab.stable).put (dk_of hd) fun _ ρ' _ => hx ρ', (by cases d <;> simp [St.put]), fun _ _ => rfl⟩
theorem imm_of_rows {ρ : Env} {w : World} {n ty e m c : Nat} {r : Nat → List CV} {rv : Nat → List Value} (h : (Blk.rows ty e m c r).holds C ρ n w) (hr : ∀ i, i < m → r i = (rv i).map .v) : ImmAt w (ρ n).blk (ρ n).base e m rv := by
  obtain ⟨h1, h2, ⟨arr, h3, h4, h5⟩, h6⟩ := h
  refine ⟨fun _ => lt_of_heap h3, fun i hi => ?_, fun i hi u hu => ?_⟩
  · have := (h5 i hi).1
    rw [hr i hi] at this; simpa using this
  · have := (h5 i hi).2 u hu
    rw [hr i hi, ← List.getElem?_map, map_v] at this
    simp only [World.cell?, h3, h1, Nat.zero_add]
    rw [← this]; simp
theorem rfw_0 {d : Option Tmp} {K : St → Prop} (h : dOk C.N d ∧ kput K ⟨fr, hp, nx⟩ d (.c (.v (.slice none 0 0)))) : SCall Try.prog C 27 [.c (.v (.slice none 0 0))] d K ⟨fr, hp, nx⟩ := by
  refine scall_pure [.slice none 0 0] (.c (.v (.slice none 0 0))) (.slice none 0 0) Try.call27 (fun w => ?_) rfl (fun _ => rfl) (fun _ => rfl) h
  refine (rfw_c w (b0 := 0) (o0 := 0) (r0 := fun _ => []) (x0 := .v (.slice none 0 0)) [] ⟨fun h => by simp at h, fun i hi => by simp at hi, fun i hi => by simp at hi⟩ (.inl ⟨rfl, rfl⟩) (fun _ _ => rfl) (fun i hi => by simp at hi) (by simp)).mono fun e w' ⟨s, h1, h2, h3, _⟩ => ⟨?_, h3⟩
  rcases s with _ | ⟨b, c⟩
  · exact h1
  · exact absurd h2.1.2 (by simp)
theorem rfw_s {d : Option Tmp} {K : St → Prop} (q : Nat) {ws : List Wr} {cq cs : Nat} {rr : Nat → List CV} (hg : hget hp q = some (.rows 41 4 ws.length cq rr)) (hr : ∀ i, i < ws.length → rr i = (wrow ws i).map .v) (hl : 0 < ws.length ∧ ws.length ≤ 100) (hd : dkB C.N d = true)
    (hK : ∀ c', ws.length ≤ c' → kput K ⟨fr, (nx, .rows 56 4 ws.length c' fun j => (wrow ws j).map .v) :: hp, nx + 1⟩ d (.c (.s nx 0 ws.length c'))) : SCall Try.prog C 27 [.c (.s q 0 ws.length cs)] d K ⟨fr, hp, nx⟩ := by
  refine ⟨rfl, fun ρ w a hs _ => ⟨fun v w => Try.call27 _ w, ?_⟩⟩
  have h0 := hs.now.hp _ _ (mem_hget hg)
  have hb0 := h0.1
  have he4 := h0.2.1
  have e0 : (SV.denL ρ [SV.c (CV.s q 0 ws.length cs)]).toArray = #[.slice (some ⟨(ρ q).blk, (ρ q).base, none⟩) ws.length cs] := by simp [SV.denL, SV.den, CV.den]
  rw [e0]
  refine (rfw_c w (x0 := .s 0 0 ws.length cs) ws (imm_of_rows h0 hr) (.inr ⟨cs, rfl⟩) (v0 := .slice (some ⟨(ρ q).blk, (ρ q).base, none⟩) ws.length cs) (fun ρ' h => by simp [CV.den, h]) (fun _ _ => rfl) hl.2).mono fun e w' ⟨s, he, hw, hb, hf⟩ => ⟨_, he, ?_⟩
  have hs' := hs.below hb
  rcases s with _ | ⟨b, c⟩
  · have hws : ws = [] := hw
    rw [hws] at hl; exact absurd hl.1 (by simp)
  · have hlt := hf b c rfl
    have h1 := hs'.add (.rows 56 4 ws.length c fun j => (wrow ws j).map .v) ⟨b, 0, 4⟩ [b] (fun ρ' hρ hn => hw.2.holds hn (.inl (Nat.le_trans hs.now.keeps.size hlt)) fun i _ => map_v _ _)
      (fun ρ' hn => by simp [Blk.foot, hn]) (fun k hk hm => by
        have := (hs.now.foot_lt hm).1
        simp at hk; omega) (by simp)
    refine ⟨_, _, hK c hw.1.1, h1.put (dk_of hd) fun _ ρ' hρ' => ?_, by cases d <;> simp [St.put], fun k hk => by simp [envSet, Nat.ne_of_lt hk]⟩
    have := hρ' nx (by simp)
    simp [envSet] at this
    simp [slv, SV.den, CV.den, this]
theorem neqF {a b : Nat} (h : a ≠ b) : (a = b) = False := eq_false h

/-- A deed. -/
structure Dd where
  kind : Int
  id : Int
  v : V4
  vo : Bool
  x : Wr
  xo : Bool
  k : Nat
  near : Bool
def Dd.row (d : Dd) : List CV := [.v (.int .u8 d.kind), .v (.int .i64 d.id), cu d.v.a, cu d.v.b, cu d.v.c, cu d.v.d, .v (.bool d.vo), .v (.string d.x.b), .v (.string d.x.k), .v (.string d.x.x), .v (.bool d.x.g), .v (.bool d.xo), .v (.int .u8 d.k), .v (.bool d.near)]
theorem fok_i {k : IntKind} {ks : List FK} {l : List Value} (h : FOk (.i k :: ks) l) : ∃ n r, l = .int k n :: r ∧ (Lit.int k n).wf = true ∧ FOk ks r := by
  cases l with
  | nil => exact h.elim
  | cons v r => obtain ⟨⟨n, rfl, hw⟩, h2⟩ := h; exact ⟨n, r, rfl, hw, h2⟩
theorem fok_b {ks : List FK} {l : List Value} (h : FOk (.b :: ks) l) : ∃ n r, l = .bool n :: r ∧ FOk ks r := by
  cases l with
  | nil => exact h.elim
  | cons v r => obtain ⟨⟨n, rfl⟩, h2⟩ := h; exact ⟨n, r, rfl, h2⟩
theorem fok_s {ks : List FK} {l : List Value} (h : FOk (.s :: ks) l) : ∃ n r, l = .string n :: r ∧ n.size ≤ maxLen ∧ FOk ks r := by
  cases l with
  | nil => exact h.elim
  | cons v r => obtain ⟨⟨n, rfl, hs⟩, h2⟩ := h; exact ⟨n, r, rfl, hs, h2⟩
theorem fok_n {l : List Value} (h : FOk [] l) : l = [] := by
  cases l with
  | nil => rfl
  | cons v r => exact h.elim
theorem row_deed {l : List Value} (h : FOk [.i .u8, .i .i64, .i .u64, .i .u64, .i .u64, .i .u64, .b, .s, .s, .s, .b, .b, .i .u8, .b] l) : ∃ d : Dd, (0 ≤ d.kind ∧ d.k < 256) ∧ l.map CV.v = d.row := by
  obtain ⟨q, l1, rfl, hq, h1⟩ := fok_i h
  obtain ⟨i, l2, rfl, _, h2⟩ := fok_i h1
  obtain ⟨v0, l3, rfl, _, h3⟩ := fok_i h2
  obtain ⟨v1, l4, rfl, _, h4⟩ := fok_i h3
  obtain ⟨v2, l5, rfl, _, h5⟩ := fok_i h4
  obtain ⟨v3, l6, rfl, _, h6⟩ := fok_i h5
  obtain ⟨vo, l7, rfl, h7⟩ := fok_b h6
  obtain ⟨b, l8, rfl, _, h8⟩ := fok_s h7
  obtain ⟨k, l9, rfl, _, h9⟩ := fok_s h8
  obtain ⟨x, l10, rfl, _, h10⟩ := fok_s h9
  obtain ⟨g, l11, rfl, h11⟩ := fok_b h10
  obtain ⟨o, l12, rfl, h12⟩ := fok_b h11
  obtain ⟨n, l13, rfl, hw, h13⟩ := fok_i h12
  obtain ⟨e, l14, rfl, h14⟩ := fok_b h13
  obtain rfl := fok_n h14
  obtain ⟨m, hm, rfl⟩ := u8_of hw
  obtain ⟨m2, hm2, rfl⟩ := u8_of hq
  exact ⟨⟨m2, i, ⟨v0, v1, v2, v3⟩, vo, ⟨b, k, x, g⟩, o, m, e⟩, ⟨by show (0 : Int) ≤ m2; omega, hm⟩, rfl⟩
def Dd.id' (d : Dd) : Int := bif d.near then d.id.tmod 4 else d.id
end
end Go.Proofs.Ytfokingbglkmjaa
