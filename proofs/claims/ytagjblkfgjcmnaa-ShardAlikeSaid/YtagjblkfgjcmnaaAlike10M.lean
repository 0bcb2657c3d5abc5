/-
  Transactions applied in whatever order: plain; a law's transactions kept beside it. Conditions: none.
-/
import Derived.Test.YtagjblkfgjcmnaaM13
namespace Go.Proofs.Ytagjblkfgjcmnaa
open Go.RowKit Go.Sx CW
set_option linter.unusedVariables false
set_option linter.unusedSimpArgs false
def updA (ap : V4) (st : Stp) : V4 := ap.wth st.dc (max st.n (ap.at st.dc))
theorem updA_comm (ap : V4) (s t : Stp) : updA (updA ap s) t = updA (updA ap t) s := by
  obtain ⟨a, b, c, d⟩ := ap
  unfold updA
  generalize s.n = x
  generalize t.n = y
  generalize s.dc = p
  generalize t.dc = q
  unfold V4.wth V4.at
  by_cases p1 : p = 1 <;> by_cases p2 : p = 2 <;> by_cases p3 : p = 3 <;> by_cases p4 : p = 4 <;> by_cases q1 : q = 1 <;> by_cases q2 : q = 2 <;> by_cases q3 : q = 3 <;> by_cases q4 : q = 4 <;>
    first | (exfalso; omega) | simp [p1, p2, p3, p4, q1, q2, q3, q4] <;> omega
def addT (l : List CW.Ver) (x : BatA) : List CW.Ver := x.ws.foldl (addV x.st) l
/-- Transactions that are whole, each of its own stamp. -/
structure Txs (its : List BatA) : Prop where
  right : ∀ x, x ∈ its → x.st.right = true
  nd : ∀ x, x ∈ its → (x.ws.map wkey).Nodup
  ws : ∀ x, x ∈ its → ∀ y, y ∈ x.ws → y.right = true
  len : ∀ x, x ∈ its → 0 < x.ws.length ∧ x.ws.length ≤ 8
  dif : its.Pairwise fun x y => x.st ≠ y.st
theorem Txs.rev {its : List BatA} (h : Txs its) : Txs its.reverse :=
  ⟨fun x hx => h.right x (List.mem_reverse.1 hx), fun x hx => h.nd x (List.mem_reverse.1 hx), fun x hx => h.ws x (List.mem_reverse.1 hx), fun x hx => h.len x (List.mem_reverse.1 hx), List.pairwise_reverse.2 (h.dif.imp fun h => Ne.symm h)⟩
abbrev allV (its : List BatA) : List CW.Ver := its.flatMap fun x => x.ws.map (vof x.st)
theorem fold_more {st : Stp} (hst : st.right = true) {L : List CW.Ver} (hL : WfL L) (hno : ∀ v, v ∈ L → v.st ≠ st) : ∀ (ws pre : List Wr), ((pre ++ ws).map wkey).Nodup → ws.foldl (addV st) (L ++ pre.map (vof st)) = L ++ (pre ++ ws).map (vof st)
  | [], pre, _ => by simp
  | x :: r, pre, hn => by
    have hn' : (pre.map wkey).Nodup := by rw [List.map_append] at hn; exact (List.nodup_append.1 hn).1
    have hw : WfL (L ++ pre.map (vof st)) := by
      have h1 := wf_map hst hn'
      refine ⟨List.pairwise_append.2 ⟨hL.1, h1.1, fun a ha b hb he => ?_⟩, fun v hv => (List.mem_append.1 hv).elim (hL.2 v) (h1.2 v)⟩
      obtain ⟨y, _, rfl⟩ := List.mem_map.1 hb
      exact hno a ha he.2
    have h1 : addV st (L ++ pre.map (vof st)) x = L ++ (pre ++ [x]).map (vof st) := by
      unfold addV
      have : insB (chn (L ++ pre.map (vof st)) x.kk) st = true := by
        rw [insB_of hw, hst]
        simp only [Bool.true_and, Bool.not_eq_true', List.any_eq_false]
        intro v hv he
        have he := of_decide_eq_true he
        rcases List.mem_append.1 hv with hv | hv
        · exact hno v hv he.2
        · obtain ⟨y, hy, rfl⟩ := List.mem_map.1 hv
          rw [List.map_append, List.map_cons, List.nodup_append] at hn
          exact hn.2.2 (wkey y) (List.mem_map.2 ⟨y, hy, rfl⟩) (wkey x) (by simp) he.1
      rw [this, if_pos rfl]; simp
    have := fold_more hst hL hno r (pre ++ [x]) (by simpa using hn)
    rw [List.foldl_cons, h1, this]; simp
theorem fold_txs : ∀ (its pre : List BatA), Txs (pre ++ its) → WfL (allV pre) → its.foldl addT (allV pre) = allV (pre ++ its) ∧ WfL (allV (pre ++ its))
  | [], pre, h, hw => by simp [hw]
  | x :: r, pre, h, hw => by
    have hx : x ∈ pre ++ x :: r := by simp
    have hno : ∀ v, v ∈ allV pre → v.st ≠ x.st := fun v hv => by
      obtain ⟨y, hy, hv⟩ := List.mem_flatMap.1 hv
      obtain ⟨z, _, rfl⟩ := List.mem_map.1 hv
      exact (List.pairwise_append.1 h.dif).2.2 y hy x (by simp)
    have h1 := fold_more (h.right x hx) hw hno x.ws [] (by simpa using h.nd x hx)
    have h2 : addT (allV pre) x = allV (pre ++ [x]) := by
      unfold addT
      simpa using h1
    have hw2 : WfL (allV (pre ++ [x])) := by
      rw [← h2]
      unfold addT
      generalize x.ws = m
      have : ∀ (m : List Wr) (l : List CW.Ver), WfL l → WfL (m.foldl (addV x.st) l) := fun m => by
        induction m with
        | nil => intro l h; exact h
        | cons y m ih => intro l h; exact ih _ (h.add _ _)
      exact this m _ hw
    have := fold_txs r (pre ++ [x]) (by simpa using h) hw2
    rw [List.foldl_cons, h2]
    simpa using this
theorem txs_fold {its : List BatA} (h : Txs its) : its.foldl addT [] = allV its ∧ WfL (allV its) := fold_txs its [] (by simpa using h) WfL.nil
theorem rev_same {its : List BatA} (h : Txs its) (k : Ky) : chn (allV its.reverse) k = chn (allV its) k ∧ (allV its.reverse).length = (allV its).length := by
  have hp : (allV its.reverse).Perm (allV its) := List.Perm.flatMap_right _ (List.reverse_perm its)
  refine ⟨srt_ext (chn_srt _ _) (chn_srt _ _) fun v => ?_, hp.length_eq⟩
  rw [mem_chn (txs_fold h.rev).2, mem_chn (txs_fold h).2, hp.mem_iff]
theorem rev_ap (its : List BatA) (ap : V4) : its.reverse.foldl (fun a x => updA a x.st) ap = its.foldl (fun a x => updA a x.st) ap :=
  List.Perm.foldl_eq' (List.reverse_perm its) (fun x _ y _ z => updA_comm z x.st y.st) ap
theorem allV_len (its : List BatA) (h : ∀ x, x ∈ its → x.ws.length ≤ 8) : (allV its).length ≤ its.length * 8 := by
  induction its with
  | nil => simp
  | cons x r ih =>
    have h1 := h x (by simp)
    have h2 := ih fun y hy => h y (by simp [hy])
    rw [show allV (x :: r) = x.ws.map (vof x.st) ++ allV r from List.flatMap_cons .., List.length_append, List.length_map, List.length_cons]
    omega
section
variable {C : Cx} {fr : List (Nat × SV)} {hp : List (Nat × Blk)} {nx : Nat} {d : Option Tmp} {K : St → Prop}
/-- Nothing, to be laid where many shall lie. -/
theorem scode_none {α : Type} {R : α → List Nat → World → Prop} {P : Program} {c : Code} {Q : Exit → St → Prop} (h : SCode P C c Q ⟨fr, (nx, .pred [] (All R [] [])) :: hp, nx + 1⟩) : SCode P C c Q ⟨fr, hp, nx⟩ := fun ρ a w hs => by
  have h1 := hs.addNone (R := R)
  refine Code.wp_mono (QQ_to fun k hk => ?_) (h _ a w h1)
  have := hs.now.n0le
  simp only at this
  simp [envSet, Nat.ne_of_lt (Nat.lt_of_lt_of_le hk this)]
/-- A deal, kept beside others. -/
theorem deal_own (n : Nat) (lab : Stp) (m : Stp) (mo : Bool) (s : SlD) {its : List BatA} {fp : List Nat} (hs : s.ok C.w0 putK) (hM : ∀ k, ¬ C.M k) (hg : hget hp n = some (.pred fp (All BatR its fp))) (hd : dkB C.N d = true)
    (hK : ∀ ws b c fp', DealP true ws → kput K ⟨fr, hset hp n (.pred fp' (All BatR (its ++ [⟨lab, ws, b, c⟩]) fp')), nx⟩ d (.agg [cu (mk m true).v.a, cu (mk m true).v.b, cu (mk m true).v.c, cu (mk m true).v.d, ci (mk m true).dc, .v (.slice (some ⟨b, 0, none⟩) ws.length c)])) :
    SCall Try.prog C 11 [.agg [cu m.v.a, cu m.v.b, cu m.v.c, cu m.v.d, ci m.dc, .v (.bool mo), .v s.val, .v (.bool true)]] d K ⟨fr, hp, nx⟩ := by
  refine ⟨rfl, fun ρ w a hsat _ => .inl ⟨fun v w => Try.call11 _ w, ?_⟩⟩
  have hkeep := hsat.now.keeps
  have hs' := sld_keep hs hkeep.size fun k hk => hkeep.block k hk (hM k)
  obtain ⟨hA, _, _, hown⟩ := hsat.now.hp _ _ (mem_hget hg)
  refine (deal_c w m mo true s hs').mono fun e w' ⟨ws, t, hP, he, hw, hb, hf⟩ => ⟨_, he, ?_⟩
  have hpos := (hP.whole rfl).1.1
  rcases t with _ | ⟨b, c⟩
  · have hws : ws = [] := hw
    rw [hws] at hpos
    exact absurd hpos (by simp)
  · have hlt := hf b c rfl
    have hR : BatR ⟨lab, ws, b, c⟩ [b] w' := by
      unfold BatR
      rw [if_neg (by show ws.length ≠ 0; omega)]
      exact ⟨rfl, hw.1.1, hw.2⟩
    have hbs : b < w'.heap.size := hw.2.lt
    have hch0 : Chg [] [b] w w' := ⟨⟨hb.os, hb.tape, hb.output, hb.size, fun k hk _ => hb.block k hk⟩, fun k hk => by
      simp only [List.mem_singleton] at hk
      subst hk
      exact ⟨.inr hlt, hbs⟩, by simp⟩
    have hcp := hch0.part (f2 := fp) (.refl _) hA.2.1 hA.2.2
    have h2 := All.stable BatR.stable w w' hA (hch0.rest (f2 := fp) (.refl _) hA.2.1 hA.2.2)
    have h3 : All BatR (its ++ [⟨lab, ws, b, c⟩]) ([b] ++ fp) w' := All.join hR (by rw [List.append_nil]; exact h2) hcp.nodup fun k hk => (hch0.sub k hk).2
    refine ⟨_, ρ, hK ws b c _ hP, (hsat.pred hg hcp h3 (All.stable BatR.stable)).put (dk_of hd) fun _ ρ' _ => ?_, by cases d <;> simp [St.put], fun _ _ => rfl⟩
    simp [slv, SV.den, CV.den, CV.denL]
/-- A transaction that is kept beside others is pushed. -/
theorem shpush_own (n m : Nat) {g : Nat} {s : ShS} {fp fpb : List Nat} (st : Stp) (a b : List BatA) (x : BatA) (hlen : 0 < x.ws.length ∧ x.ws.length ≤ 1000000) (hg : hget hp n = some (.pred fp (On g (ShSh s) fp))) (hm : hget hp m = some (.pred fpb (All BatR (a ++ x :: b) fpb))) (hne : n ≠ m) (hd : dkB C.N d = true)
    (hK : ∀ fp', kput K ⟨fr, hset hp n (.pred fp' (On g (ShSh (s.push st x.ws)) fp')), nx⟩ d (.c (.v (.bool (s.pushB st x.ws))))) : SCall Try.prog C 18 [.c (.v (gptr g)), sst st.v.a st.v.b st.v.c st.v.d st.dc, .c (.v (.slice (some ⟨x.b, 0, none⟩) x.ws.length x.c))] d K ⟨fr, hp, nx⟩ :=
  scall_predI (α := Unit) n fp _ (fun _ fp' => On g (ShSh (s.push st x.ws)) fp') (k := x.ws.length) (e := 4) (rv := wrw x.ws) (fun _ => (x.b, 0)) (fun b o => [gptr g, st.val, .slice (some ⟨b, o, none⟩) x.ws.length x.c]) (fun _ => .c (.v (.bool (s.pushB st x.ws)))) (fun _ => .bool (s.pushB st x.ws)) (fun _ => True) Try.call18
    (fun w b o h hi hb => by
      have := shpush_c g s st x.ws hlen.2 fp w h b o x.c hi hb
      rw [show wslv x.ws.length b o x.c = .slice (some ⟨b, o, none⟩) x.ws.length x.c from if_neg (by omega)] at this
      exact this.mono fun e w' ⟨fp', h1, h2, h3⟩ => ⟨(), fp', trivial, h1, h2, h3⟩) (fun _ _ => On.stable) hg rfl
    (fun ρ a' w hs => by
      obtain ⟨hA, _⟩ := hs.now.hp _ _ (mem_hget hm)
      obtain ⟨f1, f2, hp', h1, h2⟩ := hA.split
      unfold BatR at h1
      rw [if_neg (by omega)] at h1
      obtain ⟨rfl, h3, arr, h4, h5, h6⟩ := h1
      refine ⟨⟨fun _ => h4.lt, fun i hi => (h6 i hi).1, fun i hi u hu => ?_⟩, fun _ hmem => foot_disj hs.now.nodup (mem_hget hm) (mem_hget hg) (Ne.symm hne) (k := x.b) (by show x.b ∈ fpb; exact hp'.mem_iff.1 (by simp)) hmem⟩
      rw [h4.cell, Nat.zero_add]
      exact (h6 i hi).2 u hu) (fun ρ => rfl) (fun _ _ => rfl) ⟨dk_of hd, fun _ fp' _ => hK fp'⟩
end
end Go.Proofs.Ytagjblkfgjcmnaa
