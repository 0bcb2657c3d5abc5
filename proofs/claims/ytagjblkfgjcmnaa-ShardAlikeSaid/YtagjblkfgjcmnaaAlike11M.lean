/-
  Applied in whatever order, transactions are read alike: walked. Conditions: none.
-/
import Derived.Test.YtagjblkfgjcmnaaAlike10M
namespace Go.Proofs.Ytagjblkfgjcmnaa
open Go.RowKit Go.Sx CW
set_option linter.unusedVariables false
set_option linter.unusedSimpArgs false
def trow (its : List BatA) (j : Nat) : List Value := match its[j]? with
  | some x => [vu x.st.v.a, vu x.st.v.b, vu x.st.v.c, vu x.st.v.d, .int .i64 x.st.dc, .slice (some ⟨x.b, 0, none⟩) x.ws.length x.c]
  | none => []
theorem trow_eq {its : List BatA} {j : Nat} {x : BatA} (h : its[j]? = some x) : (trow its j).map CV.v = [cu x.st.v.a, cu x.st.v.b, cu x.st.v.c, cu x.st.v.d, ci x.st.dc, .v (.slice (some ⟨x.b, 0, none⟩) x.ws.length x.c)] := by simp [trow, h]
theorem trow_snoc {its : List BatA} {x : BatA} {r2 : Nat → List CV} (h2 : r2 0 = [cu x.st.v.a, cu x.st.v.b, cu x.st.v.c, cu x.st.v.d, ci x.st.dc, .v (.slice (some ⟨x.b, 0, none⟩) x.ws.length x.c)]) : ∀ j, j < its.length + 1 → (trow (its ++ [x]) j).map CV.v = rapp (fun j => (trow its j).map CV.v) its.length (fun i => r2 (0 + i)) j := fun j hj => by
  unfold rapp
  by_cases h : j < its.length
  · rw [if_pos h]
    unfold trow
    rw [List.getElem?_append_left h]
  · have : j = its.length := by omega
    subst this
    rw [if_neg h, Nat.sub_self]
    show _ = r2 (0 + 0)
    rw [Nat.add_zero, h2, trow_eq (x := x) (by simp)]
theorem trow_one {its : List BatA} {q : Nat} : ((trow its q).map CV.v).all one1 = true := by
  unfold trow
  cases its[q]? <;> rfl
/-- A stamp by its number among so many. -/
def numS (s : Stp) (n : Int) : Stp := ⟨s.v.wth s.dc n, s.dc⟩
theorem numS_right {m : Stp} {n : Nat} (h : 0 ≤ m.v.a ∧ 0 ≤ m.v.b ∧ 0 ≤ m.v.c) (hn : n ≤ 10) : (numS (mk m true) ((n : Int) + 1)).right = true := by
  have h1 := mown_right h
  have hb := n_bound h1
  show (numS (mown m) _).right = true
  generalize mown m = z at h1 hb ⊢
  obtain ⟨⟨a, b, c, d⟩, dc⟩ := z
  unfold Stp.right V4.right V4.leq Stp.n V4.at at h1 ⊢
  unfold Stp.n V4.at at hb
  unfold numS V4.wth
  simp only [Bool.and_eq_true, decide_eq_true_eq] at h1 hb ⊢
  by_cases p1 : dc = 1
  · simp [p1] at h1 ⊢; omega
  by_cases p2 : dc = 2
  · simp [p2] at h1 ⊢; omega
  by_cases p3 : dc = 3
  · simp [p3] at h1 ⊢; omega
  by_cases p4 : dc = 4
  · simp [p4] at h1 ⊢; omega
  · simp [p1, p2, p3, p4] at h1
theorem numS_dif {s t : Stp} {n m : Int} (hs : 1 ≤ s.dc ∧ s.dc ≤ 3) (hnm : n ≠ m) : numS s n ≠ numS t m := fun h => by
  unfold numS at h
  simp only [Stp.mk.injEq] at h
  obtain ⟨h1, h2⟩ := h
  rw [← h2] at h1
  unfold V4.wth at h1
  have : s.dc = 1 ∨ s.dc = 2 ∨ s.dc = 3 := by omega
  rcases this with h3 | h3 | h3 <;> simp [h3] at h1 <;> omega
theorem mown_dc (m : Stp) : 1 ≤ (mown m).dc ∧ (mown m).dc ≤ 3 := by
  unfold mown
  split
  · simp
  · split <;> simp
/-- The transactions so far: each of its own number. -/
structure Tx1 (its : List BatA) : Prop where
  x : Txs its
  num : ∀ (j : Nat) (y : BatA), its[j]? = some y → ∃ s, (1 ≤ s.dc ∧ s.dc ≤ 3) ∧ y.st = numS s ((j : Int) + 1)
theorem tx1_nil : Tx1 [] := ⟨⟨(fun x h => by cases h), (fun x h => by cases h), (fun x h => by cases h), (fun x h => by cases h), List.Pairwise.nil⟩, fun j y h => by simp at h⟩
theorem tx1_snoc {its : List BatA} (h : Tx1 its) {m : Stp} (hm : 0 ≤ m.v.a ∧ 0 ≤ m.v.b ∧ 0 ≤ m.v.c) (hl : its.length ≤ 10) {ws : List Wr} (hP : DealP true ws) (b c : Nat) : Tx1 (its ++ [⟨numS (mk m true) ((its.length : Int) + 1), ws, b, c⟩]) := by
  obtain ⟨h1, h2, h3⟩ := hP.whole rfl
  have all : ∀ {p : BatA → Prop}, (∀ x, x ∈ its → p x) → p ⟨numS (mk m true) ((its.length : Int) + 1), ws, b, c⟩ → ∀ x, x ∈ its ++ [⟨numS (mk m true) ((its.length : Int) + 1), ws, b, c⟩] → p x := fun q1 q2 x hx => by
    rcases List.mem_append.1 hx with hx | hx
    · exact q1 x hx
    · rw [List.mem_singleton.1 hx]; exact q2
  refine ⟨⟨all h.x.right (numS_right hm hl), all h.x.nd h3, all h.x.ws h2, all h.x.len h1, ?_⟩, fun j y hy => ?_⟩
  · refine List.pairwise_append.2 ⟨h.x.dif, by simp, fun x hx y hy => ?_⟩
    rw [List.mem_singleton.1 hy]
    obtain ⟨j, hj, rfl⟩ := List.getElem_of_mem hx
    obtain ⟨s, hs, he⟩ := h.num j _ (List.getElem?_eq_getElem hj)
    rw [he]
    exact numS_dif hs (by omega)
  · rcases Nat.lt_or_ge j its.length with hj | hj
    · rw [List.getElem?_append_left hj] at hy
      exact h.num j y hy
    · rw [List.getElem?_append_right hj] at hy
      have : j - its.length = 0 := by
        rcases Nat.eq_zero_or_pos (j - its.length) with h | h
        · exact h
        · rw [List.getElem?_eq_none (by simp; omega)] at hy; cases hy
      rw [this] at hy
      simp at hy
      subst hy
      exact ⟨mk m true, mown_dc m, by rw [show (j : Int) = its.length by omega]⟩
abbrev batsA (its : List BatA) : List Bat := its.map BatA.bat
abbrev pS (its : List BatA) (k : Nat) : ShS := ⟨16, (batsA its).take k, [], ⟨0, 0, 0, 0⟩⟩
theorem pS_push {its : List BatA} (h : Txs its) (hl : its.length ≤ 10) {k : Nat} {x : BatA} (hx : its[k]? = some x) : (pS its k).pushB x.st x.ws = true ∧ (pS its k).push x.st x.ws = pS its (k + 1) := by
  have hm := List.mem_of_getElem? hx
  have hk : k < its.length := (List.getElem?_eq_some_iff.1 hx).1
  obtain ⟨h1, h2⟩ := push_all (s := pS its k) (h.right x hm) (h.ws x hm) (by show ((batsA its).take k).length < 16; simp; omega)
  refine ⟨h1, h2.trans ?_⟩
  have : (batsA its)[k]? = some (x.st, x.ws) := by simp [batsA, hx, BatA.bat]
  simp only [pS, List.take_add_one, this, Option.toList_some]
abbrev sS (its : List BatA) (k : Nat) : ShS := ⟨16, (batsA its).drop k, (its.take k).foldl addT [], (its.take k).foldl (fun a x => updA a x.st) ⟨0, 0, 0, 0⟩⟩
theorem sS_step {its : List BatA} {k : Nat} {x : BatA} (hx : its[k]? = some x) : (sS its k).step = sS its (k + 1) := by
  have hk : k < its.length := (List.getElem?_eq_some_iff.1 hx).1
  have h1 : (batsA its).drop k = (x.st, x.ws) :: (batsA its).drop (k + 1) := by
    have hk' : k < (batsA its).length := by simpa using hk
    rw [List.drop_eq_getElem_cons hk']
    congr 1
    simp only [batsA, List.getElem_map]
    rw [(List.getElem?_eq_some_iff.1 hx).2]; rfl
  unfold ShS.step
  simp only [sS, h1]
  simp only [List.take_add_one, hx, Option.toList_some, List.foldl_append, List.foldl_cons, List.foldl_nil]
  rfl
theorem addT_len (its : List BatA) (l : List CW.Ver) (h : ∀ x, x ∈ its → x.ws.length ≤ 8) : (its.foldl addT l).length ≤ l.length + its.length * 8 := by
  induction its generalizing l with
  | nil => simp
  | cons x r ih =>
    have h1 := foldA_len x.st x.ws l
    have h2 := ih (addT l x) fun y hy => h y (by simp [hy])
    have h3 := h x (by simp)
    have h1 : (addT l x).length ≤ l.length + x.ws.length := h1
    rw [List.foldl_cons, List.length_cons]
    omega
theorem sS_len {its : List BatA} (h : Txs its) (hl : its.length ≤ 10) (k : Nat) : (sS its k).l.length ≤ 90000 := by
  have := addT_len (its.take k) [] fun x hx => (h.len x (List.mem_of_mem_take hx)).2
  have h2 : (its.take k).length ≤ its.length := List.length_take_le' ..
  simp only [List.length_nil] at this
  show ((its.take k).foldl addT []).length ≤ _
  omega
theorem sS_ws {its : List BatA} (h : Txs its) (k : Nat) : ∀ y, y ∈ (sS its k).w → y.2.length ≤ 1000 := fun y hy => by
  have := List.mem_of_mem_drop hy
  obtain ⟨x, hx, rfl⟩ := List.mem_map.1 this
  have := (h.len x hx).2
  show x.ws.length ≤ _
  omega
structure Alk (A B : ShS) : Prop where
  la : A.l.length ≤ 100000
  lb : B.l.length = A.l.length
  ap : B.ap = A.ap
  ch : ∀ k, chn B.l k = chn A.l k
theorem alk_new : Alk (ShS.new 16) (ShS.new 16) := ⟨by decide, rfl, rfl, fun _ => rfl⟩
theorem alk_end {its : List BatA} (h : Txs its) (hl : its.length ≤ 10) : Alk (sS its its.length) (sS its.reverse its.length) := by
  have h1 : (sS its its.length).l = allV its := by show (its.take its.length).foldl addT [] = _; rw [List.take_length]; exact (txs_fold h).1
  have h2 : (sS its.reverse its.length).l = allV its.reverse := by
    show (its.reverse.take its.length).foldl addT [] = _
    rw [← List.length_reverse, List.take_length]; exact (txs_fold h.rev).1
  refine ⟨Nat.le_trans (sS_len h hl _) (by omega), by rw [h1, h2]; exact (rev_same h (⟨#[]⟩, ⟨#[]⟩)).2, ?_, fun k => by rw [h1, h2]; exact (rev_same h k).1⟩
  show (its.reverse.take its.length).foldl (fun a x => updA a x.st) _ = (its.take its.length).foldl (fun a x => updA a x.st) _
  rw [List.take_length]
  rw [← List.length_reverse, List.take_length]
  exact rev_ap its _
theorem Alk.out {A B : ShS} (h : Alk A B) (k : Ky) (a : V4) : B.rd k a = A.rd k a ∧ B.rdO k a = A.rdO k a ∧ B.la k = A.la k ∧ B.laO k = A.laO k := by
  unfold ShS.rd ShS.rdO ShS.la ShS.laO
  rw [h.ch k]; exact ⟨rfl, rfl, rfl, rfl⟩
def a1Fr (x0 : CV) (g h i : Nat) (t : CV) : List (Nat × SV) := [(13, .c (ci i)), (12, .c t), (10, .c (.v (gptr h))), (8, .c (.v (gptr g))), (7, .c (.v (.bool true))), (5, .c (.p 2 0 0)), (4, .c (.p 1 0 0)), (0, .c x0)]
def a1Hp (m0 : Nat) (r0 : Nat → List Value) (p : Pt) (a' : V4) (ao : Bool) (g h : Nat) (A B : ShS) (fa fb : List Nat) (its : List BatA) (ft : List Nat) : List (Nat × Blk) := [(5, .pred ft (All BatR its ft)), (4, .pred fb (On h (ShSh B) fb)), (3, .pred fa (On g (ShSh A) fa)), (2, .cells 46 [cu a'.a, cu a'.b, cu a'.c, cu a'.d, .v (.bool ao)]), (1, .cells 44 [.v (.string p.x.b), .v (.string p.x.k), .v (.string p.x.x), .v (.bool p.x.g), .v (.bool p.own), .v (.int .u8 p.k)]), (0, .imm 8 m0 fun i => (r0 i).map .v)]
end Go.Proofs.Ytagjblkfgjcmnaa
