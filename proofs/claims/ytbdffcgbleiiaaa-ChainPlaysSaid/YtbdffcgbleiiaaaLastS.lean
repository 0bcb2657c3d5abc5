/-
  The last of a list of which something is so: slices.Backward, and the loop over it. Conditions: none.
-/
import Derived.Test.YtbdffcgbleiiaaaVerS
import Derived.RangeFuncNested
import Derived.RangeFuncBound
import Derived.RangeFuncCalls
import Derived.RangeFuncLeaves
import Derived.RangeFuncBox
import Derived.Shelf.Abstract
import Derived.OwnWalkIn
import Derived.TacticsInMore
import Derived.LoopNIn
import Derived.LoopIn
namespace Go.Proofs.Ytbdffcgbleiiaaa.CS
open Go.RowKit Go.Shelf
set_option linter.unusedVariables false
set_option linter.unusedSimpArgs false
attribute [local go_sem] Oper.semAt_some

/-- The cells of a list, in a block below 'n₀'. -/
def Rws (n₀ : Nat) (W : World) (b n : Nat) (f : Nat → Ver) : Prop := b < n₀ ∧ ∀ j, j < n → ∀ q, q < 6 → W.cell? ⟨b, j * 6 + q, none⟩ = (f j).l[q]?
theorem Rws.below {n₀ : Nat} {A B : World} (h : Below n₀ A B) {b n : Nat} {f : Nat → Ver} (hr : Rws n₀ A b n f) : Rws n₀ B b n f := ⟨hr.1, fun j hj q hq => (h.cell (p := ⟨b, j * 6 + q, none⟩) hr.1).trans (hr.2 j hj q hq)⟩
theorem Rws.cells {n₀ : Nat} {W : World} {b n : Nat} {f : Nat → Ver} (h : Rws n₀ W b n f) {j : Nat} (hj : j < n) :
    W.cell? ⟨b, j * 6, none⟩ = some (vu (f j).st.v.a) ∧ W.cell? ⟨b, j * 6 + 1, none⟩ = some (vu (f j).st.v.b) ∧ W.cell? ⟨b, j * 6 + 2, none⟩ = some (vu (f j).st.v.c) ∧ W.cell? ⟨b, j * 6 + 3, none⟩ = some (vu (f j).st.v.d) ∧ W.cell? ⟨b, j * 6 + 4, none⟩ = some (.int .i64 (f j).st.dc) ∧ W.cell? ⟨b, j * 6 + 5, none⟩ = some (Value.string (f j).x) :=
  ⟨h.2 j hj 0 (by omega), h.2 j hj 1 (by omega), h.2 j hj 2 (by omega), h.2 j hj 3 (by omega), h.2 j hj 4 (by omega), h.2 j hj 5 (by omega)⟩
/-- What comes of a list of 'n', from behind, in 'k' rounds. -/
def dn (n : Nat) (f : Nat → Ver) (k : Nat) : List (Nat × Ver) := (List.range k).map fun i => (n - 1 - i, f (n - 1 - i))
theorem dn_succ (n : Nat) (f : Nat → Ver) (k : Nat) : dn n f (k + 1) = dn n f k ++ [(n - 1 - k, f (n - 1 - k))] := by simp [dn, List.range_succ]
theorem dn_length (n : Nat) (f : Nat → Ver) (k : Nat) : (dn n f k).length = k := by simp [dn]

set_option maxRecDepth 100000 in
set_option maxHeartbeats 2000000 in
theorem back1_in (F : Fence) (m : Nat) (h7 : F.fn 126) (hro : F.round = none) (hm : 1 ≤ m) (l Bs n₀ b n cap : Nat) (f : Nat → Ver) (hn : n ≤ 9223372036854775807) (J Jx : List (Nat × Ver) → World → Prop)
    (hY : ∀ pre x W, J pre W → pre.length < n → YieldAt F (m - 1) Try.prog l #[.int .i64 (x.1 : Int), x.2.val] W fun e W' =>
      (e = .returned (.bool true) ∧ J (pre ++ [x]) W' ∧ Below n₀ W W') ∨ (e = .returned (.bool false) ∧ Jx (pre ++ [x]) W'))
    (W : World) (hBs : W.cell? ⟨Bs, 0, none⟩ = some (.slice (some ⟨b, 0, none⟩) n cap)) (hBn : Bs < n₀) (hc : Rws n₀ W b n f) (h0 : J [] W) :
    CallsIn F m Try.prog 126 #[.func (.yield l) #[] #[], .pointer (some ⟨Bs, 0, none⟩)] W fun e W' => (∃ v, e = .returned v) ∧
      (J (dn n f n) W' ∨ (∃ k, k < n ∧ Jx (dn n f (k + 1)) W')) := by
  refine callsIn_of_wp Try.func126 rfl h7 ?_ hro
  simp only [Try.ntmps126, List.size_toArray, List.length_cons, List.length_nil, Nat.reduceAdd, Nat.reduceSub, Array.replicate_succ, Array.replicate_zero, List.push_toArray, List.append_toArray, List.nil_append, List.cons_append]
  gi_wp2
  gi_loopw [3] (fun i wr => ∃ k : Nat, k ≤ n ∧ i = .int .i64 ((n : Int) - 1 - k) ∧ J (dn n f k) wr ∧ Below n₀ W wr)
    (fun i _ => (intOf i + 1).toNat)
  case atStart => exact ⟨0, Nat.zero_le _, by simp, h0, Below.refl _ _⟩
  case round =>
    obtain ⟨k, hk, rfl, hJs, hnx⟩ := hrel
    have hBs' := (hnx.cell (p := ⟨Bs, 0, none⟩) hBn).trans hBs
    by_cases hlt : k < n
    · obtain ⟨fn, tmps, assign, body, hy, hR⟩ := hY _ (n - 1 - k, f (n - 1 - k)) wr hJs (by rw [dn_length]; exact hlt)
      dsimp only [Ver.val, Ver.l] at hy
      obtain ⟨c0, c1, c2, c3, c4, c5⟩ := (hc.below hnx).cells (j := n - 1 - k) (by omega)
      have e1 : ((n : Int) - 1 - k) = ((n - 1 - k : Nat) : Int) := by omega
      rw [e1]
      have hge : (0 : Int) ≤ ((n - 1 - k : Nat) : Int) := by omega
      have hltn : ((n - 1 - k : Nat) : Int) < n := by omega
      gi_wp2
      refine hR.mono ?_
      rintro e W3 (⟨rfl, hJ3, hk3⟩ | ⟨rfl, hJx3⟩)
      · gi_wp2
        go_roundw
        case rel =>
          have hwr : wrap64 (((n - 1 - k : Nat) : Int) - 1) = (n : Int) - 1 - ((k + 1 : Nat) : Int) := by
            have : ((n - 1 - k : Nat) : Int) - 1 = (n : Int) - 1 - ((k + 1 : Nat) : Int) := by omega
            simp only [wrap64]
            omega
          exact ⟨k + 1, by omega, by simp; omega, by rw [dn_succ]; exact hJ3, hnx.trans hk3⟩
        case measure => simp [intOf]
      · gi_wp2
        refine bodyPost_ret (results_none rfl _ _ _) rfl ?_
        exact ⟨⟨_, rfl⟩, .inr ⟨k, hlt, by rw [dn_succ]; exact hJx3⟩⟩
    · have hkn : k = n := by omega
      rw [hkn] at hJs ⊢
      have e1 : ((n : Int) - 1 - n) = -1 := by omega
      rw [e1]
      gi_wp2
      go_end0
      exact ⟨⟨_, rfl⟩, .inl hJs⟩
set_option maxRecDepth 100000 in
set_option maxHeartbeats 1000000 in
theorem back1_nil (F : Fence) (m : Nat) (h7 : F.fn 126) (hro : F.round = none) (l Bs : Nat) (J : List (Nat × Ver) → World → Prop) (W : World) (hBs : W.cell? ⟨Bs, 0, none⟩ = some (.slice none 0 0)) (h0 : J [] W) :
    CallsIn F m Try.prog 126 #[.func (.yield l) #[] #[], .pointer (some ⟨Bs, 0, none⟩)] W fun e W' => (∃ v, e = .returned v) ∧ J [] W' := by
  refine callsIn_of_wp Try.func126 rfl h7 ?_ hro
  simp only [Try.ntmps126, List.size_toArray, List.length_cons, List.length_nil, Nat.reduceAdd, Nat.reduceSub, Array.replicate_succ, Array.replicate_zero, List.push_toArray, List.append_toArray, List.nil_append, List.cons_append]
  gi_wp2
  gi_loopw [3] (fun i wr => i = .int .i64 (-1) ∧ J [] wr) (fun _ _ => 0)
  case atStart => exact ⟨rfl, h0⟩
  case round =>
    obtain ⟨rfl, hJs⟩ := hrel
    gi_wp2
    go_end0
    exact ⟨⟨_, rfl⟩, hJs⟩
/-- The slice holds the list. -/
def Hlds (n₀ : Nat) (W : World) (sv : Value) (n : Nat) (f : Nat → Ver) : Prop := (sv = .slice none 0 0 ∧ n = 0) ∨ ∃ b cap, sv = .slice (some ⟨b, 0, none⟩) n cap ∧ Rws n₀ W b n f
theorem Hlds.below {n₀ : Nat} {A B : World} (h : Below n₀ A B) {sv : Value} {n : Nat} {f : Nat → Ver} : Hlds n₀ A sv n f → Hlds n₀ B sv n f
  | .inl e => .inl e
  | .inr ⟨b, cap, e, hr⟩ => .inr ⟨b, cap, e, hr.below h⟩
theorem back_stops (F : Fence) (m : Nat) (h7 : F.fn 126) (hro : F.round = none) (hm : 1 ≤ m) (Bs n₀ : Nat) (sv : Value) (n : Nat) (f : Nat → Ver) (hn : n ≤ 9223372036854775807) (w : World) (hBs : Bs < w.heap.size) (hBn : Bs < n₀) (hn₀ : n₀ ≤ w.heap.size)
    (hc : w.cell? ⟨Bs, 0, none⟩ = some sv) (hI : Hlds n₀ w sv n f) :
    SeqStopsK F m Try.prog 126 #[.pointer (some ⟨Bs, 0, none⟩)] (fun x : Nat × Ver => #[Value.int .i64 (x.1 : Int), x.2.val]) (Below n₀) (fun ys => ys = dn n f n) (fun pre => ∃ k, k < n ∧ pre = dn n f (k + 1)) n w := fun l J Jx W hW _ _ hY h0 => by
  have hc' := (hW.cell (p := ⟨Bs, 0, none⟩) hBs).trans hc
  rcases hI.below (hW.mono hn₀) with ⟨rfl, rfl⟩ | ⟨b, cap, rfl, hr⟩
  · exact (back1_nil F m h7 hro l Bs J W hc' h0).mono fun e W' ⟨he, hj⟩ => ⟨he, .inl ⟨_, rfl, hj⟩⟩
  · refine (back1_in F m h7 hro hm l Bs n₀ b n cap f hn J Jx hY W hc' hBn hr h0).mono ?_
    rintro e W' ⟨he, hj | ⟨k, hk, hj⟩⟩
    · exact ⟨he, .inl ⟨_, rfl, hj⟩⟩
    · exact ⟨he, .inr ⟨_, ⟨k, hk, rfl⟩, hj⟩⟩
set_option maxHeartbeats 1000000 in
theorem back_in (F : Fence) (m : Nat) (h5 : F.fn 102) (hro : F.round = none) (a : Option Addr) (len cap : Nat) (w : World) :
    CallsIn F m Try.prog 102 #[.slice a len cap] w fun e w' => e = .returned (.func (.func 126) #[] #[.pointer (some ⟨w.heap.size, 0, none⟩)]) ∧ w' = w.alloc (.cells #[.slice a len cap] 61) := by
  refine callsIn_of_wp Try.func102 rfl h5 ?_ hro
  simp only [Try.ntmps102, List.size_toArray, List.length_cons, List.length_nil, Nat.reduceAdd, Nat.reduceSub, Array.replicate_succ, Array.replicate_zero, List.push_toArray, List.append_toArray, List.nil_append, List.cons_append]
  gi_wp2
  go_ret
  exact ⟨rfl, rfl⟩
theorem Hlds.wide {n₀ n₁ : Nat} {W : World} {sv : Value} {n : Nat} {f : Nat → Ver} (hn : n₀ ≤ n₁) : Hlds n₀ W sv n f → Hlds n₁ W sv n f
  | .inl e => .inl e
  | .inr ⟨b, cap, e, hr⟩ => .inr ⟨b, cap, e, Nat.lt_of_lt_of_le hr.1 hn, hr.2⟩
/-- A block whole. -/
def Bx (W : World) (B : Nat) (t : TypeId) (l : List Value) : Prop := W.heap[B]? = some (.cells l.toArray t (0, 0))
theorem Bx.lt {W : World} {B : Nat} {t : TypeId} {l : List Value} (h : Bx W B t l) : B < W.heap.size := (Array.getElem?_eq_some_iff.1 h).1
theorem Bx.cell {W : World} {B : Nat} {t : TypeId} {l : List Value} (h : Bx W B t l) {q : Nat} {v : Value} (hq : l[q]? = some v) : W.cell? ⟨B, q, none⟩ = some v := by simp [World.cell?, show W.heap[B]? = _ from h, hq]
theorem Bx.frozen {W : World} {B : Nat} {t : TypeId} {l : List Value} (h : Bx W B t l) (q : Nat) : W.frozen? ⟨B, q, none⟩ = false := by simp [World.frozen?, show W.heap[B]? = _ from h]
theorem Bx.new (W : World) (t : TypeId) (l : List Value) : Bx (W.alloc (.cells l.toArray t)) W.heap.size t l := World.alloc_heap_new W _
theorem Bx.below {n : Nat} {W W' : World} (h : Below n W W') {B : Nat} {t : TypeId} {l : List Value} (hb : Bx W B t l) (hn : B < n) : Bx W' B t l := (h.block B hn).trans hb
theorem Bx.kept {W W' : World} {row : Option Nat} {B : Nat} {t : TypeId} {l : List Value} (h : Bx W B t l) (hg : W.grownBy W' row) (hne : some B ≠ row) : Bx W' B t l := (hg.block B h.lt hne).trans h
theorem Bx.alloc {W : World} {B : Nat} {t : TypeId} {l : List Value} (h : Bx W B t l) (o : Obj) : Bx (W.alloc o) B t l := h.kept (World.grownBy_alloc W o none) (by simp)
theorem grown_set (W : World) (b i : Nat) (v : Value) : W.grownBy (W.setCell ⟨b, i, none⟩ v) (some b) :=
  ⟨rfl, rfl, rfl, by simp, fun k hk hne => by
    show (W.heap.modify b _)[k]? = _
    rw [Array.getElem?_modify, if_neg (fun e => hne (by rw [e]))]⟩
theorem Bx.set {W : World} {B : Nat} {t : TypeId} {l : List Value} (q : Nat) (v : Value) (h : Bx W B t l) : Bx (W.setCell ⟨B, q, none⟩ v) B t (l.set q v) := by
  show (W.heap.modify B _)[B]? = _
  rw [Array.getElem?_modify, if_pos rfl, show W.heap[B]? = _ from h]
  simp
theorem Bx.other {W : World} {B B' : Nat} {t : TypeId} {l : List Value} (h : Bx W B t l) (hne : B ≠ B') (q : Nat) (v : Value) : Bx (W.setCell ⟨B', q, none⟩ v) B t l := h.kept (grown_set W B' q v) (fun e => hne (by cases e; rfl))
theorem Bx.kept' {W W' : World} {row : Option Nat} {B : Nat} {t : TypeId} {l : List Value} (h : Bx W B t l) (hg : W.grownBy W' row) (hr : ∀ r, row = some r → ∃ o : Obj, W.heap[r]? = some o ∧ o.isCells = false) : Bx W' B t l :=
  h.kept hg (fun e' => by obtain ⟨o, ho, hc⟩ := hr B e'.symm; rw [show W.heap[B]? = _ from h] at ho; cases ho; cases hc)
/-- The last of so many, of which something is so. -/
def lastF (f : Nat → Ver) (p : Ver → Bool) : Nat → Option Ver
  | 0 => none
  | n + 1 => if p (f n) then some (f n) else lastF f p n
theorem lastF_none {f : Nat → Ver} {p : Ver → Bool} : ∀ {n : Nat}, (∀ i, i < n → p (f i) = false) → lastF f p n = none
  | 0, _ => rfl
  | n + 1, h => by
    rw [lastF, if_neg (by rw [h n (by omega)]; simp)]
    exact lastF_none fun i hi => h i (by omega)
theorem lastF_some {f : Nat → Ver} {p : Ver → Bool} {i : Nat} (hp : p (f i) = true) : ∀ {n : Nat}, i < n → (∀ j, i < j → j < n → p (f j) = false) → lastF f p n = some (f i)
  | 0, h, _ => by omega
  | n + 1, h, hn => by
    rw [lastF]
    by_cases e : n = i
    · rw [e, if_pos hp]
    · rw [if_neg (by rw [hn n (by omega) (by omega)]; simp)]
      exact lastF_some hp (by omega) fun j h1 h2 => hn j h1 (by omega)
theorem mem_dn {n : Nat} {f : Nat → Ver} {k i : Nat} (h : i < k) : (n - 1 - i, f (n - 1 - i)) ∈ dn n f k := by
  simp only [dn, List.mem_map, List.mem_range]
  exact ⟨i, h, rfl⟩
def ver0 : Ver := ⟨⟨⟨0, 0, 0, 0⟩, 0⟩, ⟨#[]⟩⟩
set_option maxRecDepth 100000 in
set_option maxHeartbeats 4000000 in
theorem last_c (g : Nat) (sv : Value) (n : Nat) (f : Nat → Ver) (hn : n ≤ 9223372036854775807) (fis : Nat) (caps : Array Value) (p : Ver → Bool) (w : World) (hg : w.cell? ⟨g, 0, none⟩ = some sv) (hgn : g < w.heap.size) (hI : Hlds w.heap.size w sv n f)
    (hcf : ∀ (v : Array Value) w, (callFunc fis v).run Try.prog w = .ok (.enter fis v) w)
    (hp : ∀ (x : Ver) (W : World), Below w.heap.size w W → Calls Try.prog fis (#[x.val] ++ caps) W fun e W' => e = .returned (.bool (p x)) ∧ Below W.heap.size W W') :
    Calls Try.prog 60 #[.pointer (some ⟨g, 0, none⟩), .func (.func fis) #[] caps] w fun e w' => e = .returned (.tuple #[((lastF f p n).getD ver0).val, .bool (lastF f p n).isSome]) ∧ Below w.heap.size w w' := by
  refine (callsIn_wide (n := 5)).1 ?_
  obtain ⟨a, len, cap, hsv⟩ : ∃ a len cap, sv = .slice a len cap := by
    rcases hI with ⟨e, _⟩ | ⟨b, cap, e, _⟩ <;> exact ⟨_, _, _, e⟩
  subst hsv
  refine callsIn_of_wp_marks Try.func60 rfl trivial ?_ rfl
  simp only [Try.ntmps60, List.size_toArray, List.length_cons, List.length_nil, Nat.reduceAdd, Nat.reduceSub, Array.replicate_succ, Array.replicate_zero, List.push_toArray, List.append_toArray, List.nil_append, List.cons_append]
  have hgc : ∀ o1 o2 o3 : Obj, (((w.alloc o1).alloc o2).alloc o3).cell? ⟨g, 0, none⟩ = some (.slice a len cap) := fun o1 o2 o3 => ((((Below.refl _ w).alloc (Nat.le_refl _) o1).alloc (by simp) o2).alloc (by simp; omega) o3).cell (p := ⟨g, 0, none⟩) hgn |>.trans hg
  gi_wp2_with (refine ⟨trivial, ?_⟩; gi_at_call 102; refine (back_in Fence.wide (5 - 1) trivial rfl _ _ _ _).mono ?_; rintro e w' ⟨rfl, rfl⟩)
  obtain ⟨w3, hw3⟩ : ∃ w3, ((w.alloc (.cells #[.func (.func fis) #[] caps] 116)).alloc (.cells ver0.l.toArray 52)).alloc (.cells #[.bool false] 4) = w3 := ⟨_, rfl⟩
  have hz3 : w3.heap.size = w.heap.size + 3 := by rw [← hw3]; simp
  have b0 : Bx w3 w.heap.size 116 [.func (.func fis) #[] caps] := by rw [← hw3]; exact ((Bx.new w _ _).alloc _).alloc _
  have b1 : Bx w3 (w.heap.size + 1) 52 ver0.l := by
    rw [← hw3]
    have := (Bx.new (w.alloc (.cells #[.func (.func fis) #[] caps] 116)) 52 ver0.l).alloc (.cells #[.bool false] 4)
    rw [World.size_alloc] at this; exact this
  have b2 : Bx w3 (w.heap.size + 2) 4 [.bool false] := by
    rw [← hw3]
    have := Bx.new ((w.alloc (.cells #[.func (.func fis) #[] caps] 116)).alloc (.cells ver0.l.toArray 52)) 4 [.bool false]
    rw [World.size_alloc, World.size_alloc] at this; exact this
  have hB3 : Below w.heap.size w w3 := by
    rw [← hw3]; exact (((Below.refl _ w).alloc (Nat.le_refl _) _).alloc (by simp) _).alloc (by simp; omega) _
  have hw3' : ((w.alloc (.cells #[.func (.func fis) #[] caps] 116)).alloc (.cells #[.int .u64 0, .int .u64 0, .int .u64 0, .int .u64 0, .int .i64 0, Value.string ⟨#[]⟩] 52)).alloc (.cells #[.bool false] 4) = w3 := hw3
  have hz1 : w.heap.size + 1 + 1 = w.heap.size + 2 := rfl
  simp only [hw3', hz1]
  obtain ⟨w4, hw4⟩ : ∃ w4, w3.alloc (.cells #[.slice a len cap] 61) = w4 := ⟨_, rfl⟩
  have hz4 : w4.heap.size = w.heap.size + 4 := by rw [← hw4]; simp [hz3]
  have a0 : Bx w4 w.heap.size 116 [.func (.func fis) #[] caps] := by rw [← hw4]; exact b0.alloc _
  have a1 : Bx w4 (w.heap.size + 1) 52 ver0.l := by rw [← hw4]; exact b1.alloc _
  have a2 : Bx w4 (w.heap.size + 2) 4 [.bool false] := by rw [← hw4]; exact b2.alloc _
  have b3 : Bx w4 (w.heap.size + 3) 61 [.slice a len cap] := by rw [← hw4, ← hz3]; exact Bx.new w3 _ _
  have hB4 : Below w.heap.size w w4 := by rw [← hw4]; exact hB3.alloc (by omega) _
  rw [hw4]
  have fin : ∀ (Wf : World) (D : Nat) (v : Ver) (bb : Bool), w4.heap.size ≤ D → Bx Wf (w.heap.size + 1) 52 v.l → Bx Wf (w.heap.size + 2) 4 [.bool bb] → Below w.heap.size w Wf → Wf.heap[D]? = some (.deferred (some [])) → (lastF f p n).getD ver0 = v → (lastF f p n).isSome = bb →
      ∀ (a : Act), a.tmps.getD 4 undef = .pointer (some ⟨w.heap.size + 1, 0, none⟩) → a.tmps.getD 5 undef = .pointer (some ⟨w.heap.size + 2, 0, none⟩) → 
      ∃ v, (results Try.f60 a.tmps).run Try.prog (Wf.putObj D (.deferred none)) = .ok v (Wf.putObj D (.deferred none)) ∧ (Ending.returned v = .returned (.tuple #[((lastF f p n).getD ver0).val, .bool (lastF f p n).isSome]) ∧ Below w.heap.size w (Wf.putObj D (.deferred none))) := by
    intro Wf D v bb hD q1 q2 hB hK e1 e2 a h4 h5
    have k1 := q1.kept' (grownBy_putObj' _ D (.deferred none)) (fun r e => by cases e; exact ⟨_, hK, rfl⟩)
    have k2 := q2.kept' (grownBy_putObj' _ D (.deferred none)) (fun r e => by cases e; exact ⟨_, hK, rfl⟩)
    have z0 := k1.cell (q := 0) rfl
    have z1 := k1.cell (q := 1) rfl
    have z2 := k1.cell (q := 2) rfl
    have z3 := k1.cell (q := 3) rfl
    have z4 := k1.cell (q := 4) rfl
    have z5 := k1.cell (q := 5) rfl
    have t0 := k2.cell (q := 0) rfl
    refine ⟨.tuple #[v.val, .bool bb], ?_, by rw [e1, e2], hB.trans (belowK_b (w := w) (Nat.le_refl _) Wf D _ _ (by omega) hK rfl rfl)⟩
    have h4' : a.tmps[4]?.getD undef = .pointer (some ⟨w.heap.size + 1, 0, none⟩) := by rw [← h4]; simp
    have h5' : a.tmps[5]?.getD undef = .pointer (some ⟨w.heap.size + 2, 0, none⟩) := by rw [← h5]; simp
    simp [results, Try.f60, go_sem, h4', h5', z0, z1, z2, z3, z4, z5, t0, Ver.val, Ver.l]
  refine wpIn_rangeFunc_ownH rfl (by omega) (gf := 126) (lb := #[.pointer (some ⟨w.heap.size + 3, 0, none⟩)]) rfl trivial (enters_of Try.func126 (by kernel_rfl) rfl)
    (back_stops Fence.wide (5 - 1) trivial rfl (by omega) (w.heap.size + 3) (w.heap.size + 4) (.slice a len cap) n f hn w4 (by omega) (by omega) (by omega) (b3.cell (q := 0) rfl) ((hI.below hB4).wide (by omega)))
    belowK_t (belowK_b (by omega)) (Below.refl _ _) (fun _ => rfl)
    (fun pre W => ((∀ x ∈ pre, p x.2 = false) ∧ Bx W w.heap.size 116 [.func (.func fis) #[] caps] ∧ Bx W (w.heap.size + 1) 52 ver0.l ∧ Bx W (w.heap.size + 2) 4 [.bool false]) ∧ Below (w.heap.size + 4) w4 W)
    (fun c pre W => (c = .ret ∧ ∃ ini last, pre = ini ++ [last] ∧ (∀ x ∈ ini, p x.2 = false) ∧ p last.2 = true ∧ Bx W (w.heap.size + 1) 52 last.2.l ∧ Bx W (w.heap.size + 2) 4 [.bool true]) ∧ Below w.heap.size w W)
    (OwnFrom.and (Own.from (fun s A B row hs hg hr => ⟨hs.1, hs.2.1.kept' hg hr, hs.2.2.1.kept' hg hr, hs.2.2.2.kept' hg hr⟩) _) (ownFrom_below (by omega) (by omega)))
    (fun c => OwnFrom.and (Own.from (fun s A B row hs hg hr => by obtain ⟨hc, ini, last, e1, e2, e3, e4, e5⟩ := hs; exact ⟨hc, ini, last, e1, e2, e3, e4.kept' hg hr, e5.kept' hg hr⟩) _) (ownFrom_below (Nat.le_refl _) (by omega)))
    ⟨⟨by simp, a0, a1, a2⟩, Below.refl _ _⟩
    (fun x a' W => ∃ B, w.heap.size + 3 < B ∧ Bx W B 52 x.2.l ∧ a' = { tmps := #[.pointer (some ⟨g, 0, none⟩), .func (.func fis) #[] caps, undef, .pointer (some ⟨w.heap.size, 0, none⟩), .pointer (some ⟨w.heap.size + 1, 0, none⟩), .pointer (some ⟨w.heap.size + 2, 0, none⟩), undef, .pointer (some ⟨B, 0, none⟩), .pointer (some ⟨g, 0, none⟩), .pointer (some ⟨g, 0, none⟩), .pointer (some ⟨g, 0, none⟩), .slice a len cap, .func (.func 126) #[] #[.pointer (some ⟨w.heap.size + 3, 0, none⟩)], .int .i64 (x.1 : Int), x.2.val, undef, undef, undef, undef, undef], defers := [] })
    (fun x a' _ X Y row hs hg hr => by obtain ⟨B, h1, h2, h3⟩ := hs; exact ⟨B, h1, h2.kept' hg (fun r e => (hr r e).2), h3⟩)
    ?assign ?body ?done ?stop
  case assign =>
    rintro l pre x W K ⟨⟨hp1, q0, q1, q2⟩, hBW⟩ hK
    simp only [Ver.val, Ver.l]
    gi_wp2
    have hsz := hBW.size
    exact hK _ _ ((KeepsOthers.alloc _ _).from _) ((Below.refl _ W).alloc (by omega) _) ⟨⟨hp1, q0.alloc _, q1.alloc _, q2.alloc _⟩, hBW.alloc (by omega) _⟩ ⟨W.heap.size, by omega, Bx.new W _ x.2.l, rfl⟩
  case body =>
    rintro l pre x a' W hl ⟨r, hr⟩ ⟨⟨hp1, q0, q1, q2⟩, hBW⟩ ⟨B, hB, qB, rfl⟩ hlt
    have hsz := hBW.size
    have f0 := q0.cell (q := 0) rfl
    have y0 := qB.cell (q := 0) rfl
    have y1 := qB.cell (q := 1) rfl
    have y2 := qB.cell (q := 2) rfl
    have y3 := qB.cell (q := 3) rfl
    have y4 := qB.cell (q := 4) rfl
    have y5 := qB.cell (q := 5) rfl
    have hBl := qB.lt
    have hpx := hp x.2 W (hB4.trans (hBW.mono (by omega)))
    simp only [Ver.val, Ver.l] at hpx
    gi_wp2_with (refine ⟨trivial, ?_⟩; refine (CallsIn.inRound l (callsIn_wide.2 hpx)).mono ?_; rintro e w' ⟨rfl, hb⟩; have q1' := q1.below hb q1.lt; have q2' := q2.below hb q2.lt; have qB' := qB.below hb qB.lt; have z0 := q1'.cell (q := 0) rfl; have z1 := q1'.cell (q := 1) rfl; have z2 := q1'.cell (q := 2) rfl; have z3 := q1'.cell (q := 3) rfl; have z4 := q1'.cell (q := 4) rfl; have z5 := q1'.cell (q := 5) rfl; have y0 := qB'.cell (q := 0) rfl; have y1 := qB'.cell (q := 1) rfl; have y2 := qB'.cell (q := 2) rfl; have y3 := qB'.cell (q := 3) rfl; have y4 := qB'.cell (q := 4) rfl; have y5 := qB'.cell (q := 5) rfl; have t0 := q2'.cell (q := 0) rfl; have g0 := q1'.frozen 0; have g1 := q1'.frozen 1; have g2 := q1'.frozen 2; have g3 := q1'.frozen 3; have g4 := q1'.frozen 4; have g5 := q1'.frozen 5; have g6 := q2'.frozen 0)
    all_goals
      have hkb : KeepsOthers W w' := ⟨hb.size, fun k o hk ho => (hb.block k (Array.getElem?_eq_some_iff.1 hk).1).trans hk⟩
      have hbw : Below (w.heap.size + 4) W w' := hb.mono (by omega)
    · have hpx : p x.2 = true := by assumption
      refine ⟨(hkb.trans ((((((((KeepsOthers.setCell _ _ _).trans (KeepsOthers.setCell _ _ _)).trans (KeepsOthers.setCell _ _ _)).trans (KeepsOthers.setCell _ _ _)).trans (KeepsOthers.setCell _ _ _)).trans (KeepsOthers.setCell _ _ _)).trans (KeepsOthers.setCell _ _ _)))).from _, ⟨rfl, pre, x, rfl, hp1, hpx, ?_, ?_⟩, ?_⟩
      · exact (((((((q1'.set 0 _).set 1 _).set 2 _).set 3 _).set 4 _).set 5 _).other (by omega) _ _)
      · exact (((((((q2'.other (by omega) _ _).other (by omega) _ _).other (by omega) _ _).other (by omega) _ _).other (by omega) _ _).other (by omega) _ _).set 0 _)
      · have hb0 : Below w.heap.size w w' := (hB4.trans (hBW.mono (by omega))).trans (hbw.mono (by omega))
        exact (((((((hb0.setCell (p := ⟨w.heap.size + 1, 0, none⟩) (by simp) _).setCell (p := ⟨w.heap.size + 1, 1, none⟩) (by simp) _).setCell (p := ⟨w.heap.size + 1, 2, none⟩) (by simp) _).setCell (p := ⟨w.heap.size + 1, 3, none⟩) (by simp) _).setCell (p := ⟨w.heap.size + 1, 4, none⟩) (by simp) _).setCell (p := ⟨w.heap.size + 1, 5, none⟩) (by simp) _).setCell (p := ⟨w.heap.size + 2, 0, none⟩) (by simp) _)
    · have hpx : p x.2 = false := by assumption
      refine ⟨hkb.from _, hbw, ⟨⟨fun y hy => (List.mem_append.1 hy).elim (hp1 y) (fun e => by simp at e; subst e; exact hpx), q0.below hb q0.lt, q1', q2'⟩, hBW.trans hbw⟩⟩
  case done =>
    rintro D ys W hD rfl ⟨⟨hp1, q0, q1, q2⟩, hBW⟩ hK
    have z0 := q1.cell (q := 0) rfl
    have z1 := q1.cell (q := 1) rfl
    have z2 := q1.cell (q := 2) rfl
    have z3 := q1.cell (q := 3) rfl
    have z4 := q1.cell (q := 4) rfl
    have z5 := q1.cell (q := 5) rfl
    have t0 := q2.cell (q := 0) rfl
    have g0 := q1.frozen 0
    have g1 := q1.frozen 1
    have g2 := q1.frozen 2
    have g3 := q1.frozen 3
    have g4 := q1.frozen 4
    have g5 := q1.frozen 5
    have g6 := q2.frozen 0
    gi_wp2
    have hB0 : Below w.heap.size w W := hB4.trans (hBW.mono (by omega))
    have hn0 : lastF f p n = none := lastF_none fun i hi => by
      have := hp1 (n - 1 - (n - 1 - i), f (n - 1 - (n - 1 - i))) (mem_dn (by omega))
      rw [show n - 1 - (n - 1 - i) = i by omega] at this; exact this
    refine ⟨by simp, .inl ⟨_, _, rfl, run_takeDeferred (((((((((KeepsOthers.setCell W _ _).trans (KeepsOthers.setCell _ _ _)).trans (KeepsOthers.setCell _ _ _)).trans (KeepsOthers.setCell _ _ _)).trans (KeepsOthers.setCell _ _ _)).trans (KeepsOthers.setCell _ _ _)).trans (KeepsOthers.setCell _ _ _))).same D _ hK rfl), ?_⟩⟩
    exact fin _ D ver0 false hD (((((((q1.set 0 _).set 1 _).set 2 _).set 3 _).set 4 _).set 5 _).other (by omega) _ _) (((((((q2.other (by omega) _ _).other (by omega) _ _).other (by omega) _ _).other (by omega) _ _).other (by omega) _ _).other (by omega) _ _).set 0 _)
      (((((((hB0.setCell (p := ⟨w.heap.size + 1, 0, none⟩) (by simp) _).setCell (p := ⟨w.heap.size + 1, 1, none⟩) (by simp) _).setCell (p := ⟨w.heap.size + 1, 2, none⟩) (by simp) _).setCell (p := ⟨w.heap.size + 1, 3, none⟩) (by simp) _).setCell (p := ⟨w.heap.size + 1, 4, none⟩) (by simp) _).setCell (p := ⟨w.heap.size + 1, 5, none⟩) (by simp) _).setCell (p := ⟨w.heap.size + 2, 0, none⟩) (by simp) _) (((((((((KeepsOthers.setCell W _ _).trans (KeepsOthers.setCell _ _ _)).trans (KeepsOthers.setCell _ _ _)).trans (KeepsOthers.setCell _ _ _)).trans (KeepsOthers.setCell _ _ _)).trans (KeepsOthers.setCell _ _ _)).trans (KeepsOthers.setCell _ _ _))).same D _ hK rfl) (by rw [hn0]; rfl) (by rw [hn0]; rfl) _ rfl rfl
  case stop =>
    rintro D c pre W hD ⟨k, hk, rfl⟩ ⟨⟨rfl, ini, last, e1, e2, e3, q1, q2⟩, hB⟩ hK
    gi_wp2
    rw [dn_succ] at e1
    obtain ⟨h1, h2⟩ := List.append_inj' e1 rfl
    have h3 : (n - 1 - k, f (n - 1 - k)) = last := by simpa using h2
    have hs0 : lastF f p n = some last.2 := by
      rw [← h3] at e3 ⊢
      refine lastF_some e3 (by omega) fun j hj1 hj2 => ?_
      have := e2 (n - 1 - (n - 1 - j), f (n - 1 - (n - 1 - j))) (by rw [← h1]; exact mem_dn (by omega))
      rw [show n - 1 - (n - 1 - j) = j by omega] at this; exact this
    refine ⟨by simp, .inl ⟨_, _, rfl, run_takeDeferred hK, ?_⟩⟩
    exact fin W D last.2 true hD q1 q2 hB hK (by rw [hs0]; rfl) (by rw [hs0]; rfl) _ rfl rfl
end Go.Proofs.Ytbdffcgbleiiaaa.CS
