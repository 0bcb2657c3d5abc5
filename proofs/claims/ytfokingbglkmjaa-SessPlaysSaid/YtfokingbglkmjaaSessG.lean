/-
  Both tables of sessions, side by side: alike, and alike behind each deed. Conditions: none.
-/
import Derived.Test.YtfokingbglkmjaaRef7
namespace Go.Proofs.Ytfokingbglkmjaa
open Go.RowKit Go.Sx
set_option linter.unusedVariables false
set_option linter.unusedSimpArgs false

structure Rel (T : Nat → One) (U : Nat → RO) : Prop where
  seen : ∀ i, (T i).seen = (U i).seen
  is : ∀ i, (T i).is = (U i).op
  sn : ∀ i, (U i).op = true → (T i).sn = (U i).sn
  ws : ∀ i, (U i).op = true → (T i).ws = (U i).ws
  z : (T 0).is = false
def ro0 : RO := ⟨⟨0, 0, 0, 0⟩, false, ⟨0, 0, 0, 0⟩, []⟩
theorem rel0 : Rel (fun _ => none1) (fun _ => ro0) := ⟨fun _ => rfl, fun _ => rfl, fun i h => (by cases h), fun i h => (by cases h), rfl⟩
theorem Rel.upd {T : Nat → One} {U : Nat → RO} (h : Rel T U) {k : Nat} {o : One} {r : RO} (hk : k ≠ 0) (h1 : o.seen = r.seen) (h2 : o.is = r.op) (h3 : r.op = true → o.sn = r.sn) (h4 : r.op = true → o.ws = r.ws) : Rel (upd T k o) (upd U k r) := by
  refine ⟨fun i => ?_, fun i => ?_, fun i hi => ?_, fun i hi => ?_, ?_⟩
  · by_cases e : i = k
    · subst e; simp only [upd_same]; exact h1
    · simp only [upd_ne _ _ e]; exact h.seen i
  · by_cases e : i = k
    · subst e; simp only [upd_same]; exact h2
    · simp only [upd_ne _ _ e]; exact h.is i
  · by_cases e : i = k
    · subst e; simp only [upd_same] at hi ⊢; exact h3 hi
    · simp only [upd_ne _ _ e] at hi ⊢; exact h.sn i hi
  · by_cases e : i = k
    · subst e; simp only [upd_same] at hi ⊢; exact h4 hi
    · simp only [upd_ne _ _ e] at hi ⊢; exact h.ws i hi
  · rw [upd_ne _ _ (Ne.symm hk)]; exact h.z
theorem rel_begin {T : Nat → One} {U : Nat → RO} (h : Rel T U) (id : Int) (v : V4) : beginE T id v = rbeginE U id v ∧ Rel (beginT T id v) (rbeginU U id v) := by
  unfold beginE rbeginE beginT rbeginU
  have e : (T id.toNat).op.isSome = (U id.toNat).op := h.is _
  have e2 : (T id.toNat).op.isNone = !(U id.toNat).op := by rw [← e]; cases (T id.toNat).op <;> rfl
  rw [e, e2]
  refine ⟨rfl, ?_⟩
  split
  · rename_i hc
    simp only [Bool.and_eq_true] at hc
    obtain ⟨k, rfl, hk1, hk⟩ := inS_k hc.1.1
    exact h.upd (by simp; omega) (h.seen _) rfl (fun _ => rfl) (fun _ => rfl)
  · exact h
theorem rel_end {T : Nat → One} {U : Nat → RO} (h : Rel T U) (id : Int) : endE T id = rendE U id ∧ Rel (endT T id) (rendU U id) := by
  unfold endE rendE endT rendU
  rw [h.is]
  refine ⟨rfl, ?_⟩
  split
  · rename_i hc
    simp only [Bool.and_eq_true] at hc
    obtain ⟨k, rfl, hk1, hk⟩ := inS_k hc.1
    exact h.upd (by simp; omega) (h.seen _) rfl (fun h => (by cases h)) (fun h => (by cases h))
  · exact h
theorem rel_see {T : Nat → One} {U : Nat → RO} (h : Rel T U) (id : Int) (v : V4) : Rel (seeT T id v) (rseeU U id v) := by
  unfold seeT rseeU
  split
  · rename_i hc
    simp only [Bool.and_eq_true] at hc
    obtain ⟨k, rfl, hk1, hk⟩ := inS_k hc.1
    exact h.upd (by simp; omega) (by rw [h.seen]) (h.is _) (h.sn _) (h.ws _)
  · exact h
theorem rel_write {T : Nat → One} {U : Nat → RO} (h : Rel T U) (id : Int) (x : Wr) : writeE T id x = rwriteE U id x ∧ Rel (writeT T id x) (rwriteU U id x) := by
  unfold writeE rwriteE writeT rwriteU
  rw [h.is]
  cases ho : (U id.toNat).op
  · simp [h]
  · have e := h.ws _ ho
    rw [e]
    refine ⟨rfl, ?_⟩
    split
    · rename_i hc
      simp only [Bool.and_eq_true] at hc
      obtain ⟨k, rfl, hk1, hk⟩ := inS_k hc.1.1.1
      exact h.upd (by simp; omega) (h.seen _) (by show true = _; exact ho.symm) (fun _ => h.sn _ ho) (fun _ => rfl)
    · exact h
theorem rel_snap {T : Nat → One} {U : Nat → RO} (h : Rel T U) (id : Int) : snapV T id = rsnapV U id ∧ isT T id = (inS id && (U id.toNat).op) := by
  unfold snapV rsnapV isT
  rw [h.is]
  refine ⟨?_, rfl⟩
  split
  · rename_i hc
    simp only [Bool.and_eq_true] at hc
    exact h.sn _ hc.2
  · rfl
theorem rel_ws {T : Nat → One} {U : Nat → RO} (h : Rel T U) (id : Int) : isWs T id = rWs U id := by
  unfold isWs rWs
  cases hin : inS id
  · simp
  · cases ho : (U id.toNat).op
    · have := h.is id.toNat
      rw [ho] at this
      simp only [Bool.and_false, Bool.false_eq_true, if_false, if_true]
      unfold One.is at this
      unfold One.ws
      cases hq : (T id.toNat).op
      · rfl
      · rw [hq] at this; cases this
    · simp [h.ws _ ho]
theorem rel_own {T : Nat → One} {U : Nat → RO} (h : Rel T U) (id : Int) (b k : ByteArray) : ownV T id b k = (rownW U id b k).getD zw ∧ ownB T id b k = (rownW U id b k).isSome := by
  unfold ownV ownB ownW rownW
  rw [rel_ws h]
  exact ⟨rfl, rfl⟩
theorem rel_seen {T : Nat → One} {U : Nat → RO} (h : Rel T U) (id : Int) : seenV T id = rseenV U id := by
  unfold seenV rseenV
  rw [h.seen]
theorem rel_hor {T : Nat → One} {U : Nat → RO} (h : Rel T U) (s : V4) : ∀ n, n ≤ 8 → horV T s (n + 1) = rhorV U s n
  | 0, _ => by simp [horV, rhorV, isT, inS]
  | n + 1, hn => by
    rw [horV, rel_hor h s n (by omega), rhorV]
    have : isT T ((n + 1 : Nat) : Int) = (U (n + 1)).op := by
      unfold isT
      have : inS ((n + 1 : Nat) : Int) = true := by simp [inS]; omega
      rw [this]
      simpa using h.is (n + 1)
    rw [this]
    split
    · rename_i ho; rw [h.sn _ ho]
    · rfl
theorem rel_many {T : Nat → One} {U : Nat → RO} (h : Rel T U) : ∀ n, manyN T (n + 1) = rmanyN U n
  | 0 => by rw [manyN_s, h.z]; rfl
  | n + 1 => by rw [manyN_s, rel_many h n, rmanyN_s, h.is]
end Go.Proofs.Ytfokingbglkmjaa
