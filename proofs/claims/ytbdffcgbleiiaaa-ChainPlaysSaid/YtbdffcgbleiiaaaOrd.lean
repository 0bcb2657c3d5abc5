/-
  The order of stamps: it is one. Conditions: none.
-/
import Derived.Test.YtbdffcgbleiiaaaStamp
namespace Go.Proofs.Ytbdffcgbleiiaaa
open Go.RowKit Go.Sx
set_option linter.unusedVariables false
set_option linter.unusedSimpArgs false

theorem stp_dec (x y : Stp) : (decide (x.v.a = y.v.a) && (decide (x.v.b = y.v.b) && (decide (x.v.c = y.v.c) && (decide (x.v.d = y.v.d) && decide (x.dc = y.dc))))) = decide (x = y) := by
  rw [Bool.eq_iff_iff]
  simp only [Bool.and_eq_true, decide_eq_true_eq]
  cases x with
  | mk v dc => cases y with
    | mk v' dc' => cases v; cases v'; simp only [Stp.mk.injEq, V4.mk.injEq]; constructor
                   · rintro ⟨h1, h2, h3, h4, h5⟩; exact ⟨⟨h1, h2, h3, h4⟩, h5⟩
                   · rintro ⟨⟨h1, h2, h3, h4⟩, h5⟩; exact ⟨h1, h2, h3, h4, h5⟩
def lexI : List Int → List Int → Int
  | x :: xs, y :: ys => or2 (cmpI x y) (lexI xs ys)
  | _, _ => 0
theorem cmpI_self (x : Int) : cmpI x x = 0 := by simp [cmpI]
theorem cmpI_neg (x y : Int) : cmpI y x = -cmpI x y := by unfold cmpI; split <;> split <;> omega
theorem cmpI_lt {x y : Int} : cmpI x y < 0 ↔ x < y := by unfold cmpI; split <;> (try split) <;> omega
theorem cmpI_eq {x y : Int} : cmpI x y = 0 ↔ x = y := by unfold cmpI; split <;> (try split) <;> omega
theorem cmpI_gt {x y : Int} : 0 < cmpI x y ↔ y < x := by unfold cmpI; split <;> (try split) <;> omega
theorem lexI_self : ∀ l : List Int, lexI l l = 0
  | [] => rfl
  | x :: r => by rw [lexI, cmpI_self, or2, if_pos rfl]; exact lexI_self r
theorem lexI_neg : ∀ l m : List Int, lexI m l = -lexI l m
  | [], [] => rfl
  | [], _ :: _ => rfl
  | _ :: _, [] => rfl
  | x :: r, y :: s => by
    rw [lexI, lexI, cmpI_neg x y, lexI_neg r s]
    unfold or2
    split <;> split <;> omega
theorem lexI_eq : ∀ l m : List Int, l.length = m.length → lexI l m = 0 → l = m
  | [], [], _, _ => rfl
  | [], _ :: _, h, _ => by simp at h
  | _ :: _, [], h, _ => by simp at h
  | x :: r, y :: s, h, h0 => by
    rw [lexI, or2] at h0
    split at h0
    · rename_i e
      rw [cmpI_eq.1 e, lexI_eq r s (by simpa using h) h0]
    · rename_i e; exact absurd h0 e
theorem lexI_trans : ∀ l m k : List Int, l.length = m.length → m.length = k.length → lexI l m < 0 → lexI m k < 0 → lexI l k < 0
  | [], [], [], _, _, h, _ => by simp [lexI] at h
  | [], _ :: _, _, h, _, _, _ => by simp at h
  | _ :: _, [], _, h, _, _, _ => by simp at h
  | _, [], _ :: _, _, h, _, _ => by simp at h
  | _, _ :: _, [], _, h, _, _ => by simp at h
  | x :: r, y :: s, z :: t, h1, h2, h3, h4 => by
    rw [lexI, or2] at h3 h4 ⊢
    split at h3
    · rename_i e1
      rw [cmpI_eq.1 e1]
      split at h4
      · rename_i e2; rw [if_pos e2]; exact lexI_trans r s t (by simpa using h1) (by simpa using h2) h3 h4
      · rename_i e2; rw [if_neg e2]; exact h4
    · rename_i e1
      split at h4
      · rename_i e2; rw [← cmpI_eq.1 e2, if_neg e1]; exact h3
      · rename_i e2
        have k1 := cmpI_lt.1 h3
        have k2 := cmpI_lt.1 h4
        have k3 : cmpI x z < 0 := cmpI_lt.2 (by omega)
        rw [if_neg (by omega)]; exact k3
def Stp.key (s : Stp) : List Int := [s.v.sum, s.dc, s.v.a, s.v.b, s.v.c, s.v.d]
theorem or2_z (x : Int) : or2 x 0 = x := by unfold or2; split <;> omega
theorem ord_key (s t : Stp) : s.ord t = lexI s.key t.key := by
  by_cases h : s = t
  · rw [h, lexI_self]; unfold Stp.ord; rw [if_pos rfl]
  · unfold Stp.ord; rw [if_neg h]
    simp only [Stp.key, lexI, vcmp, or2_z]
theorem ord_self (s : Stp) : s.ord s = 0 := by rw [ord_key, lexI_self]
theorem ord_neg (s t : Stp) : t.ord s = -s.ord t := by rw [ord_key, ord_key, lexI_neg]
theorem ord_eq {s t : Stp} (h : s.ord t = 0) : s = t := by
  rw [ord_key] at h
  have := lexI_eq s.key t.key rfl h
  simp only [Stp.key, List.cons.injEq, and_true] at this
  obtain ⟨_, h1, h2, h3, h4, h5⟩ := this
  cases s with
  | mk v dc => cases t with
    | mk v' dc' => cases v; cases v'; simp_all
theorem ord_trans {s t u : Stp} (h1 : s.ord t < 0) (h2 : t.ord u < 0) : s.ord u < 0 := by
  rw [ord_key] at *
  exact lexI_trans s.key t.key u.key rfl rfl h1 h2
theorem ord_trans_le {s t u : Stp} (h1 : s.ord t < 0) (h2 : t.ord u ≤ 0) : s.ord u < 0 := by
  by_cases h : t.ord u = 0
  · rw [← ord_eq h]; exact h1
  · exact ord_trans h1 (by omega)
theorem ord_le_trans {s t u : Stp} (h1 : s.ord t ≤ 0) (h2 : t.ord u ≤ 0) : s.ord u ≤ 0 := by
  by_cases h : s.ord t = 0
  · rw [ord_eq h]; exact h2
  · have := ord_trans_le (s := s) (t := t) (u := u) (by omega) h2; omega
theorem ord_three (s t : Stp) : s.ord t = -1 ∨ s.ord t = 0 ∨ s.ord t = 1 := by
  have h3 : ∀ x y : Int, cmpI x y = -1 ∨ cmpI x y = 0 ∨ cmpI x y = 1 := fun x y => by unfold cmpI; split <;> (try split) <;> omega
  have key : ∀ l m : List Int, lexI l m = -1 ∨ lexI l m = 0 ∨ lexI l m = 1 := by
    intro l
    induction l with
    | nil => intro m; exact .inr (.inl rfl)
    | cons x r ih =>
      intro m
      cases m with
      | nil => exact .inr (.inl rfl)
      | cons y s =>
        rw [lexI, or2]
        split
        · exact ih s
        · exact h3 x y
  rw [ord_key]; exact key _ _
end Go.Proofs.Ytbdffcgbleiiaaa
