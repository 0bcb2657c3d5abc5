/-
  A call that tells a new slice, and leaves what is owned as it is. Conditions: none.
-/
import Derived.Test.YtbdffcgbleiiaaaSx21
set_option linter.unusedVariables false
namespace Go.Sx
open Go.RowKit
def slq (s : Option (Nat × Nat)) (n : Nat) : Value := match s with | none => .slice none 0 0 | some (b, c) => .slice (some ⟨b, 0, none⟩) n c
/-- A new slice of 'm' rows. -/
def NewRows (ty e m : Nat) (r : Nat → List Value) (s : Option (Nat × Nat)) (w w' : World) : Prop := match s with
  | none => m = 0
  | some (b, c) => (m ≤ c ∧ w.heap.size ≤ b) ∧ RowsAt w' b ty e m c r
theorem hset_eq : ∀ {hp : List (Nat × Blk)} {n : Nat} {b : Blk}, hget hp n = some b → hset hp n b = hp
  | [], n, b, h => by simp [hget] at h
  | (q, v) :: y, n, b, h => by
    rw [hget_cons] at h
    rw [hset_cons]
    by_cases hq : q = n
    · rw [if_pos hq] at h ⊢; injection h with h; rw [h]
    · rw [if_neg hq] at h ⊢; rw [hset_eq h]
section
variable {P : Program} {C : Cx} {fr : List (Nat × SV)} {hp : List (Nat × Blk)} {nx : Nat}
theorem on_callv {f : FuncId} {args : List SV} {d : Option Tmp} {K : St → Prop} (n : Nat) {g : Nat} {Sh : Nat → List (Nat × Blk) → Prop} {fp : List Nat} {ty e m : Nat} {r : Nat → List Value} (vs : List Value)
    (hc : ∀ (v : Array Value) w, (callFunc f v).run P w = .ok (.enter f v) w)
    (hcall : ∀ w, On g Sh fp w → Calls P f vs.toArray w fun o w' => ∃ s, o = .returned (slq s m) ∧ NewRows ty e m r s w w' ∧ On g Sh fp w' ∧ Chg fp fp w w')
    (hg : hget hp n = some (.pred fp (On g Sh fp))) (hok : SV.okL args = true) (hv : ∀ ρ, SV.denL ρ args = vs) (hd : dkB C.N d = true)
    (hK0 : m = 0 → kput K ⟨fr, hset hp n (.pred fp (On g Sh fp)), nx⟩ d (.c (.v (.slice none 0 0))))
    (hK1 : ∀ c, m ≤ c → kput K ⟨fr, (nx, .rows ty e m c fun j => (r j).map .v) :: hset hp n (.pred fp (On g Sh fp)), nx + 1⟩ d (.c (.s nx 0 m c))) :
    SCall P C f args d K ⟨fr, hp, nx⟩ := by
  refine ⟨hok, fun ρ w a hs _ => .inl ⟨fun v w => hc _ w, ?_⟩⟩
  rw [hv ρ]
  refine (hcall w (hs.now.hp _ _ (mem_hget hg)).1).mono fun o w' ⟨s, he, hw, hR, hch⟩ => ⟨_, he, ?_⟩
  have hs' := hs.pred hg hch hR On.stable
  have hfe : footL ρ (hset hp n (.pred fp (On g Sh fp))) = footL ρ hp := by
    rw [hset_eq hg]
  rcases s with _ | ⟨b, c⟩
  · have hm : m = 0 := hw
    refine ⟨_, ρ, hK0 hm, hs'.put (dk_of hd) fun _ ρ' _ => ?_, by cases d <;> simp [St.put], fun _ _ => rfl⟩
    simp [slq, SV.den, CV.den]
  · have hlt := hw.1.2
    have h1 := hs'.add (.rows ty e m c fun j => (r j).map .v) ⟨b, 0, e⟩ [b] (fun ρ' hρ hn => hw.2.holds hn (.inl (Nat.le_trans hs.now.keeps.size hlt)) fun i _ => map_v _ _)
      (fun ρ' hn => by simp [Blk.foot, hn]) (fun k hk hm => by
        have hm : k ∈ footL ρ (hset hp n (.pred fp (On g Sh fp))) := hm
        rw [hfe] at hm
        have := (hs.now.foot_lt hm).1
        simp at hk; omega) (by simp)
    refine ⟨_, _, hK1 c hw.1.1, h1.put (dk_of hd) fun _ ρ' hρ' => ?_, by cases d <;> simp [St.put], fun k hk => by simp [envSet, Nat.ne_of_lt hk]⟩
    have := hρ' nx (by simp)
    simp [envSet] at this
    simp [slq, SV.den, CV.den, this]
/-- What was there of old is kept, and a block of one's own is new: its rows. -/
theorem newRows_of {C : Cx} {w w' : World} {ρ : Env} {a : Act} {fp : List Nat} {n ty e m c : Nat} {r : Nat → List CV} {rv : Nat → List Value} (hw : C.w0 = w) (hM : C.M = (· ∈ fp)) (hs : Sat C ⟨fr, hp, nx⟩ ρ a w') (hb : hget hp n = some (.rows ty e m c r)) (hr : ∀ j, j < m → r j = (rv j).map .v) (hmc : m ≤ c)
    (hn : (ρ n).blk ∉ fp) : NewRows ty e m rv (some ((ρ n).blk, c)) w w' := by
  obtain ⟨h1, h2, ⟨arr, h3, h4, h5⟩, h6⟩ := hs.now.hp _ _ (mem_hget hb)
  refine ⟨⟨hmc, ?_⟩, ⟨arr, h3, h4, fun i hi => ?_⟩⟩
  · rcases h6 with h6 | h6
    · rw [← hw]; exact h6
    · rw [hM] at h6; exact absurd h6 hn
  · obtain ⟨h7, h8⟩ := h5 i hi
    rw [hr i hi] at h7 h8
    exact ⟨by simpa using h7, fun k hk => by rw [h8 k hk]; simp [List.getElem?_map]; cases (rv i)[k]? <;> simp [CV.den]⟩
end
end Go.Sx
