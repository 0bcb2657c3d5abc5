/-
  A text's bytes as a slice; a slice seen as an array. Conditions: none.
-/
import Derived.Test.YtbdffcgbleiiaaaSx26
set_option linter.unusedVariables false
set_option linter.unusedSimpArgs false
namespace Go.Sx
open Go.RowKit
section
variable {P : Program} {C : Cx} {fr : List (Nat × SV)} {hp : List (Nat × Blk)} {nx : Nat}

/-- A text's byte, as a row. -/
def brow (s : ByteArray) (i : Nat) : List CV := [.v (.int .u8 (bt s i))]
theorem freeze_new (w : World) (arr : Array Value) (E : TypeId) (n : Nat) : ((w.alloc (.cells arr E)).freeze ⟨w.heap.size, n, none⟩ 1).heap[w.heap.size]? = some (.cells arr E (n, n + 1)) := by
  unfold World.freeze
  rw [if_neg (by omega)]
  show (Array.modify _ _ _)[w.heap.size]? = _
  rw [Array.getElem?_modify, if_pos rfl, heap_push_new]
  rfl
theorem run_mark (w : World) (a : Addr) (t n : Nat) (h : w.shape? a.block = some (t, n)) : (markStringish a).run P w = .ok () (w.freeze ⟨a.block, n, none⟩ 1) := by
  have h1 : (shape a.block).run P w = .ok (some (t, n)) w := by rw [← h]; rfl
  simp only [markStringish, Sem.run_bind, h1, Result.andThen_ok]
  rfl
theorem freeze_old (w : World) (a : Addr) (n k : Nat) (hk : k ≠ a.block) : (w.freeze a n).heap[k]? = w.heap[k]? := by
  unfold World.freeze
  split
  · rfl
  · simp [Array.getElem?_modify, Ne.symm hk]
theorem freeze_size (w : World) (a : Addr) (n : Nat) : (w.freeze a n).heap.size = w.heap.size := by
  unfold World.freeze
  split <;> simp
theorem freeze_rest (w : World) (a : Addr) (n : Nat) : (w.freeze a n).os = w.os ∧ (w.freeze a n).tape = w.tape ∧ (w.freeze a n).output = w.output := by
  unfold World.freeze
  split <;> exact ⟨rfl, rfl, rfl⟩
theorem run_bytes (w : World) (E : TypeId) (s : ByteArray) : ∃ cap arr, s.size ≤ cap ∧ arr.size = cap ∧ (∀ i, i < s.size → arr[i]? = some (.int .u8 (bt s i))) ∧ (Conv.stringToBytes E s).run P w = .ok (.slice (some ⟨w.heap.size, 0, none⟩) s.size cap) ((w.drew.alloc (.cells arr E)).freeze ⟨w.heap.size, cap, none⟩ 1) := by
  have hge := grownCap_ge w s.size 0 E
  refine ⟨grownCap w s.size 0 E, (s.data.map fun b => Value.int .u8 b.toNat) ++ Array.replicate (grownCap w s.size 0 E - s.size) (.int .u8 0), hge, ?_, fun i hi => ?_, ?_⟩
  · have : s.data.size = s.size := rfl
    simp; omega
  · have hi' : i < s.data.size := hi
    rw [Array.getElem?_append_left (by simpa using hi'), Array.getElem?_map, Array.getElem?_eq_getElem hi']
    have : s.data.toList[i]? = some s.data[i] := by rw [Array.getElem?_toList]; exact Array.getElem?_eq_getElem hi'
    simp only [bt, Int.toNat_natCast, List.getD_eq_getElem?_getD, this, Option.map_some, Option.getD_some]
  · have hsz : s.data.size = s.size := rfl
    have hq : (Question.appendCap s.size 0 E).forced = false := rfl
    have hc : (choose (.appendCap s.size 0 E)).run P w = .ok (grownCap w s.size 0 E) w.drew := by rw [run_choose, hq]; rfl
    have hn : ∀ (cs : Array Value) (w : World), (newRow E cs).run P w = .ok ⟨w.heap.size, 0, none⟩ (w.alloc (.cells cs E)) := fun cs w => rfl
    simp only [Conv.stringToBytes, Sem.run_bind, hc, Result.andThen_ok, hn]
    rw [run_mark _ _ E (grownCap w s.size 0 E)]
    · rfl
    · simp only [World.shape?, heap_push_new]
      simp only [Array.size_append, Array.size_map, Array.size_replicate, hsz]
      congr 2; omega
/-- A new block of a text's bytes. -/
theorem Sat.allocBytes {ρ : Env} {a : Act} {w : World} (h : Sat C ⟨fr, hp, nx⟩ ρ a w) {E : TypeId} {s : ByteArray} {arr : Array Value} {cap : Nat} {d : Tmp} (hd : d < C.N) (hc : s.size ≤ cap) (ha : arr.size = cap) (hg : ∀ i, i < s.size → arr[i]? = some (.int .u8 (bt s i))) :
    Sat C ⟨(d, .c (.s nx 0 s.size cap)) :: fr, (nx, .rows E 1 s.size cap (brow s)) :: hp, nx + 1⟩ (envSet ρ nx ⟨w.heap.size, 0, 1⟩) (a.put (some d) (.slice (some ⟨w.heap.size, 0, none⟩) s.size cap)) ((w.alloc (.cells arr E)).freeze ⟨w.heap.size, cap, none⟩ 1) := by
  have hb : Below w.heap.size w ((w.alloc (.cells arr E)).freeze ⟨w.heap.size, cap, none⟩ 1) := by
    obtain ⟨e1, e2, e3⟩ := freeze_rest (w.alloc (.cells arr E)) ⟨w.heap.size, cap, none⟩ 1
    refine ⟨e1, e2, e3, ?_, fun k hk => ?_⟩
    · rw [freeze_size]; simp
    · rw [freeze_old _ _ _ _ (by simp; omega)]
      exact ((Below.refl w.heap.size w).alloc (Nat.le_refl _) (.cells arr E)).block k hk
  have h1 := (h.below hb).add (.rows E 1 s.size cap (brow s)) ⟨w.heap.size, 0, 1⟩ [w.heap.size] (fun ρ' hρ hn => by
      refine ⟨by rw [hn], by rw [hn], ⟨arr, ?_, by omega, fun i hi => ⟨rfl, fun k hk => ?_⟩⟩, by rw [hn]; exact .inl h.now.keeps.size⟩
      · rw [hn]
        exact ⟨_, freeze_new _ _ _ _, .inr ⟨by simp [ha], rfl⟩⟩
      · have : k = 0 := by omega
        subst this
        rw [Nat.mul_one, Nat.add_zero, hg i hi]; rfl)
    (fun ρ' hn => by simp [Blk.foot, hn]) (fun k hk hm => by
      simp at hk; subst hk; exact absurd (h.now.foot_lt hm).1 (Nat.lt_irrefl _)) (by simp)
  refine Sat.put (st := ⟨fr, _, _⟩) (d := some d) h1 hd fun _ ρ' hρ => ?_
  have := hρ nx (by simp)
  simp [SV.den, CV.den, this, envSet]
/-- A text's bytes. -/
theorem sbytes {d : Tmp} {x : Operand} {t1 t E ty : TypeId} {pos : String} {af : Array Edge} {g : Option (Nat × Bool)} {K : St → Prop} {s : ByteArray} {tk : TK}
    (hx : St.ev ⟨fr, hp, nx⟩ x = .c (.v (.string s))) (h1 : tkind P t1 = some tk) (hk : tkind P t = some (.slc E)) (hE : tint P E = some (some .u8))
    (hK : d < C.N ∧ ∀ c', s.size ≤ c' → K ⟨(d, .c (.s nx 0 s.size c')) :: fr, (nx, .rows E 1 s.size c' (brow s)) :: hp, nx + 1⟩) :
    SOp P C ⟨some d, .convert t1 t x, ty, pos, af, g⟩ K ⟨fr, hp, nx⟩ := fun ρ a w hs => by
  obtain ⟨d1, hu1, _⟩ := kind_of h1
  obtain ⟨ds, hu, hds⟩ := kind_of hk
  simp only at hds; subst hds
  obtain ⟨cap, arr, c1, c2, c3, c4⟩ := run_bytes (P := P) w E s
  refine wp_value (v := .slice (some ⟨w.heap.size, 0, none⟩) s.size cap) ?_ ⟨_, _, hK.2 cap c1, (hs.drew).allocBytes hK.1 c1 c2 c3, Nat.le_succ _, fun k hk => by simp [envSet, Nat.ne_of_lt hk]⟩
  simp only [execOp]
  have : (convert t1 t (.string s)).run P w = (Conv.stringToBytes E s).run P w := by
    simp only [convert, Sem.run_bind, run_underlying hu1, run_underlying hu, Result.andThen_ok, run_underlying (tint_of hE)]
  simp [ev_c hs.fr' hx rfl, SV.den, CV.den, this, c4]
end
end Go.Sx
