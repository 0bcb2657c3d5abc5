/-
  The symbolic walk: append, onto nothing or onto a block that is owned: sound. Nothing here speaks of one program. Conditions: none.
-/
import Derived.Test.YtbdffcgbleiiaaaSx9
set_option linter.unusedVariables false
set_option linter.unusedSimpArgs false
namespace Go.Sx
open Go.RowKit

def tby (P : Program) (t : TypeId) : Option Nat := (P.info? t).map (·.bytes)

def hrem : List (Nat × Blk) → Nat → List (Nat × Blk)
  | [], _ => []
  | (a, x) :: r, n => if a = n then hrem r n else (a, x) :: hrem r n

/-- The rows of a block that can be read. -/
def rowRd : Option Blk → Option (Nat × Nat × (Nat → List CV))
  | some (.rows _ e m _ r) => some (e, m, r)
  | some (.imm e m r) => some (e, m, r)
  | _ => none

/-- The first 'n' rows, and then others. -/
def rapp (r : Nat → List CV) (n : Nat) (r2 : Nat → List CV) (i : Nat) : List CV := if i < n then r i else r2 (i - n)

section
variable {P : Program} {C : Cx} {st : St} {fr : List (Nat × SV)} {hp : List (Nat × Blk)} {nx : Nat}

theorem hrem_mem : ∀ {hp : List (Nat × Blk)} {n m : Nat} {b : Blk}, (m, b) ∈ hrem hp n → (m, b) ∈ hp ∧ m ≠ n
  | [], n, m, b, h => by cases h
  | (a, x) :: r, n, m, b, h => by
    simp only [hrem] at h
    split at h
    · have := hrem_mem h; exact ⟨by simp [this.1], this.2⟩
    · rename_i hne
      rcases List.mem_cons.1 h with h | h
      · injection h with h1 h2; subst h1; subst h2; exact ⟨by simp, hne⟩
      · have := hrem_mem h; exact ⟨by simp [this.1], this.2⟩

theorem hrem_once : ∀ (hp : List (Nat × Blk)) (n : Nat), (hp.map (·.1)).Nodup → ((hrem hp n).map (·.1)).Nodup
  | [], n, _ => by simp [hrem]
  | (a, x) :: r, n, h => by
    simp only [List.map_cons, List.nodup_cons] at h
    simp only [hrem]
    split
    · exact hrem_once r n h.2
    · simp only [List.map_cons, List.nodup_cons]
      refine ⟨fun hm => h.1 ?_, hrem_once r n h.2⟩
      obtain ⟨⟨m, b⟩, hm, he⟩ := List.mem_map.1 hm
      exact List.mem_map.2 ⟨(m, b), (hrem_mem hm).1, he⟩

/-- An entry is dropped. -/
theorem Sat.rem {ρ : Env} {a : Act} {w : World} (h : Sat C ⟨fr, hp, nx⟩ ρ a w) (n : Nat) : Sat C ⟨fr, hrem hp n, nx⟩ ρ a w := fun ρ' hρ => by
  have h0 := h ρ' hρ
  refine ⟨h0.fr, h0.defers, h0.size, h0.keeps, fun m b hm => h0.hp m b (hrem_mem hm).1, ?_, fun m b hm => h0.names m b (hrem_mem hm).1, hrem_once _ _ h0.once, h0.n0le⟩
  exact sub_nodup h0.nodup _ (fun x hx => (hrem_mem (n := n) (m := x.1) (b := x.2) hx).1) (hrem_once _ _ h0.once)

/-- The cells that are appended: as they lie. -/
theorem news_of {ρ : Env} {w : World} (hok : HpOk C ρ w hp) {b2 e m2 j k : Nat} {r2 : Nat → List CV} (h2 : rowRd (hget hp b2) = some (e, m2, r2)) (hj : j + k ≤ m2) (he : 0 < e) :
    (∀ i, i < k → (r2 (j + i)).length = e) ∧ ∀ q u, ((rowsL (fun i => r2 (j + i)) k).map (CV.den ρ))[q]? = some u → w.cell? ((⟨(ρ b2).blk, (ρ b2).base + j * (ρ b2).esz, none⟩ : Addr).add q) = some u := by
  have key : ∀ (hlen : ∀ i, i < m2 → (r2 i).length = e) (hrd : ∀ i, i < m2 → ∀ q, q < e → w.cell? ⟨(ρ b2).blk, (ρ b2).base + i * e + q, none⟩ = ((r2 i)[q]?).map (CV.den ρ)) (hes : (ρ b2).esz = e),
      (∀ i, i < k → (r2 (j + i)).length = e) ∧ ∀ q u, ((rowsL (fun i => r2 (j + i)) k).map (CV.den ρ))[q]? = some u → w.cell? ((⟨(ρ b2).blk, (ρ b2).base + j * (ρ b2).esz, none⟩ : Addr).add q) = some u := fun hlen hrd hes => by
    have hl : ∀ i, i < k → (r2 (j + i)).length = e := fun i hi => hlen (j + i) (by omega)
    refine ⟨hl, fun q u hq => ?_⟩
    have hql : q < k * e := by
      have := (List.getElem?_eq_some_iff.1 hq).1
      simpa [rowsL_len k hl] using this
    obtain ⟨d1, d2, d3⟩ := div_mod_lt hql he
    rw [List.getElem?_map, ← d3, rowsL_get k hl _ _ d1 d2] at hq
    rw [addr_add _ _ rfl, hes]
    have hr := hrd (j + q / e) (by omega) (q % e) d2
    rw [hq] at hr
    have e1 : (j + q / e) * e = j * e + q / e * e := Nat.add_mul _ _ _
    have e2 : (ρ b2).base + (j + q / e) * e + q % e = (ρ b2).base + j * e + q := by
      rw [e1]; generalize q / e * e = A at d3; generalize q % e = B at d3; omega
    rw [e2] at hr
    exact hr
  unfold rowRd at h2
  split at h2
  · rename_i hb
    simp only [Option.some.injEq, Prod.mk.injEq] at h2
    obtain ⟨rfl, rfl, rfl⟩ := h2
    obtain ⟨g0, g1, ⟨arr, g2, gc, g3⟩, _⟩ := hok _ _ (mem_hget hb)
    refine key (fun i hi => (g3 i hi).1) (fun i hi q hq => ?_) g1
    rw [← (g3 i hi).2 q hq, g0, g2.cell, Nat.zero_add]
  · rename_i hb
    simp only [Option.some.injEq, Prod.mk.injEq] at h2
    obtain ⟨rfl, rfl, rfl⟩ := h2
    obtain ⟨g1, g3, _⟩ := hok _ _ (mem_hget hb)
    exact key (fun i hi => (g3 i hi).1) (fun i hi q hq => (g3 i hi).2 q hq) g1
  · cases h2

theorem one_news {r : Nat → List CV} {k : Nat} (h : ∀ i, i < k → (r i).all one1 = true) (ρ : Env) : ∀ u ∈ (rowsL r k).map (CV.den ρ), u.oneCell' = true := fun u hu => by
  obtain ⟨x, hx, rfl⟩ := List.mem_map.1 hu
  simp only [rowsL, List.mem_flatMap, List.mem_range] at hx
  obtain ⟨i, hi, hx⟩ := hx
  exact one1_den (List.all_eq_true.1 (h i hi) x hx) ρ

theorem info_of {E sz by' : Nat} {zs : List Value} (h1 : tsz P E = some sz) (h2 : tby P E = some by') (h3 : tzero P E = some zs) : ∃ i z, P.info? E = some i ∧ i.size = sz ∧ i.bytes = by' ∧ i.zero = some z ∧ z.cells.toList = zs := by
  unfold tsz at h1; unfold tby at h2; unfold tzero at h3
  simp only [Option.map_eq_some_iff, Option.bind_eq_some_iff] at h1 h2 h3
  obtain ⟨i, hi, rfl⟩ := h1
  obtain ⟨i2, hi2, rfl⟩ := h2
  obtain ⟨z, ⟨i3, hi3, hz⟩, rfl⟩ := h3
  rw [hi] at hi2 hi3
  injection hi2 with e2; injection hi3 with e3; subst e2; subst e3
  exact ⟨i, z, hi, rfl, rfl, hz, rfl⟩

theorem append_room (w : World) (t ty E : TypeId) (i : TypeInfo) (ht : P.underlying t = some (.slice E)) (hi : P.info? E = some i) (b n c : Nat) (arr : Array Value) {ty0 : TypeId} {e0 : Nat} (hg : HeapAt w b arr ty0 e0) (a : Addr) (k c2 : Nat) (news : List Value) (hl : news.length = k * i.size) (hnews : ∀ j u, news[j]? = some u → w.cell? (a.add j) = some u) (h1 : ∀ u ∈ news, u.oneCell' = true)
    (hroom : n + k ≤ c) (hfit : n * i.size + news.length ≤ arr.size) :
    (Builtin.append_ #[t, t] ty #[.slice (some ⟨b, 0, none⟩) n c, .slice (some a) k c2]).run P w = .ok (.slice (some ⟨b, 0, none⟩) (n + k) c) (w.setRow b (arr.toList.take (n * i.size) ++ news ++ arr.toList.drop (n * i.size + news.length)).toArray) := by
  have hfc := run_firstCells_some (P := P) w i.size k a k c2 news hl hnews
  have hst := hg.store (P := P) (o := n * i.size) news hfit h1
  have hadd : (⟨b, 0, none⟩ : Addr).add (n * i.size) = ⟨b, n * i.size, none⟩ := by rw [addr_add _ _ rfl, Nat.zero_add]
  simp [Builtin.append_, run_underlying ht, sizeOf, typeInfo, hi, Builtin.lenOf, hroom, hfc, hadd, hst]
theorem len_zeroCells (z : Array Value) (n : Nat) : (Builtin.zeroCells z n).size = n * z.size := by simp [Builtin.zeroCells]

/-- 'append' onto nothing. -/
theorem sappend_nil {d : Tmp} {x y : Operand} {t E ty : TypeId} {pos : String} {af : Array Edge} {g : Option (Nat × Bool)} {K : St → Prop} {b2 j k c2 sz bb m2 : Nat} {zs : List Value} {r2 : Nat → List CV}
    (hx : St.ev ⟨fr, hp, nx⟩ x = .c (.v (.slice none 0 0))) (hy : St.ev ⟨fr, hp, nx⟩ y = .c (.s b2 j k c2)) (hk : tkind P t = some (.slc E)) (h1 : tsz P E = some sz) (h2 : tby P E = some bb) (h3 : tzero P E = some zs)
    (hr : rowRd (hget hp b2) = some (sz, m2, r2)) (hz : (zs.length = sz ∧ 0 < sz ∧ 0 < k) ∧ j + k ≤ m2 ∧ k * bb ≤ 140737488355328 ∧ k ≤ 9223372036854775807)
    (hK : d < C.N ∧ ∀ c', k ≤ c' → K ⟨(d, .c (.s nx 0 k c')) :: fr, (nx, .rows E sz k c' (fun i => r2 (j + i))) :: hp, nx + 1⟩) :
    SOp P C ⟨some d, .call { callee := .builtin .append, args := #[x, y], argTypes := #[t, t] }, ty, pos, af, g⟩ K ⟨fr, hp, nx⟩ := fun ρ a w hs => by
  obtain ⟨⟨hzl, hsz, hk0⟩, hjk, hbb, hkk⟩ := hz
  obtain ⟨i, z, hi, rfl, rfl, hiz, hzc⟩ := info_of h1 h2 h3
  obtain ⟨ds, hu, hds⟩ := kind_of hk
  simp only at hds; subst hds
  obtain ⟨hl, hnews⟩ := news_of hs.now.hp hr hjk hsz
  have hnl : ((rowsL (fun i => r2 (j + i)) k).map (CV.den ρ)).length = k * i.size := by rw [List.length_map, rowsL_len k hl]
  have hrun := run_append_nil (P := P) w t ty E i z hu hi hiz _ k c2 _ hnl hnews hk0 (by omega) (by omega)
  have hzs : z.cells.size = i.size := by rw [← Array.length_toList, hzc, hzl]
  have hge := grownCap_ge w k 0 E
  refine wp_value (v := .slice (some ⟨w.heap.size, 0, none⟩) k (grownCap w k 0 E)) ?_ ⟨_, _, hK.2 (grownCap w k 0 E) hge, (hs.drew).allocRows (cells := ((rowsL (fun i => r2 (j + i)) k).map (CV.den ρ)).toArray ++ Builtin.zeroCells z.cells (grownCap w k 0 E - k)) (c := grownCap w k 0 E) hK.1 ?_ fun ρ' hρ q hq => ⟨hl q hq, fun u hu => ?_⟩, Nat.le_succ _, fun k hk => by simp [envSet, Nat.ne_of_lt hk]⟩
  · simp only [execOp, resolve, invoke, builtin]
    simp [ev_c hs.fr' hx rfl, ev_c hs.fr' hy rfl, SV.den, CV.den]
    rw [hrun]; rfl
  · simp only [Array.size_append, List.size_toArray, hnl, len_zeroCells, hzs, ← Nat.add_mul]
    rw [show k + (grownCap w k 0 E - k) = grownCap w k 0 E by omega]; exact Nat.le_refl _
  · have hlt : q * i.size + u < k * i.size := by
      have : (q + 1) * i.size ≤ k * i.size := Nat.mul_le_mul_right _ hq
      rw [Nat.add_mul] at this; omega
    rw [Array.getElem?_append_left (by simp [hnl]; omega), List.getElem?_toArray]
    obtain ⟨_, hnews'⟩ := news_of (hs ρ' hρ).hp hr hjk hsz
    have e1 : ((rowsL (fun i => r2 (j + i)) k).map (CV.den ρ))[q * i.size + u]? = ((r2 (j + q))[u]?).map (CV.den ρ) := by rw [List.getElem?_map, rowsL_get k hl q u hq hu]
    have e2 : ((rowsL (fun i => r2 (j + i)) k).map (CV.den ρ'))[q * i.size + u]? = ((r2 (j + q))[u]?).map (CV.den ρ') := by rw [List.getElem?_map, rowsL_get k hl q u hq hu]
    rw [e1]
    have hul : u < (r2 (j + q)).length := by rw [hl q hq]; exact hu
    rw [List.getElem?_eq_getElem hul] at e1 e2 ⊢
    have f1 := hnews _ _ e1
    have f2 := hnews' _ _ e2
    have hb2 : b2 < nx := by
      unfold rowRd at hr
      split at hr
      · rename_i hb; exact hs.now.names _ _ (mem_hget hb)
      · rename_i hb; exact hs.now.names _ _ (mem_hget hb)
      · cases hr
    rw [hρ b2 hb2, f1] at f2
    simpa using f2

/-- 'append' onto a slice whose block is owned: in place, or in a new block; the block is named anew. -/
theorem sappend {d : Tmp} {x y : Operand} {t E ty : TypeId} {pos : String} {af : Array Edge} {g : Option (Nat × Bool)} {K : St → Prop} {b n m c b2 j k c2 sz bb m2 : Nat} {zs : List Value} {r r2 : Nat → List CV}
    (hx : St.ev ⟨fr, hp, nx⟩ x = .c (.s b 0 n c)) (hy : St.ev ⟨fr, hp, nx⟩ y = .c (.s b2 j k c2)) (hk : tkind P t = some (.slc E)) (h1 : tsz P E = some sz) (h2 : tby P E = some bb) (h3 : tzero P E = some zs)
    (hb : hget hp b = some (.rows E sz m c r)) (hr : rowRd (hget hp b2) = some (sz, m2, r2)) (hz : (zs.length = sz ∧ 0 < sz ∧ 0 < k ∧ n ≤ m) ∧ j + k ≤ m2 ∧ (n + k) * bb ≤ 140737488355328 ∧ n + k ≤ 9223372036854775807)
    (hone : ∀ i, i < k → (r2 (j + i)).all one1 = true)
    (hK : d < C.N ∧ ∀ c', n + k ≤ c' → K ⟨(d, .c (.s nx 0 (n + k) c')) :: fr, (nx, .rows E sz (n + k) c' (rapp r n (fun i => r2 (j + i)))) :: hrem hp b, nx + 1⟩) :
    SOp P C ⟨some d, .call { callee := .builtin .append, args := #[x, y], argTypes := #[t, t] }, ty, pos, af, g⟩ K ⟨fr, hp, nx⟩ := fun ρ a w hs => by
  obtain ⟨⟨hzl, hsz, hk0, hnm⟩, hjk, hbb, hkk⟩ := hz
  obtain ⟨i, z, hi, rfl, rfl, hiz, hzc⟩ := info_of h1 h2 h3
  obtain ⟨ds, hu, hds⟩ := kind_of hk
  simp only at hds; subst hds
  obtain ⟨hl, hnews⟩ := news_of hs.now.hp hr hjk hsz
  have hnl : ((rowsL (fun i => r2 (j + i)) k).map (CV.den ρ)).length = k * i.size := by rw [List.length_map, rowsL_len k hl]
  have hzs : z.cells.size = i.size := by rw [← Array.length_toList, hzc, hzl]
  have hbn := hs.now.names _ _ (mem_hget hb)
  have hb2 : b2 < nx := by
    unfold rowRd at hr
    split at hr
    · rename_i hb; exact hs.now.names _ _ (mem_hget hb)
    · rename_i hb; exact hs.now.names _ _ (mem_hget hb)
    · cases hr
  -- what is appended does not hang on further names
  have hsame : ∀ ρ' : Env, (∀ q, q < nx → ρ' q = ρ q) → (rowsL (fun i => r2 (j + i)) k).map (CV.den ρ') = (rowsL (fun i => r2 (j + i)) k).map (CV.den ρ) := fun ρ' hρ => by
    obtain ⟨_, hnews'⟩ := news_of (hs ρ' hρ).hp hr hjk hsz
    have hll := rowsL_len k hl
    apply List.ext_getElem?
    intro q
    by_cases hq : q < k * i.size
    · have e1 : ((rowsL (fun i => r2 (j + i)) k).map (CV.den ρ))[q]? = some (((rowsL (fun i => r2 (j + i)) k)[q]'(by omega)).den ρ) := by rw [List.getElem?_map, List.getElem?_eq_getElem (by omega)]; rfl
      have e2 : ((rowsL (fun i => r2 (j + i)) k).map (CV.den ρ'))[q]? = some (((rowsL (fun i => r2 (j + i)) k)[q]'(by omega)).den ρ') := by rw [List.getElem?_map, List.getElem?_eq_getElem (by omega)]; rfl
      have f1 := hnews _ _ e1
      have f2 := hnews' _ _ e2
      rw [hρ b2 hb2, f1] at f2
      rw [e1, e2]; exact f2.symm
    · rw [List.getElem?_eq_none (by simp; omega), List.getElem?_eq_none (by simp; omega)]
  obtain ⟨g0, ge, ⟨arr, g1, gc, g3⟩, gown⟩ := hs.now.hp _ _ (mem_hget hb)
  -- the rows of an array that begins with the old ones and goes on with the new ones
  have rows_of : ∀ (arr2 : Array Value) (ρ' : Env), (∀ q, q < nx → ρ' q = ρ q) → (∀ q, q < n * i.size → arr2[q]? = arr[q]?) → (∀ q, q < k * i.size → arr2[n * i.size + q]? = ((rowsL (fun i => r2 (j + i)) k).map (CV.den ρ))[q]?) →
      ∀ q, q < n + k → (rapp r n (fun i => r2 (j + i)) q).length = i.size ∧ ∀ u, u < i.size → arr2[q * i.size + u]? = ((rapp r n (fun i => r2 (j + i)) q)[u]?).map (CV.den ρ') := fun arr2 ρ' hρ ho hn q hq => by
    unfold rapp
    by_cases hqn : q < n
    · simp only [hqn, if_true]
      obtain ⟨_, _, ⟨arr', g1', _, g3'⟩, _⟩ := (hs ρ' hρ).hp _ _ (mem_hget hb)
      rw [hρ b hbn] at g1'
      have g1' := g1.inj g1'
      subst g1'
      refine ⟨(g3' q (by omega)).1, fun u hu => ?_⟩
      have : (q + 1) * i.size ≤ n * i.size := Nat.mul_le_mul_right _ hqn
      rw [Nat.add_mul] at this
      rw [ho _ (by omega)]
      exact (g3' q (by omega)).2 u hu
    · simp only [hqn, if_false]
      refine ⟨hl (q - n) (by omega), fun u hu => ?_⟩
      have e0 : q * i.size + u = n * i.size + ((q - n) * i.size + u) := by
        have : q * i.size = n * i.size + (q - n) * i.size := by rw [← Nat.add_mul]; congr 1; omega
        omega
      have e1 : (q - n + 1) * i.size ≤ k * i.size := Nat.mul_le_mul_right _ (by omega)
      rw [Nat.add_mul] at e1
      rw [e0, hn _ (by omega), ← hsame ρ' hρ, List.getElem?_map, rowsL_get k hl (q - n) u (by omega) hu]
  have holdl : n * i.size ≤ arr.size := by
    rcases Nat.eq_zero_or_pos n with h0 | h0
    · subst h0; simp
    · have h4 := (g3 (n - 1) (by omega)).2 (i.size - 1) (by omega)
      have h5 : ((r (n - 1))[i.size - 1]?).isSome := by simp [(g3 (n - 1) (by omega)).1]; omega
      have h6 : (arr[(n - 1) * i.size + (i.size - 1)]?).isSome := by rw [h4]; simpa using h5
      simp at h6
      have : n * i.size = (n - 1) * i.size + i.size := by rw [show n = n - 1 + 1 by omega, Nat.add_mul]; simp
      omega
  by_cases hroom : n + k ≤ c
  · -- in place
    have hfit : n * i.size + ((rowsL (fun i => r2 (j + i)) k).map (CV.den ρ)).length ≤ arr.size := by
      rw [hnl, ← Nat.add_mul]; exact Nat.le_trans (Nat.mul_le_mul_right _ hroom) gc
    have hrun := append_room (P := P) w t ty E i hu hi (ρ b).blk n c arr g1 _ k c2 _ hnl hnews (one_news hone ρ) hroom hfit
    refine wp_value (v := .slice (some ⟨(ρ b).blk, 0, none⟩) (n + k) c) (w' := w.setRow (ρ b).blk (arr.toList.take (n * i.size) ++ (rowsL (fun i => r2 (j + i)) k).map (CV.den ρ) ++ arr.toList.drop (n * i.size + ((rowsL (fun i => r2 (j + i)) k).map (CV.den ρ)).length)).toArray) ?_
      ⟨_, envSet ρ nx (ρ b), hK.2 c hroom, ?_, Nat.le_succ _, fun k hk => by simp [envSet, Nat.ne_of_lt hk]⟩
    · simp only [execOp, resolve, invoke, builtin]
      simp [ev_c hs.fr' hx rfl, ev_c hs.fr' hy rfl, SV.den, CV.den, g0]
      rw [hrun]
      simp
    · have h1 : Sat C ⟨fr, hset hp b (.rows E i.size (n + k) c (rapp r n (fun i => r2 (j + i)))), nx⟩ ρ a (w.setRow (ρ b).blk (arr.toList.take (n * i.size) ++ (rowsL (fun i => r2 (j + i)) k).map (CV.den ρ) ++ arr.toList.drop (n * i.size + ((rowsL (fun i => r2 (j + i)) k).map (CV.den ρ)).length)).toArray) := hs.set hb (hs.now.keeps.setRow _ _ gown) (by simp)
        (fun ρ' hρ q hq => setRow_other _ _ _ _ (fun e => hq (by simp [Blk.foot, hρ b hbn, e]))) (fun ρ' hρ => ⟨rfl, by rw [hρ b hbn]; exact g0, by rw [hρ b hbn]; exact ge,
          ⟨_, by rw [hρ b hbn]; exact g1.setRow (by simp [hnl]; omega), by simp [hnl]; omega, rows_of _ ρ' hρ (fun q hq => by
            rw [List.getElem?_toArray, List.append_assoc, List.getElem?_append_left (by simp; omega), List.getElem?_take_of_lt hq, Array.getElem?_toList]) (fun q hq => by
            rw [List.getElem?_toArray, List.getElem?_append_left (by simp [hnl]; omega), List.getElem?_append_right (by simp; omega)]
            congr 1; simp; omega)⟩, by rw [hρ b hbn]; exact gown⟩)
      have h1b := h1.rem b
      have hrs : ∀ (l : List (Nat × Blk)) (q : Blk), hrem (hset l b q) b = hrem l b := fun l q => by
        induction l with
        | nil => rfl
        | cons p l ih =>
          obtain ⟨m, u⟩ := p
          simp only [hset, natBeq]
          by_cases hm : m = b
          · subst hm; simp [hrem]
          · simp [hrem, hm, ih]
      rw [hrs] at h1b
      have hget' : ∀ ρ' : Env, (∀ q, q < nx → ρ' q = ρ q) → Blk.holds C ρ' b (w.setRow (ρ b).blk (arr.toList.take (n * i.size) ++ (rowsL (fun i => r2 (j + i)) k).map (CV.den ρ) ++ arr.toList.drop (n * i.size + ((rowsL (fun i => r2 (j + i)) k).map (CV.den ρ)).length)).toArray) (.rows E i.size (n + k) c (rapp r n (fun i => r2 (j + i)))) := fun ρ' hρ => by
        refine (h1 ρ' hρ).hp b _ (mem_hget ?_)
        have : ∀ l : List (Nat × Blk), (hget l b).isSome → ∀ q, hget (hset l b q) b = some q := fun l => by
          induction l with
          | nil => intro h; simp [hget] at h
          | cons p l ih =>
            obtain ⟨m, u⟩ := p
            intro h q
            simp only [hset, hget, natBeq] at h ⊢
            by_cases hm : m = b
            · simp [hm, hget]
            · simp [hm, hget, natBeq] at h ⊢; exact ih h q
        exact this _ (by rw [hb]; rfl) _
      have h2 := h1b.add (.rows E i.size (n + k) c (rapp r n (fun i => r2 (j + i)))) (ρ b) [(ρ b).blk] (fun ρ' hρ hn => by
          have := hget' ρ' hρ
          have e := hρ b hbn
          simp only [Blk.holds, e, hn] at this ⊢
          exact this) (fun ρ' hn => by simp [Blk.foot, hn]) (fun q hq hm => by
          simp at hq; subst hq
          obtain ⟨m', bl, hm', hb'⟩ := footL_out hm
          have := hrem_mem hm'
          exact foot_disj hs.now.nodup (mem_hget hb) this.1 (Ne.symm this.2) (by simp [Blk.foot]) hb') (by simp)
      refine Sat.put (st := ⟨fr, _, _⟩) (d := some d) h2 hK.1 fun _ ρ' hρ => ?_
      have := hρ nx (by simp)
      simp [SV.den, CV.den, this, envSet, g0]
  · -- a new block
    have holds : ∀ q u, (arr.toList.take (n * i.size))[q]? = some u → w.cell? ((⟨(ρ b).blk, 0, none⟩ : Addr).add q) = some u := fun q u hq => by
      rw [addr_add _ _ rfl]
      have hlt : q < n * i.size := by
        have := (List.getElem?_eq_some_iff.1 hq).1; simp at this; omega
      rw [List.getElem?_take_of_lt hlt, Array.getElem?_toList] at hq
      rw [g1.cell]; simpa using hq
    have hrun := run_append_grow (P := P) w t ty E i z hu hi hiz ⟨(ρ b).blk, 0, none⟩ n c (arr.toList.take (n * i.size)) (by simp; omega) holds _ k c2 _ hnl hnews (by omega) (by omega) (growslice_fits (by omega) hbb)
    have hge := grownCap_ge w (n + k) c E
    refine wp_value (v := .slice (some ⟨w.heap.size, 0, none⟩) (n + k) (grownCap w (n + k) c E)) ?_ ⟨_, _, hK.2 (grownCap w (n + k) c E) hge, ((hs.rem b).drew).allocRows (cells := (arr.toList.take (n * i.size)).toArray ++ ((rowsL (fun i => r2 (j + i)) k).map (CV.den ρ)).toArray ++ Builtin.zeroCells z.cells (grownCap w (n + k) c E - (n + k))) (c := grownCap w (n + k) c E) hK.1 ?_ fun ρ' hρ q hq => rows_of _ ρ' hρ (fun q hq => ?_) (fun q hq => ?_) q hq, Nat.le_succ _, fun k hk => by simp [envSet, Nat.ne_of_lt hk]⟩
    · simp only [execOp, resolve, invoke, builtin]
      simp [ev_c hs.fr' hx rfl, ev_c hs.fr' hy rfl, SV.den, CV.den, g0]
      rw [hrun]; simp
    · simp only [Array.size_append, List.size_toArray, hnl, len_zeroCells, hzs, List.length_take, Array.length_toList, Nat.min_eq_left holdl, ← Nat.add_mul]
      rw [show n + k + (grownCap w (n + k) c E - (n + k)) = grownCap w (n + k) c E by omega]; exact Nat.le_refl _
    · rw [Array.append_assoc, Array.getElem?_append_left (by simp; omega), List.getElem?_toArray, List.getElem?_take_of_lt hq, Array.getElem?_toList]
    · rw [Array.getElem?_append_left (by simp [hnl]; omega), Array.getElem?_append_right (by simp; omega), List.getElem?_toArray]
      congr 1; simp; omega

end
end Go.Sx
