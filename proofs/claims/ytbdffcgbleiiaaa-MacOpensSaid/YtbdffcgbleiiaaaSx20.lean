/-
  'copy', 'clear', 'append' of so many zeros, of nothing; whether two slices overlap. Conditions: none.
-/
import Derived.Test.YtbdffcgbleiiaaaSx19
import Derived.Lib.Overlaps
set_option linter.unusedVariables false
namespace Go.Sx
open Go.RowKit

/-- Some rows put over others. -/
def rput (r : Nat → List CV) (i q : Nat) (s : Nat → List CV) (p : Nat) : List CV := if i ≤ p ∧ p < i + q then s (p - i) else r p

section
variable {P : Program} {C : Cx} {fr : List (Nat × SV)} {hp : List (Nat × Blk)} {nx : Nat}

theorem rowcell {ρ : Env} {w : World} (hok : HpOk C ρ w hp) {b e m : Nat} {r : Nat → List CV} (h : rowRd (hget hp b) = some (e, m, r)) {p : Nat} (hp' : p < m) :
    (ρ b).esz = e ∧ (r p).length = e ∧ ∀ q, q < e → w.cell? ⟨(ρ b).blk, (ρ b).base + p * e + q, none⟩ = ((r p)[q]?).map (CV.den ρ) := by
  unfold rowRd at h
  split at h
  · rename_i hb
    injection h with h; injection h with h1 h2; injection h2 with h2 h3; subst h1; subst h2; subst h3
    obtain ⟨g0, g1, ⟨arr, g2, _, g3⟩, _⟩ := hok _ _ (mem_hget hb)
    refine ⟨g1, (g3 p hp').1, fun q hq => ?_⟩
    rw [← (g3 p hp').2 q hq]
    rw [g0, g2.cell, Nat.zero_add]
  · rename_i hb
    injection h with h; injection h with h1 h2; injection h2 with h2 h3; subst h1; subst h2; subst h3
    obtain ⟨g1, g3, _⟩ := hok _ _ (mem_hget hb)
    exact ⟨g1, (g3 p hp').1, fun q hq => (g3 p hp').2 q hq⟩
  · cases h
theorem rowRd_lt {ρ : Env} {a : Act} {w : World} (hs : Sat C ⟨fr, hp, nx⟩ ρ a w) {b : Nat} {x : Nat × Nat × (Nat → List CV)} (h : rowRd (hget hp b) = some x) : b < nx := by
  unfold rowRd at h
  split at h
  · rename_i hb; exact hs.now.names _ _ (mem_hget hb)
  · rename_i hb; exact hs.now.names _ _ (mem_hget hb)
  · cases h
theorem den_row {ρ : Env} {a : Act} {w : World} (hs : Sat C ⟨fr, hp, nx⟩ ρ a w) {b e m : Nat} {r : Nat → List CV} (h : rowRd (hget hp b) = some (e, m, r)) {p : Nat} (hp' : p < m) {ρ' : Env} (hρ : ∀ k, k < nx → ρ' k = ρ k) : (r p).map (CV.den ρ') = (r p).map (CV.den ρ) := by
  obtain ⟨_, h1, h2⟩ := rowcell hs.now.hp h hp'
  obtain ⟨_, _, h3⟩ := rowcell (hs ρ' hρ).hp h hp'
  have hb := rowRd_lt hs h
  apply List.ext_getElem?
  intro q
  rw [List.getElem?_map, List.getElem?_map]
  by_cases hq : q < e
  · rw [← h2 q hq, ← h3 q hq, hρ b hb]
  · rw [List.getElem?_eq_none (by omega)]; rfl

theorem known_size {arr : Array Value} {e m : Nat} {r : Nat → List CV} {ρ : Env} (he : 0 < e) (g3 : ∀ i, i < m → (r i).length = e ∧ ∀ k, k < e → arr[i * e + k]? = ((r i)[k]?).map (CV.den ρ)) {n : Nat} (hn : n ≤ m) : n * e ≤ arr.size := by
  rcases Nat.eq_zero_or_pos n with h0 | h0
  · subst h0; simp
  · have h4 := (g3 (n - 1) (by omega)).2 (e - 1) (by omega)
    have h5 : ((r (n - 1))[e - 1]?).isSome := by simp [(g3 (n - 1) (by omega)).1]; omega
    have h6 : (arr[(n - 1) * e + (e - 1)]?).isSome := by rw [h4]; simpa using h5
    simp at h6
    have : n * e = (n - 1) * e + e := by rw [show n = n - 1 + 1 by omega, Nat.add_mul]; simp
    omega

/-- Rows stored into a block. -/
theorem store_rows {ρ : Env} {a : Act} {w : World} (hs : Sat C ⟨fr, hp, nx⟩ ρ a w) {b ty e m c : Nat} {r : Nat → List CV} (hb : hget hp b = some (.rows ty e m c r)) (he : 0 < e) {i q : Nat} (hi : i ≤ m) (hq : i + q ≤ c) {s : Nat → List CV}
    (hl : ∀ p, p < q → (s p).length = e) (hone : ∀ p, p < q → (s p).all one1 = true) (hden : ∀ ρ' : Env, (∀ k, k < nx → ρ' k = ρ k) → ∀ p, p < q → (s p).map (CV.den ρ') = (s p).map (CV.den ρ)) :
    ∃ w', (storeCells ⟨(ρ b).blk, i * e, none⟩ ((rowsL s q).map (CV.den ρ))).run P w = .ok () w' ∧ Sat C ⟨fr, hset hp b (.rows ty e (max m (i + q)) c (rput r i q s)), nx⟩ ρ a w' := by
  obtain ⟨g0, ge, ⟨arr, g1, gc, g3⟩, gown⟩ := hs.now.hp _ _ (mem_hget hb)
  have hbn := hs.now.names _ _ (mem_hget hb)
  have hln : ((rowsL s q).map (CV.den ρ)).length = q * e := by rw [List.length_map, rowsL_len q hl]
  have hfit : i * e + q * e ≤ arr.size := by rw [← Nat.add_mul]; exact Nat.le_trans (Nat.mul_le_mul_right _ hq) gc
  have hone' : ∀ v ∈ (rowsL s q).map (CV.den ρ), v.oneCell' = true := one_news hone ρ
  have hrun := g1.store (P := P) (o := i * e) ((rowsL s q).map (CV.den ρ)) (by rw [hln]; omega) hone'
  rw [hln] at hrun
  have hie : i * e ≤ arr.size := by omega
  refine ⟨_, hrun, hs.set hb (hs.now.keeps.setRow _ _ gown) (by simp) (fun ρ' hρ k hk => setRow_other _ _ _ _ (fun e => hk (by simp [Blk.foot, hρ b hbn, e])))
    (fun ρ' hρ => ⟨rfl, by rw [hρ b hbn]; exact g0, by rw [hρ b hbn]; exact ge, ⟨_, by rw [hρ b hbn]; exact g1.setRow (by simp [hln]; omega), by simp [hln]; omega, fun p hp => ?_⟩, by rw [hρ b hbn]; exact gown⟩)⟩
  unfold rput
  by_cases hpi : i ≤ p ∧ p < i + q
  · simp only [hpi, and_self, if_true]
    refine ⟨hl (p - i) (by omega), fun u hu => ?_⟩
    have e0 : p * e + u = i * e + ((p - i) * e + u) := by
      have : p * e = i * e + (p - i) * e := by rw [← Nat.add_mul]; congr 1; omega
      omega
    have e1 : (p - i + 1) * e ≤ q * e := Nat.mul_le_mul_right _ (by omega)
    rw [Nat.add_mul] at e1
    rw [e0, List.getElem?_toArray, List.getElem?_append_left (by simp [hln]; omega), List.getElem?_append_right (by simp; omega)]
    rw [show i * e + ((p - i) * e + u) - (arr.toList.take (i * e)).length = (p - i) * e + u by simp; omega]
    rw [List.getElem?_map, rowsL_get q hl (p - i) u (by omega) hu, ← List.getElem?_map, ← hden ρ' hρ (p - i) (by omega), List.getElem?_map]
  · rw [if_neg hpi]
    have hpm : p < m := by omega
    obtain ⟨_, _, ⟨arr', g1', _, g3'⟩, _⟩ := (hs ρ' hρ).hp _ _ (mem_hget hb)
    rw [hρ b hbn] at g1'
    have g1' := g1.inj g1'
    subst g1'
    refine ⟨(g3' p hpm).1, fun u hu => ?_⟩
    rw [← (g3' p hpm).2 u hu, List.getElem?_toArray]
    have e2 : (p + 1) * e = p * e + e := by rw [Nat.add_mul]; omega
    rcases Nat.lt_or_ge p i with hlt | hge
    · have : (p + 1) * e ≤ i * e := Nat.mul_le_mul_right _ hlt
      rw [List.append_assoc, List.getElem?_append_left (by simp; omega), List.getElem?_take_of_lt (by omega), Array.getElem?_toList]
    · have hge' : i + q ≤ p := by omega
      have : (i + q) * e ≤ p * e := Nat.mul_le_mul_right _ hge'
      rw [Nat.add_mul] at this
      rw [List.getElem?_append_right (by simp [hln]; omega), List.getElem?_drop, Array.getElem?_toList]
      congr 1; simp [hln]; omega

theorem wp_run {o : Oper} {a : Act} {w w' : World} {v : Value} {K : Act → World → Prop} (h : (execOp a.eval o).run P w = .ok (.value v) w') (hK : K (a.put o.dst v) w') : o.wp P a w K nQ := wp_value h hK

theorem scopy {d : Option Tmp} {x y : Operand} {t t2 E ty0 ty : TypeId} {pos : String} {af : Array Edge} {g : Option (Nat × Bool)} {K : St → Prop} {b i n c b2 j k c2 sz m cc m2 q : Nat} {r r2 : Nat → List CV}
    (hx : St.ev ⟨fr, hp, nx⟩ x = .c (.s b i n c)) (hy : St.ev ⟨fr, hp, nx⟩ y = .c (.s b2 j k c2)) (hk : tkind P t = some (.slc E)) (h1 : tsz P E = some sz) (hb : hget hp b = some (.rows ty sz m cc r)) (hr : rowRd (hget hp b2) = some (sz, m2, r2))
    (hq : min k n = q) (hz : 0 < sz ∧ i ≤ m ∧ i + q ≤ cc ∧ j + q ≤ m2) (hone : ∀ p, p < q → (r2 (j + p)).all one1 = true)
    (hK : dOk C.N d ∧ K (St.put ⟨fr, hset hp b (.rows ty sz (max m (i + q)) cc (rput r i q fun p => r2 (j + p))), nx⟩ d (.c (.v (.int .i64 q))))) :
    SOp P C ⟨d, .call { callee := .builtin .copy, args := #[x, y], argTypes := #[t, t2] }, ty0, pos, af, g⟩ K ⟨fr, hp, nx⟩ := fun ρ a w hs => by
  obtain ⟨hsz, him, hic, hjm⟩ := hz
  obtain ⟨ds, hu, hds⟩ := kind_of hk
  simp only at hds; subst hds
  obtain ⟨g0, ge, _, _⟩ := hs.now.hp _ _ (mem_hget hb)
  have hrc : ∀ p, p < q → _ := fun p (hp' : p < q) => rowcell hs.now.hp hr (p := j + p) (by omega)
  have hl : ∀ p, p < q → (r2 (j + p)).length = sz := fun p hp' => (hrc p hp').2.1
  obtain ⟨w', hst, hsat⟩ := store_rows (P := P) hs hb hsz him hic hl hone (fun ρ' hρ p hp' => den_row hs hr (by omega) hρ)
  have hln := rowsL_len q hl
  have hld : (loadCells ⟨(ρ b2).blk, (ρ b2).base + j * (ρ b2).esz, none⟩ (q * sz)).run P w = .ok ((rowsL (fun p => r2 (j + p)) q).map (CV.den ρ)).toArray w := by
    have := run_loadCells_list (P := P) w ⟨(ρ b2).blk, (ρ b2).base + j * (ρ b2).esz, none⟩ ((rowsL (fun p => r2 (j + p)) q).map (CV.den ρ)) (fun u v hv => by
      have hu' : u < q * sz := by
        have := (List.getElem?_eq_some_iff.1 hv).1
        rw [List.length_map, hln] at this; exact this
      obtain ⟨d1, d2, d3⟩ := div_mod_lt hu' hsz
      obtain ⟨e1, e2, e3⟩ := hrc (u / sz) d1
      rw [← hv, List.getElem?_map]
      have e4 := rowsL_get q hl (u / sz) (u % sz) d1 d2
      rw [d3] at e4
      rw [e4, ← e3 (u % sz) d2, addr_add _ _ rfl, e1]
      have e9 : (ρ b2).base + (j + u / sz) * sz + u % sz = (ρ b2).base + j * sz + u := by rw [Nat.add_mul]; omega
      rw [e9])
    rw [List.length_map, hln] at this
    exact this
  refine wp_value (v := .int .i64 q) (w' := w') ?_ ⟨_, ρ, hK.2, hsat.put hK.1 fun _ _ _ => rfl, by cases d <;> simp [St.put], fun _ _ => rfl⟩
  simp only [execOp, resolve, invoke, builtin]
  simp [ev_c hs.fr' hx rfl, ev_c hs.fr' hy rfl, SV.den, CV.den, Builtin.copy_, run_underlying hu, Builtin.lenOf, sizeOf_of h1, Builtin.firstCells, Nat.min_def]
  simp only [Nat.min_def] at hq
  rw [hq, hld]
  simp [g0, ge]
  rw [hst]
  simp [goInt]

theorem sclear {d : Option Tmp} {x : Operand} {t E ty0 ty : TypeId} {pos : String} {af : Array Edge} {g : Option (Nat × Bool)} {K : St → Prop} {b i n c sz m cc : Nat} {zs : List Value} {r : Nat → List CV}
    (hx : St.ev ⟨fr, hp, nx⟩ x = .c (.s b i n c)) (hk : tkind P t = some (.slc E)) (h1 : tsz P E = some sz) (h3 : tzero P E = some zs) (hb : hget hp b = some (.rows ty sz m cc r))
    (hz : (0 < sz ∧ zs.length = sz ∧ zs.all (fun v => one1 (.v v)) = true) ∧ i ≤ m ∧ i + n ≤ cc)
    (hK : dOk C.N d ∧ K (St.put ⟨fr, hset hp b (.rows ty sz (max m (i + n)) cc (rput r i n fun _ => zs.map .v)), nx⟩ d (.tup []))) :
    SOp P C ⟨d, .call { callee := .builtin .clear, args := #[x], argTypes := #[t] }, ty0, pos, af, g⟩ K ⟨fr, hp, nx⟩ := fun ρ a w hs => by
  obtain ⟨⟨hsz, hzl, hzo⟩, him, hic⟩ := hz
  obtain ⟨ds, hu, hds⟩ := kind_of hk
  simp only at hds; subst hds
  obtain ⟨g0, ge, _, _⟩ := hs.now.hp _ _ (mem_hget hb)
  have hl : ∀ p, p < n → ((fun _ => zs.map CV.v) p : List CV).length = sz := fun p _ => by simp [hzl]
  obtain ⟨w', hst, hsat⟩ := store_rows (P := P) hs hb hsz him hic hl (fun p _ => by simpa [List.all_map, Function.comp_def] using hzo) (fun ρ' hρ p hp' => by rw [map_v, map_v])
  obtain ⟨z, hzz, hzc⟩ := zero_of h3 w
  have hcells : (Builtin.zeroCells z.cells n).toList = (rowsL (fun _ => zs.map CV.v) n).map (CV.den ρ) := by
    have hzs : z.cells.size = sz := by rw [← Array.length_toList, hzc, hzl]
    apply List.ext_getElem?
    intro u
    by_cases hu' : u < n * sz
    · obtain ⟨d1, d2, d3⟩ := div_mod_lt hu' hsz
      have e4 := rowsL_get n hl (u / sz) (u % sz) d1 d2
      rw [d3] at e4
      rw [List.getElem?_map, e4, ← List.getElem?_map, map_v]
      simp only [Builtin.zeroCells, Array.toList_map, Array.toList_range, List.getElem?_map, hzs, List.getElem?_range hu', Option.map_some]
      have : u % sz < z.cells.size := by rw [hzs]; exact d2
      rw [getElem!_pos z.cells (u % sz) this, ← hzc]
      simp [this]
    · rw [List.getElem?_eq_none (by simp [Builtin.zeroCells, hzs]; omega), List.getElem?_eq_none (by rw [List.length_map, rowsL_len n hl]; omega)]
  refine wp_value (v := .tuple #[]) (w' := w') ?_ ⟨_, ρ, hK.2, hsat.put hK.1 fun _ _ _ => rfl, by cases d <;> simp [St.put], fun _ _ => rfl⟩
  simp only [execOp, resolve, invoke, builtin]
  simp [ev_c hs.fr' hx rfl, SV.den, CV.den, Builtin.clear_, run_underlying hu]
  cases n with
  | zero =>
    have hw : w' = w := by
      have : (rowsL (fun _ => zs.map CV.v) 0 : List CV) = [] := rfl
      rw [this] at hst
      simp [storeCells] at hst
      exact hst.symm
    subst hw
    simp
  | succ n =>
    simp [hzz, hcells, g0, ge]
    rw [hst]; simp
end
end Go.Sx
