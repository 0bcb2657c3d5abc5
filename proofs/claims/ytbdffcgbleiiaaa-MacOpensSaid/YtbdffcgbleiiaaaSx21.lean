/-
  'append' of so many zeros, of nothing; a function that is the model's; whether two slices overlap. Conditions: none.
-/
import Derived.Test.YtbdffcgbleiiaaaSx20
import Derived.Test.YtbdffcgbleiiaaaSx13
set_option linter.unusedVariables false
set_option linter.unusedSimpArgs false
namespace Go.Sx
open Go.RowKit
section
variable {P : Program} {C : Cx} {fr : List (Nat × SV)} {hp : List (Nat × Blk)} {nx : Nat}

theorem run_append_zeros (w : World) (t tn ty e : TypeId) (i : TypeInfo) (z : Value) (kk kn : IntKind) (ht : P.underlying t = some (.slice e)) (htn : P.underlying tn = some (.int kn)) (hi : P.info? e = some i) (hz : i.zero = some z)
    (b : Addr) (sLen sCap : Nat) (olds : List Value) (hlo : olds.length = sLen * i.size) (holds : ∀ j v, olds[j]? = some v → w.cell? (b.add j) = some v)
    (n : Nat) (h0 : 0 < n) (hs : 0 < i.size) (hg : sCap < sLen + n) (h63 : ((sLen + n : Nat) : Int) ≤ 9223372036854775807) (hfit : Builtin.nextslicecap (sLen + n) sCap * i.bytes ≤ 281474976710656) (h48 : n * i.bytes ≤ 281474976710656) :
    (Builtin.append_ #[t, tn] ty #[.slice (some b) sLen sCap, .int kk n]).run P w =
      .ok (.slice (some ⟨w.heap.size, 0, none⟩) (sLen + n) (grownCap w (sLen + n) sCap e))
        (w.drew.alloc (.cells (olds.toArray ++ Builtin.zeroCells z.cells n ++ Builtin.zeroCells z.cells (grownCap w (sLen + n) sCap e - (sLen + n))) e)) := by
  have hn : ¬ (sLen + n ≤ sCap) := by omega
  have hw : IntKind.i64.wrap (n : Int) = n := wrap_i64 _ (by omega) (by omega)
  have h63' : ¬ (9223372036854775807 < ((sLen : Int) + (n : Int))) := by omega
  have h48' : ¬ (281474976710656 < Builtin.nextslicecap (sLen + n) sCap * i.bytes) := by omega
  have h48i : ¬ (281474976710656 < (n : Int) * (i.bytes : Int)) := by rw [← Int.natCast_mul]; omega
  have hneg : ¬ ((n : Int) < 0) := by omega
  have hns : ¬ (n * i.size = 0) := Nat.mul_ne_zero (by omega) (by omega)
  have hn0 : n ≠ 0 := by omega
  have hfo := run_firstCells_some (P := P) w.drew i.size sLen b sLen sCap olds hlo (by simpa using holds)
  simp [Builtin.append_, run_underlying ht, run_underlying htn, sizeOf, typeInfo, zeroValue, hi, hz, asInt, asIntOf, hw, hn, hn0, hneg, hns, h63', h48', h48i, Question.forced, hfo, newRow, grownCap]

theorem sappend_z {d : Tmp} {x y : Operand} {t tn E ty0 ty : TypeId} {pos : String} {af : Array Edge} {g : Option (Nat × Bool)} {K : St → Prop} {b n c sz bb m cc k : Nat} {kk kn : IntKind} {zs : List Value} {r : Nat → List CV}
    (hx : St.ev ⟨fr, hp, nx⟩ x = .c (.s b 0 n c)) (hy : St.ev ⟨fr, hp, nx⟩ y = .c (.v (.int kk k))) (hk : tkind P t = some (.slc E)) (hkn : tint P tn = some (some kn)) (h1 : tsz P E = some sz) (h2 : tby P E = some bb) (h3 : tzero P E = some zs)
    (hb : hget hp b = some (.rows ty sz m cc r)) (hz : (zs.length = sz ∧ 0 < sz ∧ 0 < k) ∧ n ≤ m ∧ c < n + k ∧ (n + k) * bb ≤ 140737488355328 ∧ n + k ≤ 9223372036854775807)
    (hK : d < C.N ∧ ∀ c', n + k ≤ c' → K ⟨(d, .c (.s nx 0 (n + k) c')) :: fr, (nx, .rows E sz (n + k) c' (rapp r n fun _ => zs.map .v)) :: hp, nx + 1⟩) :
    SOp P C ⟨some d, .call { callee := .builtin .append, args := #[x, y], argTypes := #[t, tn] }, ty0, pos, af, g⟩ K ⟨fr, hp, nx⟩ := fun ρ a w hs => by
  obtain ⟨⟨hzl, hsz, hk0⟩, hnm, hcn, hbb, hkk⟩ := hz
  obtain ⟨i, z, hi, rfl, rfl, hiz, hzc⟩ := info_of h1 h2 h3
  obtain ⟨ds, hu, hds⟩ := kind_of hk
  simp only at hds; subst hds
  have hbn := hs.now.names _ _ (mem_hget hb)
  obtain ⟨g0, ge, ⟨arr, g1, gc, g3⟩, gown⟩ := hs.now.hp _ _ (mem_hget hb)
  have holdl := known_size hsz g3 hnm
  have hzs : z.cells.size = i.size := by rw [← Array.length_toList, hzc, hzl]
  have holds : ∀ q u, (arr.toList.take (n * i.size))[q]? = some u → w.cell? ((⟨(ρ b).blk, 0, none⟩ : Addr).add q) = some u := fun q u hq => by
    rw [addr_add _ _ rfl]
    have hlt : q < n * i.size := by
      have := (List.getElem?_eq_some_iff.1 hq).1; simp at this; omega
    rw [List.getElem?_take_of_lt hlt, Array.getElem?_toList] at hq
    rw [g1.cell]; simpa using hq
  have hkb : k * i.bytes ≤ 281474976710656 := by
    have : k * i.bytes ≤ (n + k) * i.bytes := Nat.mul_le_mul_right _ (by omega)
    omega
  have hrun := run_append_zeros (P := P) w t tn ty0 E i z kk kn hu (tint_of hkn) hi hiz ⟨(ρ b).blk, 0, none⟩ n c (arr.toList.take (n * i.size)) (by simp; omega) holds k hk0 hsz hcn (by omega) (growslice_fits (by omega) hbb) hkb
  have hge := grownCap_ge w (n + k) c E
  have hzk : (Builtin.zeroCells z.cells k).size = k * i.size := by rw [len_zeroCells, hzs]
  refine wp_value (v := .slice (some ⟨w.heap.size, 0, none⟩) (n + k) (grownCap w (n + k) c E)) ?_ ⟨_, _, hK.2 (grownCap w (n + k) c E) hge, (hs.drew).allocRows (cells := (arr.toList.take (n * i.size)).toArray ++ Builtin.zeroCells z.cells k ++ Builtin.zeroCells z.cells (grownCap w (n + k) c E - (n + k))) hK.1 ?_ (fun ρ' hρ q hq => ?_), Nat.le_succ _, fun k hk => by simp [envSet, Nat.ne_of_lt hk]⟩
  · simp only [execOp, resolve, invoke, builtin]
    simp [ev_c hs.fr' hx rfl, ev_c hs.fr' hy rfl, SV.den, CV.den, g0]
    rw [hrun]; simp
  · simp only [Array.size_append, List.size_toArray, hzk, len_zeroCells, hzs, List.length_take, Array.length_toList, Nat.min_eq_left holdl, ← Nat.add_mul]
    rw [show n + k + (grownCap w (n + k) c E - (n + k)) = grownCap w (n + k) c E by omega]; exact Nat.le_refl _
  · unfold rapp
    have hq1 : (q + 1) * i.size = q * i.size + i.size := by rw [Nat.add_mul]; omega
    by_cases hqn : q < n
    · simp only [hqn, if_true]
      obtain ⟨_, _, ⟨arr', g1', _, g3'⟩, _⟩ := (hs ρ' hρ).hp _ _ (mem_hget hb)
      rw [hρ b hbn] at g1'
      have g1' := g1.inj g1'
      subst g1'
      refine ⟨(g3' q (by omega)).1, fun u hu => ?_⟩
      have : (q + 1) * i.size ≤ n * i.size := Nat.mul_le_mul_right _ hqn
      rw [Array.append_assoc, Array.getElem?_append_left (by simp; omega), List.getElem?_toArray, List.getElem?_take_of_lt (by omega), Array.getElem?_toList]
      exact (g3' q (by omega)).2 u hu
    · simp only [hqn, if_false]
      refine ⟨by simp [hzl], fun u hu => ?_⟩
      have e0 : q * i.size + u = n * i.size + ((q - n) * i.size + u) := by
        have : q * i.size = n * i.size + (q - n) * i.size := by rw [← Nat.add_mul]; congr 1; omega
        omega
      have e1 : (q - n + 1) * i.size ≤ k * i.size := Nat.mul_le_mul_right _ (by omega)
      rw [Nat.add_mul] at e1
      rw [e0, Array.append_assoc, Array.getElem?_append_right (by simp; omega), Array.getElem?_append_left (by simp [hzk]; omega)]
      rw [show n * i.size + ((q - n) * i.size + u) - (arr.toList.take (n * i.size)).toArray.size = (q - n) * i.size + u by simp; omega]
      rw [← List.getElem?_map, map_v, ← hzc]
      have hu' : (q - n) * i.size + u < k * z.cells.size := by rw [hzs]; omega
      have hm : ((q - n) * i.size + u) % z.cells.size = u := by rw [hzs, Nat.mul_comm, Nat.mul_add_mod]; exact Nat.mod_eq_of_lt hu
      have hu2 : u < z.cells.size := by omega
      rw [← Array.getElem?_toList]
      simp only [Builtin.zeroCells, Array.toList_map, Array.toList_range, List.getElem?_map, List.getElem?_range hu', Option.map_some, hm]
      rw [getElem!_pos z.cells u hu2]; simp [hu2]

theorem imm_of_rows {ρ : Env} {w : World} {n ty e m c : Nat} {r : Nat → List CV} {rv : Nat → List Value} (h : (Blk.rows ty e m c r).holds C ρ n w) (hr : ∀ i, i < m → r i = (rv i).map .v) : ImmAt w (ρ n).blk (ρ n).base e m rv := by
  obtain ⟨h1, h2, ⟨arr, h3, h4, h5⟩, h6⟩ := h
  refine ⟨fun _ => h3.lt, fun i hi => ?_, fun i hi u hu => ?_⟩
  · have := (h5 i hi).1
    rw [hr i hi] at this; simpa using this
  · have := (h5 i hi).2 u hu
    rw [hr i hi, ← List.getElem?_map, map_v] at this
    rw [h1, h3.cell, Nat.zero_add]
    exact this
theorem Sat.sub {ρ : Env} {a : Act} {w : World} (hs : Sat C ⟨fr, hp, nx⟩ ρ a w) {hp' : List (Nat × Blk)} (h2 : hpSub hp hp') (h3 : (hp'.map (·.1)).Nodup) : Sat C ⟨[], hp', nx⟩ ρ a w := fun ρ' hρ => by
  have h0 := hs ρ' hρ
  exact ⟨fun t ht => (by cases ht), h0.defers, h0.size, h0.keeps, fun m b hm => h0.hp m b (mem_hget (hpSub_mem h2 m b hm)), sub_nodup h0.nodup _ (fun x hx => mem_hget (hpSub_mem h2 x.1 x.2 hx)) h3, fun m b hm => h0.names m b (mem_hget (hpSub_mem h2 m b hm)), h3, h0.n0le⟩
/-- 'append' of a slice in which nothing is. -/
theorem sappend_k0 {d : Tmp} {x y : Operand} {t E ty : TypeId} {pos : String} {af : Array Edge} {g : Option (Nat × Bool)} {K : St → Prop} {b i n c sz : Nat} {b2 j c2 : Nat}
    (hx : St.ev ⟨fr, hp, nx⟩ x = .c (.s b i n c)) (hy : St.ev ⟨fr, hp, nx⟩ y = .c (.s b2 j 0 c2)) (hk : tkind P t = some (.slc E)) (h1 : tsz P E = some sz) (hn : n ≤ c) (hbn : b < nx)
    (hK : d < C.N ∧ K ⟨(d, .c (.s b i n c)) :: fr, hp, nx⟩) :
    SOp P C ⟨some d, .call { callee := .builtin .append, args := #[x, y], argTypes := #[t, t] }, ty, pos, af, g⟩ K ⟨fr, hp, nx⟩ := by
  obtain ⟨ds, hu, hds⟩ := kind_of hk
  simp only at hds; subst hds
  refine SOp_put (.c (.s b i n c)) rfl rfl (fun ρ a w hs => ?_) (fun ρ a w hs ρ' hρ => by simp [SV.den, CV.den, hρ b hbn]) hK
  have hld : ∀ a0 : Addr, (loadCells a0 0).run P w = .ok #[] w := fun a0 => by simp [loadCells, loadCellsFrom]
  simp [execOp, resolve, invoke, builtin, Builtin.append_, ev_c hs.fr' hx rfl, ev_c hs.fr' hy rfl, SV.den, CV.den, run_underlying hu, sizeOf_of h1, Builtin.lenOf, Builtin.firstCells, hn, hld, storeCells]

/-- A call of a function that is the model's own. -/
theorem scall_extern {f : FuncId} {fn : Func} {e : Array Value → Sem Value} {args : List SV} {d : Option Tmp} {K : St → Prop} (hf : P.funcs[f]? = some fn) (hname : (fn.name == "runtime.NumGoroutine") = false) (hb : fn.body.isNone = true) (hn : Extern.findNext fn = none) (he : Extern.find fn = some e)
    (v : Value) (hok : SV.okL args = true) (hrun : ∀ ρ a w, Sat C ⟨fr, hp, nx⟩ ρ a w → (e (SV.denL ρ args).toArray).run P w = .ok v w) (hK : dOk C.N d ∧ kput K ⟨fr, hp, nx⟩ d (.c (.v v))) : SCall P C f args d K ⟨fr, hp, nx⟩ :=
  ⟨hok, fun ρ w a hs _ => .inr ⟨v, w, by rw [run_callFunc_extern hf hname hb hn he, hrun ρ a w hs]; rfl, _, ρ, hK.2, hs.put hK.1 fun _ _ _ => rfl, by cases d <;> simp [St.put], fun _ _ => rfl⟩⟩
/-- Two slices in two blocks do not overlap. -/
theorem overlaps_run {ρ : Env} {a : Act} {w : World} (hs : Sat C ⟨fr, hp, nx⟩ ρ a w) {t tR E sz b i n c b2 j k c2 : Nat} {ty ty2 e e2 m m2 cc cc2 : Nat} {r r2 : Nat → List CV} (hk : tkind P t = some (.slc E)) (h1 : tsz P E = some sz)
    (hb : hget hp b = some (.rows ty e m cc r)) (hb2 : hget hp b2 = some (.rows ty2 e2 m2 cc2 r2)) (hne : b ≠ b2) (h0 : 0 < e2 ∧ 0 < cc2) (he1 : e ≠ 1) :
    (Extern.SlicesOverlaps.overlaps #[t, t] #[tR] (SV.denL ρ [.c (.s b i n c), .c (.s b2 j k c2)]).toArray).run P w = .ok (.bool false) w := by
  obtain ⟨ds, hu, hds⟩ := kind_of hk
  simp only at hds; subst hds
  obtain ⟨g0, ge, ⟨arr, g1, gc, g3⟩, gown⟩ := hs.now.hp _ _ (mem_hget hb)
  obtain ⟨k0, ke, ⟨arr2, k1, kc, k3⟩, kown⟩ := hs.now.hp _ _ (mem_hget hb2)
  have hd : (ρ b).blk ≠ (ρ b2).blk := fun he => foot_disj hs.now.nodup (mem_hget hb) (mem_hget hb2) hne (k := (ρ b).blk) (by simp [Blk.foot]) (by simp [Blk.foot, he])
  have hpos : arr2.size ≠ 0 := by
    have : 1 * e2 ≤ cc2 * e2 := Nat.mul_le_mul_right _ h0.2
    omega
  have := Lib.run_overlaps_apart (P := P) w t tR E hu sz (sizeOf_of h1) ⟨(ρ b).blk, (ρ b).base + i * (ρ b).esz, none⟩ ⟨(ρ b2).blk, (ρ b2).base + j * (ρ b2).esz, none⟩ n c k c2 hd ty ty2 arr.size arr2.size
    (by have := g1.zero he1; simp [World.shape?, this]) (by obtain ⟨fz, k1, _⟩ := k1; simp [World.shape?, k1]) hpos (by have := g1.zero he1; simp [World.frozen?, this]) (by have := g1.zero he1; simp [World.frozen?, this])
  simpa [SV.denL, SV.den, CV.den] using this
end
end Go.Sx
