/-
  Bytes appended, as lists; 'append' of no zeros. Conditions: none.
-/
import Derived.Test.YtbdffcgbleiiaaaSx28
set_option linter.unusedVariables false
set_option linter.unusedSimpArgs false
namespace Go.Sx
open Go.RowKit
section
variable {P : Program} {C : Cx} {fr : List (Nat × SV)} {hp : List (Nat × Blk)} {nx : Nat}

/-- An operation, and then a state that follows. -/
theorem SOp_ent {o : Oper} {K : St → Prop} {st : St} (h : SOp P C o (fun st' => ∃ st2, (∀ ρ a w, Sat C st' ρ a w → Sat C st2 ρ a w) ∧ st'.nx ≤ st2.nx ∧ K st2) st) : SOp P C o K st := fun ρ a w hs => by
  refine Oper.wp_to (h ρ a w hs) fun a' w' hk => ?_
  obtain ⟨st1, ρ1, ⟨st2, h1, h2, h4⟩, h5, h6, h7⟩ := hk
  exact ⟨st2, ρ1, h4, h1 _ _ _ h5, Nat.le_trans h6 h2, h7⟩
theorem Sat.rows_eq {ρ : Env} {a : Act} {w : World} (hs : Sat C ⟨fr, hp, nx⟩ ρ a w) {n ty e m c : Nat} {r r' : Nat → List CV} (hg : hget hp n = some (.rows ty e m c r)) (h : ∀ i, i < m → r' i = r i) : Sat C ⟨fr, hset hp n (.rows ty e m c r'), nx⟩ ρ a w := by
  refine hs.set hg hs.now.keeps (Nat.le_refl _) (fun _ _ _ _ => rfl) fun ρ' hρ => ⟨rfl, ?_⟩
  obtain ⟨h1, h2, ⟨arr, h3, h4, h5⟩, h6⟩ := (hs ρ' hρ).hp _ _ (mem_hget hg)
  exact ⟨h1, h2, ⟨arr, h3, h4, fun i hi => by rw [h i hi]; exact h5 i hi⟩, h6⟩
theorem brL_out {L : List Nat} {i : Nat} (h : L.length ≤ i) : brL L i = [] := by
  unfold brL; rw [List.drop_eq_nil_of_le h]; rfl
theorem rapp_agree {L M : List Nat} {r r2 : Nat → List CV} {n j : Nat} (hn : n = L.length) (hr : ∀ i, i < n → r i = brL L i) (hr2 : ∀ i, i < M.length → r2 (j + i) = brL M i) : ∀ i, i < n + M.length → brL (L ++ M) i = rapp r n (fun i => r2 (j + i)) i := fun i hi => by
  subst hn
  unfold rapp
  by_cases h : i < L.length
  · rw [if_pos h, hr i h]
    unfold brL
    rw [List.drop_append_of_le_length (by omega), List.take_append_of_le_length (by simp; omega)]
  · rw [if_neg h]
    show brL (L ++ M) i = r2 (j + (i - L.length))
    rw [hr2 _ (by omega)]
    unfold brL
    rw [List.drop_append, List.drop_eq_nil_of_le (by omega), List.nil_append]
/-- Bytes appended to bytes. -/
theorem sappendB {d : Tmp} {x y : Operand} {t E ty : TypeId} {pos : String} {af : Array Edge} {g : Option (Nat × Bool)} {K : St → Prop} {b n m c b2 j k c2 m2 : Nat} {zs : List Value} {r r2 : Nat → List CV} (L M : List Nat)
    (hx : St.ev ⟨fr, hp, nx⟩ x = .c (.s b 0 n c)) (hy : St.ev ⟨fr, hp, nx⟩ y = .c (.s b2 j k c2)) (hk : tkind P t = some (.slc E)) (h1 : tsz P E = some 1) (h2 : tby P E = some 1) (h3 : tzero P E = some zs)
    (hb : hget hp b = some (.rows E 1 m c r)) (hb2 : rowRd (hget hp b2) = some (1, m2, r2)) (hz : zs.length = 1) (hL : n = L.length ∧ n ≤ m ∧ ∀ i, i < n → r i = brL L i) (hM : k = M.length ∧ j + k ≤ m2 ∧ 0 < k ∧ ∀ i, i < M.length → r2 (j + i) = brL M i) (hsz : n + k ≤ 140737488355328)
    (hK : d < C.N ∧ ∀ c', n + k ≤ c' → K ⟨(d, .c (.s nx 0 (n + k) c')) :: fr, (nx, .rows E 1 (n + k) c' (brL (L ++ M))) :: hrem hp b, nx + 1⟩) :
    SOp P C ⟨some d, .call { callee := .builtin .append, args := #[x, y], argTypes := #[t, t] }, ty, pos, af, g⟩ K ⟨fr, hp, nx⟩ := by
  obtain ⟨hd, hK⟩ := hK
  refine SOp_ent ?_
  refine sappend hx hy hk h1 h2 h3 hb hb2 ⟨⟨hz, by omega, hM.2.2.1, hL.2.1⟩, hM.2.1, by omega, by omega⟩ (fun q hq => ?_) ⟨hd, fun c' hc' => ⟨⟨(d, .c (.s nx 0 (n + k) c')) :: fr, (nx, .rows E 1 (n + k) c' (brL (L ++ M))) :: hrem hp b, nx + 1⟩, fun ρ a w hs => ?_, Nat.le_refl _, hK c' hc'⟩⟩
  · rw [hM.2.2.2 q (by omega)]; exact brL_one _ _
  · have hag := rapp_agree (M := M) hL.1 hL.2.2 (r2 := r2) (j := j) hM.2.2.2
    have hh : hget ((nx, Blk.rows E 1 (n + k) c' (rapp r n fun i => r2 (j + i))) :: hrem hp b) nx = some (Blk.rows E 1 (n + k) c' (rapp r n fun i => r2 (j + i))) := by simp [hget]
    have := hs.rows_eq (r' := brL (L ++ M)) hh (fun i hi => hag i (by omega))
    simpa [hset] using this
theorem sappendB_nil {d : Tmp} {x y : Operand} {t E ty : TypeId} {pos : String} {af : Array Edge} {g : Option (Nat × Bool)} {K : St → Prop} {b2 j k c2 m2 : Nat} {zs : List Value} {r2 : Nat → List CV} (M : List Nat)
    (hx : St.ev ⟨fr, hp, nx⟩ x = .c (.v (.slice none 0 0))) (hy : St.ev ⟨fr, hp, nx⟩ y = .c (.s b2 j k c2)) (hk : tkind P t = some (.slc E)) (h1 : tsz P E = some 1) (h2 : tby P E = some 1) (h3 : tzero P E = some zs)
    (hb2 : rowRd (hget hp b2) = some (1, m2, r2)) (hz : zs.length = 1) (hM : (k = M.length ∧ 0 < k) ∧ j + k ≤ m2 ∧ ∀ i, i < M.length → r2 (j + i) = brL M i) (hsz : k ≤ 140737488355328)
    (hK : d < C.N ∧ ∀ c', k ≤ c' → K ⟨(d, .c (.s nx 0 k c')) :: fr, (nx, .rows E 1 k c' (brL M)) :: hp, nx + 1⟩) :
    SOp P C ⟨some d, .call { callee := .builtin .append, args := #[x, y], argTypes := #[t, t] }, ty, pos, af, g⟩ K ⟨fr, hp, nx⟩ := by
  obtain ⟨hd, hK⟩ := hK
  refine SOp_ent ?_
  refine sappend_nil hx hy hk h1 h2 h3 hb2 ⟨⟨hz, by omega, hM.1.2⟩, hM.2.1, by omega, by omega⟩ ⟨hd, fun c' hc' => ⟨⟨(d, .c (.s nx 0 k c')) :: fr, (nx, .rows E 1 k c' (brL M)) :: hp, nx + 1⟩, fun ρ a w hs => ?_, Nat.le_refl _, hK c' hc'⟩⟩
  have hh : hget ((nx, Blk.rows E 1 k c' (fun i => r2 (j + i))) :: hp) nx = some (Blk.rows E 1 k c' (fun i => r2 (j + i))) := by simp [hget]
  have := hs.rows_eq (r' := brL M) hh (fun i hi => (hM.2.2 i (by omega)).symm)
  simpa [hset] using this
/-- 'append' of no zeros. -/
theorem sappend_z0 {d : Tmp} {x y : Operand} {t tn E ty0 : TypeId} {pos : String} {af : Array Edge} {g : Option (Nat × Bool)} {K : St → Prop} {b i n c sz bb : Nat} {kk kn : IntKind} {zs : List Value}
    (hx : St.ev ⟨fr, hp, nx⟩ x = .c (.s b i n c)) (hy : St.ev ⟨fr, hp, nx⟩ y = .c (.v (.int kk 0))) (hk : tkind P t = some (.slc E)) (hkn : tint P tn = some (some kn)) (h1 : tsz P E = some sz) (h2 : tby P E = some bb) (h3 : tzero P E = some zs) (hn : n ≤ c) (hbn : b < nx)
    (hK : d < C.N ∧ K ⟨(d, .c (.s b i n c)) :: fr, hp, nx⟩) :
    SOp P C ⟨some d, .call { callee := .builtin .append, args := #[x, y], argTypes := #[t, tn] }, ty0, pos, af, g⟩ K ⟨fr, hp, nx⟩ := by
  obtain ⟨ds, hu, hds⟩ := kind_of hk
  simp only at hds; subst hds
  obtain ⟨ti, z, hi, rfl, rfl, hiz, hzc⟩ := info_of h1 h2 h3
  refine SOp_put (.c (.s b i n c)) rfl rfl (fun ρ a w hs => ?_) (fun ρ a w hs ρ' hρ => by simp [SV.den, CV.den, hρ b hbn]) hK
  have hw : IntKind.i64.wrap 0 = 0 := rfl
  simp [execOp, resolve, invoke, builtin, Builtin.append_, ev_c hs.fr' hx rfl, ev_c hs.fr' hy rfl, SV.den, CV.den, run_underlying hu, run_underlying (tint_of hkn), sizeOf, typeInfo, hi, Builtin.lenOf, Builtin.firstCells, hn, storeCells, asInt, asIntOf, hw]
end
end Go.Sx
