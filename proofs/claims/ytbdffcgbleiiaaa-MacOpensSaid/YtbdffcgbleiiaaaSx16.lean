/-
  The symbolic walk: a law's row where what is handed in is of a size; a list of texts, opened with it: sound. Nothing here speaks of one program. Conditions: none.
-/
import Derived.Test.YtbdffcgbleiiaaaSx13
import Derived.SizedLaws
set_option linter.unusedVariables false
set_option linter.unusedSimpArgs false
namespace Go.Sx
open Go.RowKit Go.ChangeShapes Go.WideShapes
section
variable {H : Type} {enc : TypeId × Value → H} {P : Program} {W W' : World} {base : Nat} {spare : Nat → Bool} {held : Bool}
theorem weightsAll_mem {e : TypeId} {n : Nat} : ∀ {ds : List (DataW H)} {d : DataW H}, d ∈ ds → n ∈ d.weights P e → n ∈ DataW.weightsAll P e ds
  | x :: r, d, h, hn => by
    simp only [DataW.weightsAll, List.mem_append]
    rcases List.mem_cons.1 h with rfl | h
    · exact .inl hn
    · exact .inr (weightsAll_mem h hn)
/-- A list of texts, opened. -/
theorem open_strs (k B : Nat) {t e : TypeId} {r : Reach} {b0 : Nat} {v : Value} {dd : DataW H} {ps : List MemPlace} (ht : P.underlying t = some (.slice e)) (hu : P.underlying e = some .string) (hc : P.cellsOf e = 1) (hval : Value.okWide P W r b0 t v) (h : DataW.Trod enc P W base spare held t v dd ps)
    (hz : ∀ n ∈ dd.weights P t, n ≤ B) :
    ∃ (b off m : Nat) (r : Nat → List Value) (x : CV), ImmAt W b off 1 m r ∧ LArg k m x ∧ (∀ ρ : Env, ρ k = ⟨b, off, 1⟩ → x.den ρ = v) ∧ (∀ i, i < m → ∃ s : ByteArray, r i = [.string s] ∧ s.size ≤ B) ∧ m ≤ maxLen := by
  obtain ⟨a, len, cap, rfl⟩ := okWide_slice ht hval
  obtain ⟨fuel, h⟩ := h
  rcases DataW.trod_slice ht h with ⟨h1, _⟩ | ⟨a', len', cap', elems, rest, n, _, h1, hx, hb, hlc, hcm, hel, he, _⟩
  · refine ⟨0, 0, 0, fun _ => [], .v (.slice none 0 0), ⟨fun h => by omega, fun i h => by omega, fun i h => by omega⟩, .inl ⟨rfl, rfl⟩, fun _ _ => ?_, fun i h => by omega, by omega⟩
    simpa [Value.cells, CV.den] using h1.symm
  · simp [Value.cells] at h1
    obtain ⟨rfl, rfl, rfl⟩ := h1
    have hsp : a'.spot = none := by
      unfold Value.okWide at hval
      rw [ht] at hval
      simp only [Cell.okWide, ht, Cell.ok] at hval
      exact hval.2.2.2.1
    obtain ⟨ab, ao, as⟩ := a'
    simp only at hsp; subst hsp
    have hdd : dd = .slice (elems.map (·.1)) (rest.map (·.1)) := (Prod.mk.inj hx).1
    have key : ∀ i, i < len → ∃ s : ByteArray, s.size ≤ B ∧ W.cell? ⟨ab, ao + i, none⟩ = some (.string s) := fun i hi => by
      have h2 := he i hi
      rw [hc, List.getElem?_eq_getElem (by omega), Option.bind_eq_some_iff] at h2
      obtain ⟨cs, hcs, h3⟩ := h2
      obtain ⟨h4, h5⟩ := cells_get hcs
      obtain ⟨s, hs1, hs2, hs3⟩ := DataW.trod_string hu h3
      refine ⟨s, ?_, ?_⟩
      · have hm : (.lit (.string s.data.toList) : DataW H) ∈ elems.map (·.1) := List.mem_map.2 ⟨_, List.getElem_mem (by omega : i < elems.length), by rw [hs2]⟩
        have := hz s.data.toList.length (by
          rw [hdd]
          simp only [DataW.weights, ht, List.mem_cons, List.mem_append]
          exact .inr (.inl (weightsAll_mem hm (by simp [DataW.weights]))))
        simpa using this
      · have h6 := h5 0 (by omega)
        rw [hs1] at h6
        rw [addr_add ⟨ab, ao, none⟩ _ rfl, addr_add _ _ rfl] at h6
        simpa using h6
    refine ⟨ab, ao, len, fun i => if hi : i < len then [.string (key i hi).choose] else [], .s k 0 len cap, ⟨fun hm => ?_, fun i hi => ?_, fun i hi q hq => ?_⟩, .inr ⟨cap, rfl⟩, fun ρ hρ => by simp [CV.den, hρ], fun i hi => ?_, by omega⟩
    · obtain ⟨s, _, h7⟩ := key 0 hm
      apply Decidable.byContradiction
      intro hn
      have hh : W.heap[ab]? = none := Array.getElem?_eq_none (by omega)
      simp [World.cell?, hh] at h7
    · simp [hi]
    · have : q = 0 := by omega
      subst this
      simp only [hi, dite_true]
      have := (key i hi).choose_spec.2
      simpa using this
    · simp only [hi, dite_true]; exact ⟨_, rfl, (key i hi).choose_spec.1⟩
/-- A law that answers true whatever its arguments, each of a size that a machine can hold, and leaves all that was there. -/
theorem law_lift_sized {C : Checked} {os : Os} {f : FuncId} {fn : Func} {s : ChangeSpec} {apart fresh : Bool} {tb : TypeId} (own : ownKnob C.prog.godebug = none) (started : os.Started) (noInit : C.prog.inits.idxOf? f = none) (hfn : C.prog.funcs[f]? = some fn)
    (witness : ∃ (w : World) (tape : Tape) (i : Input), w.os = os ∧ (w.forCall tape i).Shaped C.prog ∧ i.vars = [] ∧ Input.okWide C.prog (w.forCall tape i) .any w.heap.size f i ∧
      s.pre6 enc C.prog fn [] apart (w.forCall tape i).memory i.args ∧ Assume.holds {} C.prog (lone (Frame.enter C.prog f i.args .normal) [] (w.forCall tape i)))
    (hl : laidOutB C.prog = true) (hts : rowsB C.prog fn.params.toList = true) (hr : fn.resultTypes = #[tb]) (htb : C.prog.underlying tb = some .bool) (hv : s.vars = [])
    (hs : ∀ ds : List (DataW H), ds.length = fn.params.size → (s.fn H ds).results = [.lit (.bool true)] ∧ (s.fn H ds).args = ds ∧ (s.fn H ds).vars = [])
    (hwalk : ∀ (W : World) (base : Nat) (args : Array Value) (ds : List (DataW H)) (p : List MemPlace), (∀ (j : Nat) t v, fn.params[j]? = some t → args[j]? = some v → Value.okWide C.prog W .any base t v) →
      DataW.TrodAll enc C.prog W 0 (fun _ => true) true fn.params.toList args.toList ds p → (∀ (j : Nat) t d, fn.params.toList[j]? = some t → ds[j]? = some d → ∀ n ∈ d.weights C.prog t, n ≤ 140737488355328) →
      Calls C.prog f args W fun e W' => e = .returned (.bool true) ∧ Below W.heap.size W W') :
    ReturnsInHanded {} C os f .any (s.pre6 enc C.prog fn [] apart) (s.post enc C.prog fn apart fresh false false) := by
  refine returnsInHanded_of_change_sized own started noInit hfn witness ?_
  intro W base args ds gs before hval hW _ hz _
  have hW' := hW
  obtain ⟨p, q, hA, hV, _, _⟩ := hW'
  have hlen := (trodAll_length hA).2
  have hg : gs = [] := by rw [hv] at hV; exact (trodVars_none hV).1
  subst hg
  refine (hwalk W base args ds p hval hA fun j t d ht hd n hn => ?_).mono fun e W' ⟨he, hb⟩ => ?_
  · have h1 := DataW.weights_mem_each (P := C.prog) (ts := fn.params.toList ++ s.plain.varTypes C.prog) (ds := ds ++ []) (j := j) (t := t) (d := d)
      (by rw [List.getElem?_append_left (List.getElem?_eq_some_iff.1 ht).1]; exact ht) (by rw [List.append_nil]; exact hd) n hn
    have h2 := List.all_eq_true.1 hz _ h1
    have h3 : n ≤ reachBytes := by simpa using h2
    have h4 := reachBytes_lt
    omega
  subst he
  obtain ⟨h1, h2, h3⟩ := hs ds (by simpa using hlen)
  exact ⟨_, rfl, law_post hl hts hr htb hv (by rw [List.append_nil]; exact h1) (by rw [List.append_nil]; exact h2) (by rw [List.append_nil]; exact h3) hW hb⟩
end
end Go.Sx
