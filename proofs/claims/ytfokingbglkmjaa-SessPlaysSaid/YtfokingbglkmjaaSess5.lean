/-
  A session whose transaction has written: its writes laid open. Conditions: none.
-/
import Derived.Test.YtfokingbglkmjaaSess4
namespace Go.Proofs.Ytfokingbglkmjaa
open Go.RowKit Go.Sx
set_option linter.unusedVariables false
set_option linter.unusedSimpArgs false

def others (k : Nat) : List Nat := (List.range 9).filter fun i => !(i == k)
theorem mem_others {k i : Nat} : i ∈ others k ↔ i < 9 ∧ i ≠ k := by simp [others]
theorem others_nodup (k : Nat) : (others k).Nodup := List.Nodup.sublist List.filter_sublist List.nodup_range
/-- The table's rows; session k's writes are in block 'm'. -/
def rk (T : Nat → One) (S : Nat → Option (Nat × Nat)) (k m n c i : Nat) : List CV :=
  if i = k then [cu (T k).seen.a, cu (T k).seen.b, cu (T k).seen.c, cu (T k).seen.d, .v (.bool true), cu (T k).sn.a, cu (T k).sn.b, cu (T k).sn.c, cu (T k).sn.d, .s m 0 n c] else ((T i).row (S i)).map .v
theorem rk_same (T : Nat → One) (S : Nat → Option (Nat × Nat)) (k m n c : Nat) : rk T S k m n c k = [cu (T k).seen.a, cu (T k).seen.b, cu (T k).seen.c, cu (T k).seen.d, .v (.bool true), cu (T k).sn.a, cu (T k).sn.b, cu (T k).sn.c, cu (T k).sn.d, .s m 0 n c] := by simp [rk]

theorem One.op_of {o : One} {sn : V4} {ws : List Wr} (h : o.op = some (sn, ws)) : o.is = true ∧ o.sn = sn ∧ o.ws = ws := by simp [One.is, One.sn, One.ws, h]

theorem txn_calls {f : FuncId} {fn : Func} {c : Code} {args : Array Value} {w : World} {R : Ending → World → Prop} {g : Nat} {T : Nat → One} {S : Nat → Option (Nat × Nat)} {fp : List Nat} {k b cc : Nat} {sn : V4} {ws : List Wr} (hS : Tab g T S w) (hfp : fp = g :: restf (List.range 9) S) (hk : k < 9) (hSk : S k = some (b, cc)) (hop : (T k).op = some (sn, ws))
    (n : Nat) (rs : List ResultVar) (hf : Try.prog.funcs[f]? = some fn) (hb : fn.body = some c) (hn : fn.ntmps = n) (hr : fn.results = rs.toArray)
    (xs : List SV) (hl : xs.length ≤ n) (ha : ∀ ρ' : Env, ρ' 0 = ⟨g, 0, 10⟩ → args.toList = SV.denL ρ' xs)
    (h : X Try.prog ⟨w, (· ∈ fp), n, 3, fun m => if m = 1 then ⟨b, 0, 4⟩ else ⟨g, 0, 10⟩⟩ c (retQ Try.prog ⟨w, (· ∈ fp), n, 3, fun m => if m = 1 then ⟨b, 0, 4⟩ else ⟨g, 0, 10⟩⟩ rs R) ⟨frOf 0 xs, [(0, .rows 162 10 9 9 (rk T S k 1 ws.length cc)), (1, .rows 41 4 ws.length cc fun j => (wrow ws j).map .v), (2, .pred (restf (others k) S) (Wrs (others k) T S))], 3⟩) : Calls Try.prog f args w R := by
  obtain ⟨hi, hsn, hws⟩ := One.op_of hop
  have hwr := hS.wr k hk
  rw [hSk, hws] at hwr
  refine calls_of (· ∈ fp) n rs hf hb hn hr xs _ 3 (fun m => if m = 1 then ⟨b, 0, 4⟩ else ⟨g, 0, 10⟩) hl (fun ρ' hρ => ha ρ' (hρ 0 (by omega))) (fun ρ' hρ => ⟨fun m b' hm => ?_, ?_⟩) (fun m b' hm => ?_) (by simp) h
  · have r0 := hρ 0 (by omega)
    have r1 := hρ 1 (by omega)
    simp only [Nat.zero_ne_one, if_true, if_false] at r0 r1
    simp only [List.mem_cons, Prod.mk.injEq, List.not_mem_nil, or_false] at hm
    rcases hm with ⟨rfl, rfl⟩ | ⟨rfl, rfl⟩ | ⟨rfl, rfl⟩
    · refine hS.row.holds r0 (.inr (by show g ∈ fp; rw [hfp]; simp)) fun i _ => ?_
      unfold rk
      split
      · rename_i e; subst e
        simp [One.row, One.sl, hop, hSk, slv, CV.den, r1, hi]
      · exact map_v _ _
    · exact hwr.2.holds r1 (.inr (by show b ∈ fp; rw [hfp]; simp only [List.mem_cons]; exact .inr (mem_restf.2 ⟨k, cc, by simpa using hk, hSk⟩))) fun i _ => map_v _ _
    · exact ⟨fun i hi => hS.wr i (mem_others.1 hi).1, Wrs.stable _ _ _, nodup_restf hS.dis _ (others_nodup k) (fun i hi => (mem_others.1 hi).1), fun x hx => by
        obtain ⟨i, c', hi, hs⟩ := mem_restf.1 hx
        have : x ∈ (g :: restf (List.range 9) S) := by simp only [List.mem_cons]; exact .inr (mem_restf.2 ⟨i, c', by simpa using (mem_others.1 hi).1, hs⟩)
        exact ⟨hS.lt x this, .inr (by show x ∈ fp; rw [hfp]; exact this)⟩⟩
  · have r0 := hρ 0 (by omega)
    have r1 := hρ 1 (by omega)
    simp only [Nat.zero_ne_one, if_true, if_false] at r0 r1
    simp only [footL, Blk.foot, List.append_nil, r0, r1, List.singleton_append, List.nodup_cons, List.mem_cons, not_or]
    refine ⟨⟨fun e => hS.dis.1 k b cc hk hSk e.symm, fun hm => ?_⟩, fun hm => ?_, nodup_restf hS.dis _ (others_nodup k) (fun i hi => (mem_others.1 hi).1)⟩
    · obtain ⟨i, c', hi, hs⟩ := mem_restf.1 hm
      exact hS.dis.1 i g c' (mem_others.1 hi).1 hs rfl
    · obtain ⟨i, c', hi, hs⟩ := mem_restf.1 hm
      exact hS.dis.2 i k b c' b cc (mem_others.1 hi).1 hk (mem_others.1 hi).2 hs hSk rfl
  · simp only [List.mem_cons, Prod.mk.injEq, List.not_mem_nil, or_false] at hm
    rcases hm with ⟨rfl, _⟩ | ⟨rfl, _⟩ | ⟨rfl, _⟩ <;> omega

/-- .. and its end: session k's writes are in block 'm'. -/
theorem txn_ends {g n k nn : Nat} {fp : List Nat} {w w' : World} {T : Nat → One} {S : Nat → Option (Nat × Nat)} {st : St} {ρ ρ0 : Env} {a : Act} {sn : V4} {ws' : List Wr} (hS : Tab g T S w) (hfp : fp = g :: restf (List.range 9) S) (hk : k < 9) (hs : Sat ⟨w, (· ∈ fp), n, nn, ρ0⟩ st ρ a w') (hag : (ρ 0).blk = g) (m cc : Nat) (hm0 : m ≠ 0)
    {r' : Nat → List CV} {wr' : Nat → List CV} (h0 : hget st.hp 0 = some (.rows 162 10 9 9 r')) (h1 : hget st.hp m = some (.rows 41 4 ws'.length cc wr')) (p : Nat) (hp0 : p ≠ 0) (hpm : p ≠ m) {F : List Nat} {RR : World → Prop} (h2 : hget st.hp p = some (.pred F RR)) (hF : ∀ x, x ∈ restf (others k) S → x ∈ F) (hR : ∀ w, RR w → Wrs (others k) T S w)
    (hrow : ∀ i, i < 9 → i ≠ k → (r' i).map (CV.den ρ) = (T i).row (S i)) (hrk : (r' k).map (CV.den ρ) = One.row ⟨(T k).seen, some (sn, ws')⟩ (some ((ρ m).blk, cc))) (hw : ∀ j, j < ws'.length → (wr' j).map (CV.den ρ) = wrow ws' j) (hl : ws'.length ≤ 8 ∧ ws'.length ≤ cc ∧ 0 < ws'.length) :
    ∃ fp', TabIs g (upd T k ⟨(T k).seen, some (sn, ws')⟩) fp' w' ∧ Chg fp fp' w w' := by
  have k0 := hs.now.hp _ _ (mem_hget h0)
  have k1 := hs.now.hp _ _ (mem_hget h1)
  have k2 := hs.now.hp _ _ (mem_hget h2)
  have dm : ∀ x, x ∈ restf (others k) S → x ≠ (ρ m).blk := fun x hx e => foot_disj hs.now.nodup (mem_hget h2) (mem_hget h1) hpm (k := x) (hF x hx) (by simp [Blk.foot, e])
  have d0 : (ρ m).blk ≠ g := fun e => foot_disj hs.now.nodup (mem_hget h1) (mem_hget h0) hm0 (k := g) (by simp [Blk.foot, e]) (by simp [Blk.foot, hag])
  have hdis : Dis g (upd S k (some ((ρ m).blk, cc))) := by
    refine ⟨fun i b c hi h => ?_, fun i j b c b' c' hi hj hne h h' => ?_⟩
    · by_cases hik : i = k
      · rw [hik, upd_same] at h; injection h with h; injection h with h h'; rw [← h]; exact d0
      · rw [upd_ne _ _ hik] at h; exact hS.dis.1 i b c hi h
    · by_cases hik : i = k <;> by_cases hjk : j = k
      · exact absurd (hik.trans hjk.symm) hne
      · rw [hik, upd_same] at h; injection h with h; injection h with h e1
        rw [upd_ne _ _ hjk] at h'
        rw [← h]; exact Ne.symm (dm b' (mem_restf.2 ⟨j, c', mem_others.2 ⟨hj, hjk⟩, h'⟩))
      · rw [hjk, upd_same] at h'; injection h' with h'; injection h' with h' e1
        rw [upd_ne _ _ hik] at h
        rw [← h']; exact dm b (mem_restf.2 ⟨i, c, mem_others.2 ⟨hi, hik⟩, h⟩)
      · rw [upd_ne _ _ hik] at h; rw [upd_ne _ _ hjk] at h'
        exact hS.dis.2 i j b c b' c' hi hj hne h h'
  have tab : Tab g (upd T k ⟨(T k).seen, some (sn, ws')⟩) (upd S k (some ((ρ m).blk, cc))) w' := by
    refine ⟨rowsAt_of k0 hag fun i hi => ?_, fun i hi => ?_, hdis⟩
    · by_cases hik : i = k
      · subst hik; rw [upd_same, upd_same]; exact hrk
      · rw [upd_ne _ _ hik, upd_ne _ _ hik]; exact hrow i hi hik
    · by_cases hik : i = k
      · subst hik; rw [upd_same, upd_same]; exact ⟨hl, rowsAt_of k1 rfl hw⟩
      · rw [upd_ne _ _ hik, upd_ne _ _ hik]; exact hR _ k2.1 i (mem_others.2 ⟨hi, hik⟩)
  refine ⟨_, ⟨_, tab, rfl⟩, ⟨hs.now.keeps, fun x hx => ⟨?_, tab.lt x hx⟩, Tab.fpNodup (T := T) hdis⟩⟩
  rcases List.mem_cons.1 hx with rfl | hx
  · exact .inl (by rw [hfp]; simp)
  · obtain ⟨i, c, hi, h⟩ := mem_restf.1 hx
    by_cases hik : i = k
    · rw [hik, upd_same] at h; injection h with h; injection h with h e1
      rw [← h]
      exact (k1.2.2.2).symm.imp id id
    · rw [upd_ne _ _ hik] at h
      exact .inl (by rw [hfp]; simp only [List.mem_cons]; exact .inr (mem_restf.2 ⟨i, c, hi, h⟩))
end Go.Proofs.Ytfokingbglkmjaa
