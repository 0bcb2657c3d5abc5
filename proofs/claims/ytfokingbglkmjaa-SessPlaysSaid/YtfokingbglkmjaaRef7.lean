/-
  The document's own table: Write. Conditions: none.
-/
import Derived.Test.YtfokingbglkmjaaRef6
import Derived.Test.YtfokingbglkmjaaSx18
namespace Go.Proofs.Ytfokingbglkmjaa
open Go.RowKit Go.Sx
set_option linter.unusedVariables false
set_option linter.unusedSimpArgs false

theorem rwright_s {C : Cx} {fr : List (Nat × SV)} {hp : List (Nat × Blk)} {nx : Nat} {d : Option Tmp} {K : St → Prop} {b k v : ByteArray} {g : Bool} (h : dOk C.N d ∧ kput K ⟨fr, hp, nx⟩ d (.c (.v (.bool (Wr.right ⟨b, k, v, g⟩))))) : SCall Try.prog C 87 [.agg [.v (.string b), .v (.string k), .v (.string v), .v (.bool g)]] d K ⟨fr, hp, nx⟩ :=
  scall_pure [Wr.v ⟨b, k, v, g⟩] _ (.bool (Wr.right ⟨b, k, v, g⟩)) Try.call87 (rwright_c _) rfl (fun _ => rfl) (fun _ => rfl) h
theorem rtxn_calls {f : FuncId} {fn : Func} {c : Code} {args : Array Value} {w : World} {R : Ending → World → Prop} {g : Nat} {T : Nat → RO} {S : Nat → Option (Nat × Nat)} {k b cc : Nat} (hS : RTab g T S w) (hk : k < 9) (hSk : S k = some (b, cc))
    (n : Nat) (rs : List ResultVar) (hf : Try.prog.funcs[f]? = some fn) (hb : fn.body = some c) (hn : fn.ntmps = n) (hr : fn.results = rs.toArray)
    (xs : List SV) (hl : xs.length ≤ n) (ha : ∀ ρ' : Env, ρ' 0 = ⟨g, 0, 10⟩ → args.toList = SV.denL ρ' xs)
    (h : X Try.prog ⟨w, (· ∈ fpR g S), n, 3, fun m => if m = 1 then ⟨b, 0, 4⟩ else ⟨g, 0, 10⟩⟩ c (retQ Try.prog ⟨w, (· ∈ fpR g S), n, 3, fun m => if m = 1 then ⟨b, 0, 4⟩ else ⟨g, 0, 10⟩⟩ rs R) ⟨frOf 0 xs, [(0, .rows 38 10 9 9 (rrk T S k 1 (T k).ws.length cc)), (1, .rows 56 4 (T k).ws.length cc fun j => (wrow (T k).ws j).map .v), (2, .pred (restf (others k) S) (RWrs (others k) T S))], 3⟩) : Calls Try.prog f args w R := by
  have hwr := hS.wr k hk
  rw [hSk] at hwr
  refine calls_of (· ∈ fpR g S) n rs hf hb hn hr xs _ 3 (fun m => if m = 1 then ⟨b, 0, 4⟩ else ⟨g, 0, 10⟩) hl (fun ρ' hρ => ha ρ' (hρ 0 (by omega))) (fun ρ' hρ => ⟨fun m b' hm => ?_, ?_⟩) (fun m b' hm => ?_) (by simp) h
  · have r0 := hρ 0 (by omega)
    have r1 := hρ 1 (by omega)
    simp only [Nat.zero_ne_one, if_true, if_false] at r0 r1
    simp only [List.mem_cons, Prod.mk.injEq, List.not_mem_nil, or_false] at hm
    rcases hm with ⟨rfl, rfl⟩ | ⟨rfl, rfl⟩ | ⟨rfl, rfl⟩
    · refine hS.row.holds r0 (.inr (by show g ∈ fpR g S; simp [fpR])) fun i _ => ?_
      unfold rrk
      split
      · rename_i e; subst e
        simp [RO.row, hSk, slv, CV.den, r1]
      · exact map_v _ _
    · exact hwr.2.holds r1 (.inr (by show b ∈ fpR g S; simp only [fpR, List.mem_cons]; exact .inr (mem_restf.2 ⟨k, cc, by simpa using hk, hSk⟩))) fun i _ => map_v _ _
    · exact ⟨fun i hi => hS.wr i (mem_others.1 hi).1, RWrs.stable _ _ _, nodup_restf hS.dis _ (others_nodup k) (fun i hi => (mem_others.1 hi).1), fun x hx => by
        obtain ⟨i, c', hi, hs⟩ := mem_restf.1 hx
        have : x ∈ (g :: restf (List.range 9) S) := by simp only [List.mem_cons]; exact .inr (mem_restf.2 ⟨i, c', by simpa using (mem_others.1 hi).1, hs⟩)
        exact ⟨hS.lt x this, .inr this⟩⟩
  · have r0 := hρ 0 (by omega)
    have r1 := hρ 1 (by omega)
    simp only [Nat.zero_ne_one, if_true, if_false] at r0 r1
    simp only [footL, Blk.foot, List.append_nil, r0, r1, List.singleton_append, List.nodup_cons, List.mem_cons, not_or]
    refine ⟨⟨fun e => hS.dis.1 k b cc hk hSk e.symm, fun hm => ?_⟩, fun hm => ?_, nodup_restf hS.dis _ (others_nodup k) (fun i hi => (mem_others.1 hi).1)⟩
    · obtain ⟨i, c', hi, hs⟩ := mem_restf.1 hm
      exact hS.dis.1 i g c' (mem_others.1 hi).1 hs rfl
    · obtain ⟨i, c', hi, hs⟩ := mem_restf.1 hm
      exact hS.dis.2 i k b c' b cc (mem_others.1 hi).1 hk (mem_others.1 hi).2 hs hSk rfl
  · simp only [List.mem_cons, Prod.mk.injEq, List.not_mem_nil, or_false] at hm
    rcases hm with ⟨rfl, _⟩ | ⟨rfl, _⟩ | ⟨rfl, _⟩ <;> omega

/-- .. and its end: session k's writes are in block 'm'. -/
theorem rtxn_ends {g n k nn : Nat} {w w' : World} {T : Nat → RO} {S : Nat → Option (Nat × Nat)} {st : St} {ρ ρ0 : Env} {a : Act} {ws' : List Wr} (hS : RTab g T S w) (hk : k < 9) (hs : Sat ⟨w, (· ∈ fpR g S), n, nn, ρ0⟩ st ρ a w') (hag : (ρ 0).blk = g) (m cc : Nat) (hm0 : m ≠ 0)
    {r' : Nat → List CV} {wr' : Nat → List CV} (h0 : hget st.hp 0 = some (.rows 38 10 9 9 r')) (h1 : hget st.hp m = some (.rows 56 4 ws'.length cc wr')) (p : Nat) (hp0 : p ≠ 0) (hpm : p ≠ m) {F : List Nat} {RR : World → Prop} (h2 : hget st.hp p = some (.pred F RR)) (hF : ∀ x, x ∈ restf (others k) S → x ∈ F) (hR : ∀ w, RR w → RWrs (others k) T S w)
    (hrow : ∀ i, i < 9 → i ≠ k → (r' i).map (CV.den ρ) = (T i).row (S i)) (hrk : (r' k).map (CV.den ρ) = RO.row { T k with ws := ws' } (some ((ρ m).blk, cc))) (hw : ∀ j, j < ws'.length → (wr' j).map (CV.den ρ) = wrow ws' j) (hl : ws'.length ≤ 8 ∧ ws'.length ≤ cc ∧ 0 < ws'.length) :
    ∃ S', RTab g (upd T k { T k with ws := ws' }) S' w' ∧ Chg (fpR g S) (fpR g S') w w' := by
  have k0 := hs.now.hp _ _ (mem_hget h0)
  have k1 := hs.now.hp _ _ (mem_hget h1)
  have k2 := hs.now.hp _ _ (mem_hget h2)
  have dm : ∀ x, x ∈ restf (others k) S → x ≠ (ρ m).blk := fun x hx e => foot_disj hs.now.nodup (mem_hget h2) (mem_hget h1) hpm (k := x) (hF x hx) (by simp [Blk.foot, e])
  have d0 : (ρ m).blk ≠ g := fun e => foot_disj hs.now.nodup (mem_hget h1) (mem_hget h0) hm0 (k := g) (by simp [Blk.foot, e]) (by simp [Blk.foot, hag])
  have hdis : Dis g (upd S k (some ((ρ m).blk, cc))) := by
    refine ⟨fun i b c hi h => ?_, fun i j b c b' c' hi hj hne h h' => ?_⟩
    · by_cases hik : i = k
      · rw [hik, upd_same] at h; injection h with h; injection h with h h'; rw [← h]; exact d0
      · rw [upd_ne _ _ hik] at h; exact hS.dis.1 i b c hi h
    · by_cases hik : i = k <;> by_cases hjk : j = k
      · exact absurd (hik.trans hjk.symm) hne
      · rw [hik, upd_same] at h; injection h with h; injection h with h e1
        rw [upd_ne _ _ hjk] at h'
        rw [← h]; exact Ne.symm (dm b' (mem_restf.2 ⟨j, c', mem_others.2 ⟨hj, hjk⟩, h'⟩))
      · rw [hjk, upd_same] at h'; injection h' with h'; injection h' with h' e1
        rw [upd_ne _ _ hik] at h
        rw [← h']; exact dm b (mem_restf.2 ⟨i, c, mem_others.2 ⟨hi, hik⟩, h⟩)
      · rw [upd_ne _ _ hik] at h; rw [upd_ne _ _ hjk] at h'
        exact hS.dis.2 i j b c b' c' hi hj hne h h'
  have tab : RTab g (upd T k { T k with ws := ws' }) (upd S k (some ((ρ m).blk, cc))) w' := by
    refine ⟨rowsAt_of k0 hag fun i hi => ?_, fun i hi => ?_, hdis⟩
    · by_cases hik : i = k
      · subst hik; rw [upd_same, upd_same]; exact hrk
      · rw [upd_ne _ _ hik, upd_ne _ _ hik]; exact hrow i hi hik
    · by_cases hik : i = k
      · subst hik; rw [upd_same, upd_same]; exact ⟨hl, rowsAt_of k1 rfl hw⟩
      · rw [upd_ne _ _ hik, upd_ne _ _ hik]; exact hR _ k2.1 i (mem_others.2 ⟨hi, hik⟩)
  refine ⟨_, tab, ⟨hs.now.keeps, fun x hx => ⟨?_, tab.lt x hx⟩, RTab.fpNodup (T := T) hdis⟩⟩
  rcases List.mem_cons.1 hx with rfl | hx
  · exact .inl (by simp [fpR])
  · obtain ⟨i, c, hi, h⟩ := mem_restf.1 hx
    by_cases hik : i = k
    · rw [hik, upd_same] at h; injection h with h; injection h with h e1
      rw [← h]
      exact (k1.2.2.2).symm.imp id id
    · rw [upd_ne _ _ hik] at h
      exact .inl (by simp only [fpR, List.mem_cons]; exact .inr (mem_restf.2 ⟨i, c, hi, h⟩))

def rwriteE (U : Nat → RO) (id : Int) (x : Wr) : Int := if inS id && (U id.toNat).op then (if x.right then (if fits (U id.toNat).ws x then 0 else 4) else 1) else 5
def rwriteU (U : Nat → RO) (id : Int) (x : Wr) : Nat → RO := if inS id && (U id.toNat).op && x.right && fits (U id.toNat).ws x then upd U id.toNat { U id.toNat with ws := putW (U id.toNat).ws x } else U
theorem putW_hit {ws : List Wr} {x : Wr} {i : Nat} {y : Wr} (hy : ws[i]? = some y) (hh : hit x.b x.k y = true) (hno : ∀ j, j < i → ∀ z, ws[j]? = some z → hit x.b x.k z = false) : putW ws x = ws.set i x ∧ fits ws x = true := by
  obtain ⟨hi, he⟩ := List.getElem?_eq_some_iff.1 hy
  have : ws.findIdx? (hit x.b x.k) = some i := by
    rw [List.findIdx?_eq_some_iff_getElem]
    exact ⟨hi, by rw [he]; exact hh, fun j hj => by simpa using hno j hj _ (List.getElem?_eq_getElem (by omega))⟩
  simp [putW, fits, this]
theorem putW_no {ws : List Wr} {x : Wr} (hno : ∀ j, j < ws.length → ∀ z, ws[j]? = some z → hit x.b x.k z = false) : putW ws x = ws ++ [x] ∧ fits ws x = decide (ws.length < 8) := by
  have : ws.findIdx? (hit x.b x.k) = none := by
    rw [List.findIdx?_eq_none_iff]
    intro z hz
    obtain ⟨j, hj, he⟩ := List.getElem_of_mem hz
    exact hno j hj z (by rw [List.getElem?_eq_getElem hj, he])
  simp [putW, fits, this]
def rwSt (U : Nat → RO) (S : Nat → Option (Nat × Nat)) (k cc : Nat) (x : Wr) (c' i : Nat) : St :=
  ⟨[(8, .c (.v (.int .i64 i))), (7, .c (.s 4 0 (U k).ws.length c')), (5, .c (.p 3 0 0)), (0, .c (.p 0 0 0)), (1, .c (.v (.int .i64 k)))],
   [(4, .rows 56 4 (U k).ws.length c' fun j => (wrow (U k).ws j).map .v), (3, .cells 56 [.v (.string x.b), .v (.string x.k), .v (.string x.x), .v (.bool x.g)]), (0, .rows 38 10 9 9 (rrk U S k 1 (U k).ws.length cc)), (1, .rows 56 4 (U k).ws.length cc fun j => (wrow (U k).ws j).map .v), (2, .pred (restf (others k) S) (RWrs (others k) U S))], 5⟩
set_option maxHeartbeats 1000000 in
set_option maxRecDepth 100000 in
theorem rwrite_c (g : Nat) (U : Nat → RO) (S : Nat → Option (Nat × Nat)) (id : Int) (x : Wr) (w : World) (ht : RTab g U S w) :
    Calls Try.prog 26 #[ptr g, .int .i64 id, x.v] w (RTurn g S (.int .i64 (rwriteE U id x)) (rwriteU U id x) w) := by
  by_cases hin : inS id
  case neg =>
    refine rtab_calls ht rfl 81 _ Try.func26 rfl Try.ntmps26 Try.results26 [.c (.p 0 0 0), .c (.v (.int .i64 id)), .agg [.v (.string x.b), .v (.string x.k), .v (.string x.x), .v (.bool x.g)]] (by simp) (fun ρ h => by simp [SV.denL, SV.den, CV.den, CV.denL, h, Wr.v]) ?_
    have hin : inS id = false := by simpa using hin
    simp only [go_sem, ↓reduceIte, Nat.reduceEqDiff, Nat.reduceLT, Nat.reduceLeDiff, Nat.reduceAdd, Nat.reduceMul, Nat.reduceSub, Nat.reduceDiv, Nat.reduceMod, Int.reduceToNat, Int.reduceLT, Int.reduceLE, Int.reduceAdd, Int.reduceSub, Int.reduceMul, Int.reduceEq, Int.reduceNeg, reduceCtorEq, or_false, false_or, decide_true, decide_false, Int.cast_ofNat_Int, Nat.zero_add, Nat.add_zero, Int.toNat_natCast, Option.isNone_none, Option.isNone_some, Bool.not_true, Bool.not_false, Bool.xor_true, Bool.xor_false, Bool.true_xor, Bool.false_xor, decide_true, decide_false, Bool.and_true, Bool.true_and, Bool.and_false, Bool.false_and, eq_self, ne_eq, not_false_eq_true, not_true_eq_false, true_and, and_true, and_self]
    refine ris_s ?_
    simp only [go_sem, ↓reduceIte, Nat.reduceEqDiff, Nat.reduceLT, Nat.reduceLeDiff, Nat.reduceAdd, Nat.reduceMul, Nat.reduceSub, Nat.reduceDiv, Nat.reduceMod, Int.reduceToNat, Int.reduceLT, Int.reduceLE, Int.reduceAdd, Int.reduceSub, Int.reduceMul, Int.reduceEq, Int.reduceNeg, reduceCtorEq, or_false, false_or, decide_true, decide_false, Int.cast_ofNat_Int, Nat.zero_add, Nat.add_zero, Int.toNat_natCast, Option.isNone_none, Option.isNone_some, Bool.not_true, Bool.not_false, Bool.xor_true, Bool.xor_false, Bool.true_xor, Bool.false_xor, decide_true, decide_false, Bool.and_true, Bool.true_and, Bool.and_false, Bool.false_and, eq_self, ne_eq, not_false_eq_true, not_true_eq_false, true_and, and_true, and_self, hin]
    refine fun ρ a w' hs hag => ?_
    obtain ⟨h1, h2⟩ := rtab_ends (T' := U) (S' := S) ht rfl hs hag rfl rfl (fun i _ => map_v _ _) (fun i _ => .inl ⟨rfl, rfl⟩)
    exact ⟨S, by simp [SV.den, CV.den, rwriteE, hin], by simpa [rwriteU, hin] using h1, h2⟩
  obtain ⟨k, rfl, hk1, hk⟩ := inS_k hin
  rcases hSk : S k with _ | ⟨bl, cc⟩
  · have hwr := ht.wr k hk
    rw [hSk] at hwr
    have hw0 : (U k).ws = [] := hwr
    refine rtab_calls ht rfl 81 _ Try.func26 rfl Try.ntmps26 Try.results26 [.c (.p 0 0 0), .c (.v (.int .i64 k)), .agg [.v (.string x.b), .v (.string x.k), .v (.string x.x), .v (.bool x.g)]] (by simp) (fun ρ h => by simp [SV.denL, SV.den, CV.den, CV.denL, h, Wr.v]) ?_
    have hrow := rrow_eq U S k
    have hsl : slv (S k) (U k).ws.length = .slice none 0 0 := by rw [hSk]; rfl
    simp only [go_sem, ↓reduceIte, Nat.reduceEqDiff, Nat.reduceLT, Nat.reduceLeDiff, Nat.reduceAdd, Nat.reduceMul, Nat.reduceSub, Nat.reduceDiv, Nat.reduceMod, Int.reduceToNat, Int.reduceLT, Int.reduceLE, Int.reduceAdd, Int.reduceSub, Int.reduceMul, Int.reduceEq, Int.reduceNeg, reduceCtorEq, or_false, false_or, decide_true, decide_false, Int.cast_ofNat_Int, Nat.zero_add, Nat.add_zero, Int.toNat_natCast, Option.isNone_none, Option.isNone_some, Bool.not_true, Bool.not_false, Bool.xor_true, Bool.xor_false, Bool.true_xor, Bool.false_xor, decide_true, decide_false, Bool.and_true, Bool.true_and, Bool.and_false, Bool.false_and, eq_self, ne_eq, not_false_eq_true, not_true_eq_false, true_and, and_true, and_self]
    refine ris_s ?_
    cases ho : (U k).op
    · simp (disch := omega) only [go_sem, ↓reduceIte, Nat.reduceEqDiff, Nat.reduceLT, Nat.reduceLeDiff, Nat.reduceAdd, Nat.reduceMul, Nat.reduceSub, Nat.reduceDiv, Nat.reduceMod, Int.reduceToNat, Int.reduceLT, Int.reduceLE, Int.reduceAdd, Int.reduceSub, Int.reduceMul, Int.reduceEq, Int.reduceNeg, reduceCtorEq, or_false, false_or, decide_true, decide_false, Int.cast_ofNat_Int, Nat.zero_add, Nat.add_zero, Int.toNat_natCast, Option.isNone_none, Option.isNone_some, Bool.not_true, Bool.not_false, Bool.xor_true, Bool.xor_false, Bool.true_xor, Bool.false_xor, decide_true, decide_false, Bool.and_true, Bool.true_and, Bool.and_false, Bool.false_and, eq_self, ne_eq, not_false_eq_true, not_true_eq_false, true_and, and_true, and_self, wrapI64, wrapu64, wrapu32, wrapu8, ltT, ltF, leT, leF, eqF, eqT, nltT, nleT, hin, hrow, ho]
      refine fun ρ a w' hs hag => ?_
      obtain ⟨h1, h2⟩ := rtab_ends (T' := U) (S' := S) ht rfl hs hag rfl rfl (fun i _ => map_v _ _) (fun i _ => .inl ⟨rfl, rfl⟩)
      exact ⟨S, by simp [SV.den, CV.den, rwriteE, hin, ho], by simpa [rwriteU, hin, ho] using h1, h2⟩
    simp (disch := omega) only [go_sem, ↓reduceIte, Nat.reduceEqDiff, Nat.reduceLT, Nat.reduceLeDiff, Nat.reduceAdd, Nat.reduceMul, Nat.reduceSub, Nat.reduceDiv, Nat.reduceMod, Int.reduceToNat, Int.reduceLT, Int.reduceLE, Int.reduceAdd, Int.reduceSub, Int.reduceMul, Int.reduceEq, Int.reduceNeg, reduceCtorEq, or_false, false_or, decide_true, decide_false, Int.cast_ofNat_Int, Nat.zero_add, Nat.add_zero, Int.toNat_natCast, Option.isNone_none, Option.isNone_some, Bool.not_true, Bool.not_false, Bool.xor_true, Bool.xor_false, Bool.true_xor, Bool.false_xor, decide_true, decide_false, Bool.and_true, Bool.true_and, Bool.and_false, Bool.false_and, eq_self, ne_eq, not_false_eq_true, not_true_eq_false, true_and, and_true, and_self, wrapI64, wrapu64, wrapu32, wrapu8, ltT, ltF, leT, leF, eqF, eqT, nltT, nleT, hin, hrow, ho]
    refine rwright_s ?_
    cases hr : x.right
    · simp only [go_sem, ↓reduceIte, Nat.reduceEqDiff, Nat.reduceLT, Nat.reduceLeDiff, Nat.reduceAdd, Nat.reduceMul, Nat.reduceSub, Nat.reduceDiv, Nat.reduceMod, Int.reduceToNat, Int.reduceLT, Int.reduceLE, Int.reduceAdd, Int.reduceSub, Int.reduceMul, Int.reduceEq, Int.reduceNeg, reduceCtorEq, or_false, false_or, decide_true, decide_false, Int.cast_ofNat_Int, Nat.zero_add, Nat.add_zero, Int.toNat_natCast, Option.isNone_none, Option.isNone_some, Bool.not_true, Bool.not_false, Bool.xor_true, Bool.xor_false, Bool.true_xor, Bool.false_xor, decide_true, decide_false, Bool.and_true, Bool.true_and, Bool.and_false, Bool.false_and, eq_self, ne_eq, not_false_eq_true, not_true_eq_false, true_and, and_true, and_self]
      refine fun ρ a w' hs hag => ?_
      obtain ⟨h1, h2⟩ := rtab_ends (T' := U) (S' := S) ht rfl hs hag rfl rfl (fun i _ => map_v _ _) (fun i _ => .inl ⟨rfl, rfl⟩)
      exact ⟨S, by simp [SV.den, CV.den, rwriteE, hin, ho, hr], by simpa [rwriteU, hin, ho, hr] using h1, h2⟩
    simp (disch := omega) only [go_sem, ↓reduceIte, Nat.reduceEqDiff, Nat.reduceLT, Nat.reduceLeDiff, Nat.reduceAdd, Nat.reduceMul, Nat.reduceSub, Nat.reduceDiv, Nat.reduceMod, Int.reduceToNat, Int.reduceLT, Int.reduceLE, Int.reduceAdd, Int.reduceSub, Int.reduceMul, Int.reduceEq, Int.reduceNeg, reduceCtorEq, or_false, false_or, decide_true, decide_false, Int.cast_ofNat_Int, Nat.zero_add, Nat.add_zero, Int.toNat_natCast, Option.isNone_none, Option.isNone_some, Bool.not_true, Bool.not_false, Bool.xor_true, Bool.xor_false, Bool.true_xor, Bool.false_xor, decide_true, decide_false, Bool.and_true, Bool.true_and, Bool.and_false, Bool.false_and, eq_self, ne_eq, not_false_eq_true, not_true_eq_false, true_and, and_true, and_self, wrapI64, wrapu64, wrapu32, wrapu8, ltT, ltF, leT, leF, eqF, eqT, nltT, nleT, hrow, hsl]
    refine sappend_none rfl rfl tkind33 tsz56 ⟨by show (32 : Nat) < 81; omega, ?_⟩
    simp (disch := omega) only [go_sem, ↓reduceIte, Nat.reduceEqDiff, Nat.reduceLT, Nat.reduceLeDiff, Nat.reduceAdd, Nat.reduceMul, Nat.reduceSub, Nat.reduceDiv, Nat.reduceMod, Int.reduceToNat, Int.reduceLT, Int.reduceLE, Int.reduceAdd, Int.reduceSub, Int.reduceMul, Int.reduceEq, Int.reduceNeg, reduceCtorEq, or_false, false_or, decide_true, decide_false, Int.cast_ofNat_Int, Nat.zero_add, Nat.add_zero, Int.toNat_natCast, Option.isNone_none, Option.isNone_some, Bool.not_true, Bool.not_false, Bool.xor_true, Bool.xor_false, Bool.true_xor, Bool.false_xor, decide_true, decide_false, Bool.and_true, Bool.true_and, Bool.and_false, Bool.false_and, eq_self, ne_eq, not_false_eq_true, not_true_eq_false, true_and, and_true, and_self, wrapI64, wrapu64, wrapu32, wrapu8, ltT, ltF, leT, leF, eqF, eqT, nltT, nleT]
    refine sloop_rounds 1 ?_
    simp (disch := omega) only [go_sem, ↓reduceIte, Nat.reduceEqDiff, Nat.reduceLT, Nat.reduceLeDiff, Nat.reduceAdd, Nat.reduceMul, Nat.reduceSub, Nat.reduceDiv, Nat.reduceMod, Int.reduceToNat, Int.reduceLT, Int.reduceLE, Int.reduceAdd, Int.reduceSub, Int.reduceMul, Int.reduceEq, Int.reduceNeg, reduceCtorEq, or_false, false_or, decide_true, decide_false, Int.cast_ofNat_Int, Nat.zero_add, Nat.add_zero, Int.toNat_natCast, Option.isNone_none, Option.isNone_some, Bool.not_true, Bool.not_false, Bool.xor_true, Bool.xor_false, Bool.true_xor, Bool.false_xor, decide_true, decide_false, Bool.and_true, Bool.true_and, Bool.and_false, Bool.false_and, eq_self, ne_eq, not_false_eq_true, not_true_eq_false, true_and, and_true, and_self, wrapI64, wrapu64, wrapu32, wrapu8, ltT, ltF, leT, leF, eqF, eqT, nltT, nleT]
    refine sdraw [.t 0, .t 1, .t 2, .t 3, .t 6, .t 7, .r 4, .r 5, .t 8, .t 9, .r 10] 10 [(0, .rows 38 10 9 9 fun i => ((U i).row (S i)).map .v), (2, .cells 56 [.v (.string x.b), .v (.string x.k), .v (.string x.x), .v (.bool x.g)])] rfl (by kernel_rfl) ⟨rfl, rfl, trivial⟩ ?_
    simp (disch := omega) only [go_sem, ↓reduceIte, Nat.reduceEqDiff, Nat.reduceLT, Nat.reduceLeDiff, Nat.reduceAdd, Nat.reduceMul, Nat.reduceSub, Nat.reduceDiv, Nat.reduceMod, Int.reduceToNat, Int.reduceLT, Int.reduceLE, Int.reduceAdd, Int.reduceSub, Int.reduceMul, Int.reduceEq, Int.reduceNeg, reduceCtorEq, or_false, false_or, decide_true, decide_false, Int.cast_ofNat_Int, Nat.zero_add, Nat.add_zero, Int.toNat_natCast, Option.isNone_none, Option.isNone_some, Bool.not_true, Bool.not_false, Bool.xor_true, Bool.xor_false, Bool.true_xor, Bool.false_xor, decide_true, decide_false, Bool.and_true, Bool.true_and, Bool.and_false, Bool.false_and, eq_self, ne_eq, not_false_eq_true, not_true_eq_false, true_and, and_true, and_self, wrapI64, wrapu64, wrapu32, wrapu8, ltT, ltF, leT, leF, eqF, eqT, nltT, nleT, hrow]
    refine sappend_nil rfl rfl tkind33 tsz56 tby56 tz56 rfl ⟨⟨rfl, by decide, by decide⟩, by decide, by decide, by decide⟩ ?_
    refine ⟨by show (76 : Nat) < 81; omega, fun c' hc' => ?_⟩
    simp (disch := omega) only [go_sem, ↓reduceIte, Nat.reduceEqDiff, Nat.reduceLT, Nat.reduceLeDiff, Nat.reduceAdd, Nat.reduceMul, Nat.reduceSub, Nat.reduceDiv, Nat.reduceMod, Int.reduceToNat, Int.reduceLT, Int.reduceLE, Int.reduceAdd, Int.reduceSub, Int.reduceMul, Int.reduceEq, Int.reduceNeg, reduceCtorEq, or_false, false_or, decide_true, decide_false, Int.cast_ofNat_Int, Nat.zero_add, Nat.add_zero, Int.toNat_natCast, Option.isNone_none, Option.isNone_some, Bool.not_true, Bool.not_false, Bool.xor_true, Bool.xor_false, Bool.true_xor, Bool.false_xor, decide_true, decide_false, Bool.and_true, Bool.true_and, Bool.and_false, Bool.false_and, eq_self, ne_eq, not_false_eq_true, not_true_eq_false, true_and, and_true, and_self, wrapI64, wrapu64, wrapu32, wrapu8, ltT, ltF, leT, leF, eqF, eqT, nltT, nleT, hrow]
    refine fun ρ a w' hs hag => ?_
    obtain ⟨hpu, hfi⟩ := putW_no (ws := (U k).ws) (x := x) (fun j hj => by rw [hw0] at hj; cases hj)
    rw [hw0] at hpu hfi
    obtain ⟨S', h1, h2⟩ := rtxn_ends (ws' := [x]) ht hk hs (by rw [hag 0 (by show 0 < 2; omega)]) 4 c' (by decide) rfl rfl 1 (by decide) (by decide) rfl (fun y hy => by
      obtain ⟨i, c, hi, h⟩ := mem_restf.1 hy
      exact mem_restf.2 ⟨i, c, List.mem_range.2 (mem_others.1 hi).1, h⟩) (fun w h i hi => h i (List.mem_range.2 (mem_others.1 hi).1)) (fun i hi hik => by simp only [rupd, hik, if_false]; exact map_v _ _) (by
      have := (hs.now.hp _ _ (mem_hget (n := 4) rfl)).1
      simp [rupd, RO.row, slv, CV.den, this, cu]) (fun j hj => by
      have : j = 0 := by simpa using hj
      subst this; rfl) ⟨by simp, hc', by simp⟩
    refine ⟨S', by simp [SV.den, CV.den, rwriteE, hin, ho, hr, hw0, hfi], ?_, h2⟩
    simpa [rwriteU, hin, ho, hr, hw0, hfi, hpu] using h1
  · have hwr := ht.wr k hk
    rw [hSk] at hwr
    obtain ⟨⟨hl8, hlc, hl0⟩, hwr⟩ := hwr
    refine rtxn_calls ht hk hSk 81 _ Try.func26 rfl Try.ntmps26 Try.results26 [.c (.p 0 0 0), .c (.v (.int .i64 k)), .agg [.v (.string x.b), .v (.string x.k), .v (.string x.x), .v (.bool x.g)]] (by simp) (fun ρ h => by simp [SV.denL, SV.den, CV.den, CV.denL, h, Wr.v]) ?_
    have hrow := rrk_same U S k 1 (U k).ws.length cc
    have same : ∀ (v : Int) (n : Nat) (st : St) (ρ : Env) (a : Act) (w' : World), Sat ⟨w, (· ∈ fpR g S), n, 3, fun m => if m = 1 then ⟨bl, 0, 4⟩ else ⟨g, 0, 10⟩⟩ st ρ a w' → (∀ q, q < 3 → ρ q = if q = 1 then ⟨bl, 0, 4⟩ else ⟨g, 0, 10⟩) →
        hget st.hp 0 = some (.rows 38 10 9 9 (rrk U S k 1 (U k).ws.length cc)) → hget st.hp 1 = some (.rows 56 4 (U k).ws.length cc fun j => (wrow (U k).ws j).map .v) → hget st.hp 2 = some (.pred (restf (others k) S) (RWrs (others k) U S)) → RTurn g S (.int .i64 v) U w (.returned (.int .i64 v)) w' := fun v n st ρ a w' hs hag h0 h1 h2 => by
      obtain ⟨S', e1, e2⟩ := rtxn_ends (ws' := (U k).ws) ht hk hs (by rw [hag 0 (by omega)]; rfl) 1 cc (by decide) h0 h1 2 (by decide) (by decide) h2 (fun _ h => h) (fun _ h => h) (fun i hi hik => by simp only [rrk, hik, if_false]; exact map_v _ _) (by
        have := hag 1 (by omega)
        simp at this
        simp [rrk, RO.row, slv, CV.den, this]) (fun j _ => map_v _ _) ⟨hl8, hlc, hl0⟩
      have : upd U k { U k with ws := (U k).ws } = U := by funext i; unfold upd; split; (rename_i e; subst e; rfl); rfl
      rw [this] at e1
      exact ⟨S', rfl, e1, e2⟩
    simp only [go_sem, ↓reduceIte, Nat.reduceEqDiff, Nat.reduceLT, Nat.reduceLeDiff, Nat.reduceAdd, Nat.reduceMul, Nat.reduceSub, Nat.reduceDiv, Nat.reduceMod, Int.reduceToNat, Int.reduceLT, Int.reduceLE, Int.reduceAdd, Int.reduceSub, Int.reduceMul, Int.reduceEq, Int.reduceNeg, reduceCtorEq, or_false, false_or, decide_true, decide_false, Int.cast_ofNat_Int, Nat.zero_add, Nat.add_zero, Int.toNat_natCast, Option.isNone_none, Option.isNone_some, Bool.not_true, Bool.not_false, Bool.xor_true, Bool.xor_false, Bool.true_xor, Bool.false_xor, decide_true, decide_false, Bool.and_true, Bool.true_and, Bool.and_false, Bool.false_and, eq_self, ne_eq, not_false_eq_true, not_true_eq_false, true_and, and_true, and_self]
    refine ris_s ?_
    cases ho : (U k).op
    · simp (disch := omega) only [go_sem, ↓reduceIte, Nat.reduceEqDiff, Nat.reduceLT, Nat.reduceLeDiff, Nat.reduceAdd, Nat.reduceMul, Nat.reduceSub, Nat.reduceDiv, Nat.reduceMod, Int.reduceToNat, Int.reduceLT, Int.reduceLE, Int.reduceAdd, Int.reduceSub, Int.reduceMul, Int.reduceEq, Int.reduceNeg, reduceCtorEq, or_false, false_or, decide_true, decide_false, Int.cast_ofNat_Int, Nat.zero_add, Nat.add_zero, Int.toNat_natCast, Option.isNone_none, Option.isNone_some, Bool.not_true, Bool.not_false, Bool.xor_true, Bool.xor_false, Bool.true_xor, Bool.false_xor, decide_true, decide_false, Bool.and_true, Bool.true_and, Bool.and_false, Bool.false_and, eq_self, ne_eq, not_false_eq_true, not_true_eq_false, true_and, and_true, and_self, wrapI64, wrapu64, wrapu32, wrapu8, ltT, ltF, leT, leF, eqF, eqT, nltT, nleT, hin, hrow, ho]
      refine fun ρ a w' hs hag => ?_
      have := same 5 _ _ _ _ _ hs hag rfl rfl rfl
      simpa [SV.den, CV.den, rwriteE, rwriteU, hin, ho] using this
    simp (disch := omega) only [go_sem, ↓reduceIte, Nat.reduceEqDiff, Nat.reduceLT, Nat.reduceLeDiff, Nat.reduceAdd, Nat.reduceMul, Nat.reduceSub, Nat.reduceDiv, Nat.reduceMod, Int.reduceToNat, Int.reduceLT, Int.reduceLE, Int.reduceAdd, Int.reduceSub, Int.reduceMul, Int.reduceEq, Int.reduceNeg, reduceCtorEq, or_false, false_or, decide_true, decide_false, Int.cast_ofNat_Int, Nat.zero_add, Nat.add_zero, Int.toNat_natCast, Option.isNone_none, Option.isNone_some, Bool.not_true, Bool.not_false, Bool.xor_true, Bool.xor_false, Bool.true_xor, Bool.false_xor, decide_true, decide_false, Bool.and_true, Bool.true_and, Bool.and_false, Bool.false_and, eq_self, ne_eq, not_false_eq_true, not_true_eq_false, true_and, and_true, and_self, wrapI64, wrapu64, wrapu32, wrapu8, ltT, ltF, leT, leF, eqF, eqT, nltT, nleT, hin, hrow, ho]
    refine rwright_s ?_
    cases hr : x.right
    · simp only [go_sem, ↓reduceIte, Nat.reduceEqDiff, Nat.reduceLT, Nat.reduceLeDiff, Nat.reduceAdd, Nat.reduceMul, Nat.reduceSub, Nat.reduceDiv, Nat.reduceMod, Int.reduceToNat, Int.reduceLT, Int.reduceLE, Int.reduceAdd, Int.reduceSub, Int.reduceMul, Int.reduceEq, Int.reduceNeg, reduceCtorEq, or_false, false_or, decide_true, decide_false, Int.cast_ofNat_Int, Nat.zero_add, Nat.add_zero, Int.toNat_natCast, Option.isNone_none, Option.isNone_some, Bool.not_true, Bool.not_false, Bool.xor_true, Bool.xor_false, Bool.true_xor, Bool.false_xor, decide_true, decide_false, Bool.and_true, Bool.true_and, Bool.and_false, Bool.false_and, eq_self, ne_eq, not_false_eq_true, not_true_eq_false, true_and, and_true, and_self]
      refine fun ρ a w' hs hag => ?_
      have := same 1 _ _ _ _ _ hs hag rfl rfl rfl
      simpa [SV.den, CV.den, rwriteE, rwriteU, hin, ho, hr] using this
    simp (disch := omega) only [go_sem, ↓reduceIte, Nat.reduceEqDiff, Nat.reduceLT, Nat.reduceLeDiff, Nat.reduceAdd, Nat.reduceMul, Nat.reduceSub, Nat.reduceDiv, Nat.reduceMod, Int.reduceToNat, Int.reduceLT, Int.reduceLE, Int.reduceAdd, Int.reduceSub, Int.reduceMul, Int.reduceEq, Int.reduceNeg, reduceCtorEq, or_false, false_or, decide_true, decide_false, Int.cast_ofNat_Int, Nat.zero_add, Nat.add_zero, Int.toNat_natCast, Option.isNone_none, Option.isNone_some, Bool.not_true, Bool.not_false, Bool.xor_true, Bool.xor_false, Bool.true_xor, Bool.false_xor, decide_true, decide_false, Bool.and_true, Bool.true_and, Bool.and_false, Bool.false_and, eq_self, ne_eq, not_false_eq_true, not_true_eq_false, true_and, and_true, and_self, wrapI64, wrapu64, wrapu32, wrapu8, ltT, ltF, leT, leF, eqF, eqT, nltT, nleT, hrow]
    refine sappend_nil rfl rfl tkind33 tsz56 tby56 tz56 rfl ⟨⟨rfl, by decide, hl0⟩, by omega, by omega, by omega⟩ ?_
    refine ⟨by show (32 : Nat) < 81; omega, fun c' hc' => ?_⟩
    simp (disch := omega) only [go_sem, ↓reduceIte, Nat.reduceEqDiff, Nat.reduceLT, Nat.reduceLeDiff, Nat.reduceAdd, Nat.reduceMul, Nat.reduceSub, Nat.reduceDiv, Nat.reduceMod, Int.reduceToNat, Int.reduceLT, Int.reduceLE, Int.reduceAdd, Int.reduceSub, Int.reduceMul, Int.reduceEq, Int.reduceNeg, reduceCtorEq, or_false, false_or, decide_true, decide_false, Int.cast_ofNat_Int, Nat.zero_add, Nat.add_zero, Int.toNat_natCast, Option.isNone_none, Option.isNone_some, Bool.not_true, Bool.not_false, Bool.xor_true, Bool.xor_false, Bool.true_xor, Bool.false_xor, decide_true, decide_false, Bool.and_true, Bool.true_and, Bool.and_false, Bool.false_and, eq_self, ne_eq, not_false_eq_true, not_true_eq_false, true_and, and_true, and_self, wrapI64, wrapu64, wrapu32, wrapu8, ltT, ltF, leT, leF, eqF, eqT, nltT, nleT]
    refine sloop (fun i : Nat => rwSt U S k cc x c' i) (fun i => i ≤ (U k).ws.length ∧ ∀ j, j < i → ∀ z, (U k).ws[j]? = some z → hit x.b x.k z = false) (fun i => (U k).ws.length - i) 0 ⟨by omega, fun j hj => by omega⟩ (ent_drop ⟨rfl, rfl, rfl, rfl, rfl, trivial⟩ ⟨rfl, rfl, rfl, rfl, rfl, trivial⟩ (by simp)) (fun i hp => ?_)
    obtain ⟨hi, hno⟩ := hp
    simp only [rwSt]
    by_cases h : i < (U k).ws.length
    · obtain ⟨y, hy⟩ : ∃ y, (U k).ws[i]? = some y := ⟨_, List.getElem?_eq_getElem h⟩
      have hr2 := wrow_eq hy
      obtain ⟨c1, c2, d1, d2⟩ : ∃ c1 c2, decide (y.b = x.b) = c1 ∧ decide (y.k = x.k) = c2 := ⟨_, _, rfl, rfl⟩
      have hh : hit x.b x.k y = (c1 && c2) := by rw [← d1, ← d2]; rfl
      simp (disch := omega) only [go_sem, ↓reduceIte, Nat.reduceEqDiff, Nat.reduceLT, Nat.reduceLeDiff, Nat.reduceAdd, Nat.reduceMul, Nat.reduceSub, Nat.reduceDiv, Nat.reduceMod, Int.reduceToNat, Int.reduceLT, Int.reduceLE, Int.reduceAdd, Int.reduceSub, Int.reduceMul, Int.reduceEq, Int.reduceNeg, reduceCtorEq, or_false, false_or, decide_true, decide_false, Int.cast_ofNat_Int, Nat.zero_add, Nat.add_zero, Int.toNat_natCast, Option.isNone_none, Option.isNone_some, Bool.not_true, Bool.not_false, Bool.xor_true, Bool.xor_false, Bool.true_xor, Bool.false_xor, decide_true, decide_false, Bool.and_true, Bool.true_and, Bool.and_false, Bool.false_and, eq_self, ne_eq, not_false_eq_true, not_true_eq_false, true_and, and_true, and_self, wrapI64, wrapu64, wrapu32, wrapu8, ltT, ltF, leT, leF, eqF, eqT, nltT, nleT]
      refine sdraw0 [.t 0, .t 1, .t 2, .t 3, .t 4, .t 5, .t 6, .t 7, .t 8, .t 9, .t 10, .t 11, .t 12, .t 13, .t 14, .t 15, .t 16, .t 17] 18 rfl (by kernel_rfl) ?_
      cases c1 <;> cases c2
      all_goals
        simp (disch := omega) only [go_sem, ↓reduceIte, Nat.reduceEqDiff, Nat.reduceLT, Nat.reduceLeDiff, Nat.reduceAdd, Nat.reduceMul, Nat.reduceSub, Nat.reduceDiv, Nat.reduceMod, Int.reduceToNat, Int.reduceLT, Int.reduceLE, Int.reduceAdd, Int.reduceSub, Int.reduceMul, Int.reduceEq, Int.reduceNeg, reduceCtorEq, or_false, false_or, decide_true, decide_false, Int.cast_ofNat_Int, Nat.zero_add, Nat.add_zero, Int.toNat_natCast, Option.isNone_none, Option.isNone_some, Bool.not_true, Bool.not_false, Bool.xor_true, Bool.xor_false, Bool.true_xor, Bool.false_xor, decide_true, decide_false, Bool.and_true, Bool.true_and, Bool.and_false, Bool.false_and, eq_self, ne_eq, not_false_eq_true, not_true_eq_false, true_and, and_true, and_self, wrapI64, wrapu64, wrapu32, wrapu8, ltT, ltF, leT, leF, eqF, eqT, nltT, nleT, hr2, d1, d2, hrow]
        first
          | (refine fun ρ a w' hs hag => ?_
             obtain ⟨hpu, hfi⟩ := putW_hit hy (by rw [hh]; rfl) hno
             obtain ⟨S', h1, h2⟩ := rtxn_ends (ws' := (U k).ws.set i x) ht hk hs (by rw [hag 0 (by show 0 < 3; omega)]; rfl) 4 c' (by decide) rfl (by rw [List.length_set]; rfl) 2 (by decide) (by decide) rfl (fun _ h => h) (fun _ h => h) (fun j hj hjk => by simp only [rupd, rrk, hjk, if_false]; exact map_v _ _) (by
               have := (hs.now.hp _ _ (mem_hget (n := 4) rfl)).1
               simp [rupd, RO.row, slv, CV.den, this, cu]) (fun j hj => by
               by_cases hji : j = i
               · subst hji; simp [rupd, wrow, h, Wr.l, CV.den]
               · simp only [rupd, hji, if_false]
                 rw [map_v]
                 unfold wrow
                 rw [List.getElem?_set_ne (Ne.symm hji)]) ⟨by simpa using hl8, by simpa using hc', by simpa using hl0⟩
             refine ⟨S', by simp [SV.den, CV.den, rwriteE, hin, ho, hr, hfi], ?_, h2⟩
             simpa [rwriteU, hin, ho, hr, hfi, hpu] using h1)
          | exact ⟨i + 1, ⟨by omega, fun j hj z hz => by
              by_cases hji : j = i
              · subst hji; rw [hy] at hz; injection hz with hz; rw [← hz, hh]; rfl
              · exact hno j (by omega) z hz⟩, by omega, ent_drop ⟨rfl, rfl, rfl, rfl, rfl, trivial⟩ ⟨rfl, rfl, rfl, rfl, rfl, trivial⟩ (by simp)⟩
    · have hil : i = (U k).ws.length := by omega
      subst hil
      obtain ⟨hpu, hfi⟩ := putW_no (ws := (U k).ws) (x := x) hno
      by_cases h8 : (U k).ws.length < 8
      · simp (disch := omega) only [go_sem, ↓reduceIte, Nat.reduceEqDiff, Nat.reduceLT, Nat.reduceLeDiff, Nat.reduceAdd, Nat.reduceMul, Nat.reduceSub, Nat.reduceDiv, Nat.reduceMod, Int.reduceToNat, Int.reduceLT, Int.reduceLE, Int.reduceAdd, Int.reduceSub, Int.reduceMul, Int.reduceEq, Int.reduceNeg, reduceCtorEq, or_false, false_or, decide_true, decide_false, Int.cast_ofNat_Int, Nat.zero_add, Nat.add_zero, Int.toNat_natCast, Option.isNone_none, Option.isNone_some, Bool.not_true, Bool.not_false, Bool.xor_true, Bool.xor_false, Bool.true_xor, Bool.false_xor, decide_true, decide_false, Bool.and_true, Bool.true_and, Bool.and_false, Bool.false_and, eq_self, ne_eq, not_false_eq_true, not_true_eq_false, true_and, and_true, and_self, wrapI64, wrapu64, wrapu32, wrapu8, ltT, ltF, leT, leF, eqF, eqT, nltT, nleT]
        refine sdraw [.t 0, .t 1, .t 2, .t 3, .t 6, .t 7, .r 4, .r 5, .t 8, .t 9, .r 10] 10 [(0, .rows 38 10 9 9 (rrk U S k 1 (U k).ws.length cc)), (3, .cells 56 [.v (.string x.b), .v (.string x.k), .v (.string x.x), .v (.bool x.g)])] rfl (by kernel_rfl) ⟨rfl, rfl, trivial⟩ ?_
        simp (disch := omega) only [go_sem, ↓reduceIte, Nat.reduceEqDiff, Nat.reduceLT, Nat.reduceLeDiff, Nat.reduceAdd, Nat.reduceMul, Nat.reduceSub, Nat.reduceDiv, Nat.reduceMod, Int.reduceToNat, Int.reduceLT, Int.reduceLE, Int.reduceAdd, Int.reduceSub, Int.reduceMul, Int.reduceEq, Int.reduceNeg, reduceCtorEq, or_false, false_or, decide_true, decide_false, Int.cast_ofNat_Int, Nat.zero_add, Nat.add_zero, Int.toNat_natCast, Option.isNone_none, Option.isNone_some, Bool.not_true, Bool.not_false, Bool.xor_true, Bool.xor_false, Bool.true_xor, Bool.false_xor, decide_true, decide_false, Bool.and_true, Bool.true_and, Bool.and_false, Bool.false_and, eq_self, ne_eq, not_false_eq_true, not_true_eq_false, true_and, and_true, and_self, wrapI64, wrapu64, wrapu32, wrapu8, ltT, ltF, leT, leF, eqF, eqT, nltT, nleT, hrow]
        refine sappend rfl rfl tkind33 tsz56 tby56 tz56 rfl rfl ⟨⟨rfl, by decide, by decide, Nat.le_refl _⟩, by decide, by omega, by omega⟩ (fun q hq => by
          have : q = 0 := by omega
          subst this; rfl) ⟨by show (76 : Nat) < 81; omega, fun c2 hc2 => ?_⟩
        simp (disch := omega) only [go_sem, ↓reduceIte, Nat.reduceEqDiff, Nat.reduceLT, Nat.reduceLeDiff, Nat.reduceAdd, Nat.reduceMul, Nat.reduceSub, Nat.reduceDiv, Nat.reduceMod, Int.reduceToNat, Int.reduceLT, Int.reduceLE, Int.reduceAdd, Int.reduceSub, Int.reduceMul, Int.reduceEq, Int.reduceNeg, reduceCtorEq, or_false, false_or, decide_true, decide_false, Int.cast_ofNat_Int, Nat.zero_add, Nat.add_zero, Int.toNat_natCast, Option.isNone_none, Option.isNone_some, Bool.not_true, Bool.not_false, Bool.xor_true, Bool.xor_false, Bool.true_xor, Bool.false_xor, decide_true, decide_false, Bool.and_true, Bool.true_and, Bool.and_false, Bool.false_and, eq_self, ne_eq, not_false_eq_true, not_true_eq_false, true_and, and_true, and_self, wrapI64, wrapu64, wrapu32, wrapu8, ltT, ltF, leT, leF, eqF, eqT, nltT, nleT, hrow]
        refine fun ρ a w' hs hag => ?_
        obtain ⟨S', h1, h2⟩ := rtxn_ends (ws' := (U k).ws ++ [x]) ht hk hs (by rw [hag 0 (by show 0 < 3; omega)]; rfl) 6 c2 (by decide) rfl (by rw [List.length_append]; rfl) 2 (by decide) (by decide) rfl (fun _ h => h) (fun _ h => h) (fun j hj hjk => by simp only [rupd, rrk, hjk, if_false]; exact map_v _ _) (by
          have := (hs.now.hp _ _ (mem_hget (n := 6) rfl)).1
          simp [rupd, RO.row, slv, CV.den, this, cu]) (fun j hj => by
          by_cases hji : j < (U k).ws.length
          · simp only [rapp, hji, if_true]; rw [map_v]; unfold wrow; rw [List.getElem?_append_left hji]
          · have : j = (U k).ws.length := by simp at hj; omega
            subst this
            simp [rapp, wrow, Wr.l, CV.den]) ⟨by simp; omega, by simpa using hc2, by simp⟩
        have hfi : fits (U k).ws x = true := by rw [hfi]; simpa using h8
        refine ⟨S', by simp [SV.den, CV.den, rwriteE, hin, ho, hr, hfi], ?_, h2⟩
        simpa [rwriteU, hin, ho, hr, hfi, hpu] using h1
      · simp (disch := omega) only [go_sem, ↓reduceIte, Nat.reduceEqDiff, Nat.reduceLT, Nat.reduceLeDiff, Nat.reduceAdd, Nat.reduceMul, Nat.reduceSub, Nat.reduceDiv, Nat.reduceMod, Int.reduceToNat, Int.reduceLT, Int.reduceLE, Int.reduceAdd, Int.reduceSub, Int.reduceMul, Int.reduceEq, Int.reduceNeg, reduceCtorEq, or_false, false_or, decide_true, decide_false, Int.cast_ofNat_Int, Nat.zero_add, Nat.add_zero, Int.toNat_natCast, Option.isNone_none, Option.isNone_some, Bool.not_true, Bool.not_false, Bool.xor_true, Bool.xor_false, Bool.true_xor, Bool.false_xor, decide_true, decide_false, Bool.and_true, Bool.true_and, Bool.and_false, Bool.false_and, eq_self, ne_eq, not_false_eq_true, not_true_eq_false, true_and, and_true, and_self, wrapI64, wrapu64, wrapu32, wrapu8, ltT, ltF, leT, leF, eqF, eqT, nltT, nleT]
        refine fun ρ a w' hs hag => ?_
        have := same 4 _ _ _ _ _ hs hag rfl rfl rfl
        have hfi : fits (U k).ws x = false := by rw [hfi]; simpa using h8
        simpa [SV.den, CV.den, rwriteE, rwriteU, hin, ho, hr, hfi] using this
end Go.Proofs.Ytfokingbglkmjaa
