/-
  Parts of the proof: Lane2, Lane3, Keys, Mark, Ord, VerW, LastW, ChainW, Chain2W, Chain3W, Chain4W, Chain5W, Chain6W, Shard, ShardM, Shard2, Shard3, Shard4, Shard5, Shard6, Shard7, Puts, Deal, Deal2, Ex10. Conditions: none.
-/
import Derived.Test.YtagjblkfgjcmnaaM11
import Derived.Conc.SmallLaws
import Derived.Test.YtagjblkfgjcmnaaM10
import Derived.Test.YtagjblkfgjcmnaaM9
import Derived.RangeFuncNested
import Derived.RangeFuncBound
import Derived.RangeFuncCalls
import Derived.RangeFuncLeaves
import Derived.RangeFuncBox
import Derived.Shelf.Abstract
import Derived.OwnWalkIn
import Derived.TacticsInMore
import Derived.LoopNIn
import Derived.LoopIn
set_option linter.unusedVariables false
set_option linter.unusedSimpArgs false
set_option linter.unusedSectionVars false
namespace Go.Proofs.Ytagjblkfgjcmnaa
open Go.RowKit Go.Sx
structure BatA where
  st : Stp
  ws : List Wr
  b : Nat
  c : Nat
abbrev Bat := Stp × List Wr
def BatA.bat (x : BatA) : Bat := (x.st, x.ws)
def slb (n b c : Nat) : Value := if n = 0 then .slice none 0 0 else .slice (some ⟨b, 0, none⟩) n c
def BatA.val (x : BatA) : Value := .agg #[vu x.st.v.a, vu x.st.v.b, vu x.st.v.c, vu x.st.v.d, .int .i64 x.st.dc, slb x.ws.length x.b x.c]
def BatR (x : BatA) (fp : List Nat) (w : World) : Prop := if x.ws.length = 0 then fp = [] else fp = [x.b] ∧ x.ws.length ≤ x.c ∧ RowsAt w x.b 42 4 x.ws.length x.c (wrw x.ws)
theorem BatR.stable (x : BatA) (fp : List Nat) : Stable fp (BatR x fp) := fun w w' h hs => by
  unfold BatR at h ⊢
  split
  · next h0 => rw [if_pos h0] at h; exact h
  · next h0 =>
    rw [if_neg h0] at h
    obtain ⟨rfl, h1, h2⟩ := h
    exact ⟨rfl, h1, h2.same (hs x.b (by simp))⟩
def LnSh (room : Nat) (q : List Bat) (nx : Nat) (hp : List (Nat × Blk)) : Prop := nx = 3 ∧ ∃ c s r its fpb, its.map BatA.bat = q ∧
  hp = [(0, .cells 135 [.v (.chan (some c))]), (1, .pred [c] (ChAt c room (its.map BatA.val) s r)), (2, .pred fpb (All BatR its fpb))]
theorem ln_out {g room : Nat} {q : List Bat} {fp : List Nat} {w : World} (h : On g (LnSh room q) fp w) : ∃ c s r its fpb, fp = g :: c :: fpb ∧ its.map BatA.bat = q ∧ LnAt g c room (its.map BatA.val) s r w ∧ All BatR its fpb w := by
  obtain ⟨ρ, nx, hp, ⟨rfl, c, s, r, its, fpb, h1, rfl⟩, h2, h3, h4, h5, h6, h7, h8⟩ := h
  have a0 := (h2 0 _ (List.mem_cons_self ..)).2
  have a1 := (h2 1 _ (List.mem_cons_of_mem _ (List.mem_cons_self ..))).2
  have a2 := (h2 2 _ (List.mem_cons_of_mem _ (List.mem_cons_of_mem _ (List.mem_cons_self ..)))).2
  refine ⟨c, s, r, its, fpb, ?_, h1, ⟨?_, a1.1⟩, a2.1⟩
  · rw [← h4, ← h6]; simp [footL, Blk.foot]
  · rw [← h6]; simpa [CV.den] using a0.2.1
theorem ln_mk {g c room s r : Nat} {its : List BatA} {fpb : List Nat} {w : World} (h1 : LnAt g c room (its.map BatA.val) s r w) (h2 : All BatR its fpb w) (hn : (g :: c :: fpb).Nodup) : On g (LnSh room (its.map BatA.bat)) (g :: c :: fpb) w := by
  have hnd := (List.nodup_cons.1 (List.nodup_cons.1 hn).2).2
  refine ⟨fun _ => ⟨g, 0, 1⟩, 3, _, ⟨rfl, c, s, r, its, fpb, rfl, rfl⟩, fun n b hm => ?_, by simp, by simp [footL, Blk.foot], hn, rfl, rfl, by omega⟩
  simp only [List.mem_cons, Prod.mk.injEq, List.not_mem_nil, or_false] at hm
  rcases hm with ⟨rfl, rfl⟩ | ⟨rfl, rfl⟩ | ⟨rfl, rfl⟩
  · exact ⟨⟨by omega, by simp [Blk.bl, CV.blL, CV.bl]⟩, rfl, by simpa [CV.den] using h1.1, rfl⟩
  · exact ⟨⟨by omega, trivial⟩, h1.2, ChAt.stable, by simp, fun k hk => by simp at hk; subst hk; exact h1.ltc⟩
  · exact ⟨⟨by omega, trivial⟩, h2, All.stable BatR.stable, h2.2.1, h2.2.2⟩
theorem ln_len_c (g room : Nat) (q : List Bat) (fp : List Nat) (w : World) (h : On g (LnSh room q) fp w) : Calls Try.prog 58 #[gptr g] w (TurnK g fp (.int .i64 q.length) (LnSh room q) w) := by
  obtain ⟨c, s, r, its, fpb, rfl, rfl, h1, h2⟩ := ln_out h
  refine (llen_c w h1).mono fun e w' ⟨he, hb⟩ => ?_
  obtain ⟨h3, h4⟩ := h.below hb
  exact ⟨by simpa using he, h3, h4⟩
theorem ln_room_c (g room : Nat) (q : List Bat) (fp : List Nat) (w : World) (h : On g (LnSh room q) fp w) : Calls Try.prog 59 #[gptr g] w (TurnK g fp (.int .i64 room) (LnSh room q) w) := by
  obtain ⟨c, s, r, its, fpb, rfl, rfl, h1, h2⟩ := ln_out h
  refine (lroom_c w h1).mono fun e w' ⟨he, hb⟩ => ?_
  obtain ⟨h3, h4⟩ := h.below hb
  exact ⟨he, h3, h4⟩
theorem setChan_other {w w' : World} {c cap : Nat} {buf : Array Value} {s r : Nat} (hb : Below w.heap.size (w.setChan c cap buf false s r false) w') {k : Nat} (hk : k < w.heap.size) (hne : k ≠ c) : w'.heap[k]? = w.heap[k]? := by
  rw [hb.block k hk]
  show (w.heap.setIfInBounds c _)[k]? = _
  rw [Array.getElem?_setIfInBounds_ne (Ne.symm hne)]
theorem setChan_self {w w' : World} {c cap : Nat} {buf : Array Value} {s r : Nat} (hb : Below w.heap.size (w.setChan c cap buf false s r false) w') (hc : c < w.heap.size) : w'.heap[c]? = some (.chan cap buf false s r false) := by
  rw [hb.block c hc]
  show (w.heap.setIfInBounds c _)[c]? = _
  rw [Array.getElem?_setIfInBounds_self_of_lt hc]
theorem setChan_chg {w w' : World} {c cap : Nat} {buf : Array Value} {s r : Nat} (hb : Below w.heap.size (w.setChan c cap buf false s r false) w') {fp : List Nat} (hn : fp.Nodup) (hl : ∀ k, k ∈ fp → k < w.heap.size) (hc : c ∈ fp) : Chg fp fp w w' :=
  ⟨⟨hb.os, hb.tape, hb.output, by have := hb.size; simpa [World.setChan] using this, fun k hk hne => setChan_other hb hk fun e => hne (e ▸ hc)⟩,
    fun k hk => ⟨.inl hk, Nat.lt_of_lt_of_le (hl k hk) (by have := hb.size; simpa [World.setChan] using this)⟩, hn⟩
theorem ln_put_c (g room : Nat) (q : List Bat) (fp : List Nat) (st : Stp) (ws : List Wr) (b c : Nat) (fb : List Nat) (w : World) (h : On g (LnSh room q) fp w) (hb : BatR ⟨st, ws, b, c⟩ fb w) (hn : (fp ++ fb).Nodup) (hl : ∀ k, k ∈ fb → k < w.heap.size) :
    Calls Try.prog 52 #[gptr g, .agg #[vu st.v.a, vu st.v.b, vu st.v.c, vu st.v.d, .int .i64 st.dc, slb ws.length b c]] w fun e w' =>
      ∃ y fp', y = decide (q.length < room) ∧ e = .returned (.bool y) ∧ On g (LnSh room (if y then q ++ [(st, ws)] else q)) fp' w' ∧ Chg (fp ++ fb) fp' w w' := by
  obtain ⟨cc, s, r, its, fpb, rfl, rfl, h1, h2⟩ := ln_out h
  have hl' : ∀ k, k ∈ (g :: cc :: fpb) ++ fb → k < w.heap.size := fun k hk => (List.mem_append.1 hk).elim (h.lt k) (hl k)
  refine (lput_c (vu st.v.a) (vu st.v.b) (vu st.v.c) (vu st.v.d) (.int .i64 st.dc) (slb ws.length b c) w h1).mono fun e w' he => ?_
  simp only [List.length_map] at he ⊢
  by_cases hlt : its.length < room
  · rw [if_pos hlt] at he
    obtain ⟨rfl, hB⟩ := he
    have hs := fun k hk hne => setChan_other (k := k) hB hk hne
    have hn2 : (g :: cc :: (fb ++ fpb)).Nodup := by
      have hp : ((g :: cc :: fpb) ++ fb).Perm (g :: cc :: (fb ++ fpb)) := ((List.perm_append_comm (l₁ := fpb) (l₂ := fb)).cons cc).cons g
      exact hp.nodup_iff.1 hn
    have hcb : cc ∉ fb ++ fpb := (List.nodup_cons.1 (List.nodup_cons.1 hn2).2).1
    have hgc : g ≠ cc := fun e => (List.nodup_cons.1 hn2).1 (by simp [e])
    have h2' : All BatR its fpb w' := All.stable BatR.stable w w' h2 fun k hk => hs k (h2.2.2 k hk) fun e => hcb (by simp [← e, hk])
    have hb' : BatR ⟨st, ws, b, c⟩ fb w' := BatR.stable _ _ w w' hb fun k hk => hs k (hl k hk) fun e => hcb (by simp [← e, hk])
    have hsz : w.heap.size ≤ w'.heap.size := by have := hB.size; simpa [World.setChan] using this
    have h3 : All BatR (its ++ [⟨st, ws, b, c⟩]) (fb ++ fpb) w' := All.join hb' (by rw [List.append_nil]; exact h2') (List.nodup_cons.1 (List.nodup_cons.1 hn2).2).2 fun k hk => Nat.lt_of_lt_of_le (hl k hk) hsz
    have h4 : LnAt g cc room ((its ++ [(⟨st, ws, b, c⟩ : BatA)]).map BatA.val) (s + 1) r w' := ⟨by rw [hs g h1.ltl hgc]; exact h1.1, by rw [setChan_self hB h1.ltc]; simp [BatA.val]⟩
    have hch := setChan_chg hB hn hl' (by simp)
    refine ⟨true, g :: cc :: (fb ++ fpb), by simp [hlt], rfl, by simpa [BatA.bat] using ln_mk h4 h3 hn2, hch.keeps, fun k hk => hch.sub k (by simp at hk ⊢; rcases hk with h | h | h | h <;> simp [h]), hn2⟩
  · rw [if_neg hlt] at he
    obtain ⟨rfl, hB⟩ := he
    obtain ⟨h3, h4⟩ := h.below hB
    exact ⟨false, _, by simp [hlt], rfl, by simpa using h3, (Below.chg hB hn hl').keeps, fun k hk => (Below.chg hB hn hl').sub k (List.mem_append.2 (.inl hk)), h.nodup⟩
def TkQ (g room : Nat) (fp : List Nat) (w : World) : List Bat → Ending → World → Prop
  | [], e, w' => e = .returned (.tuple #[.agg #[.int .u64 0, .int .u64 0, .int .u64 0, .int .u64 0, .int .i64 0, .slice none 0 0], .bool false]) ∧ On g (LnSh room []) fp w' ∧ Chg fp fp w w'
  | (st, ws) :: rest, e, w' => ∃ b c fb fp', e = .returned (.tuple #[.agg #[vu st.v.a, vu st.v.b, vu st.v.c, vu st.v.d, .int .i64 st.dc, slb ws.length b c], .bool true]) ∧ BatR ⟨st, ws, b, c⟩ fb w' ∧ On g (LnSh room rest) fp' w' ∧ Chg fp (fb ++ fp') w w'
theorem ln_take_c (g room : Nat) (q : List Bat) (fp : List Nat) (w : World) (h : On g (LnSh room q) fp w) : Calls Try.prog 38 #[gptr g] w (TkQ g room fp w q) := by
  obtain ⟨cc, s, r, its, fpb, rfl, rfl, h1, h2⟩ := ln_out h
  refine (ltake_c w h1 fun v hv => ?_).mono fun e w' he => ?_
  · obtain ⟨x, _, rfl⟩ := List.mem_map.1 hv
    unfold BatA.val slb
    split <;> exact ⟨_, _, _, _, _, _, _, _, rfl⟩
  · rcases its with _ | ⟨x, rest⟩
    · obtain ⟨rfl, hB⟩ := he
      obtain ⟨h3, h4⟩ := h.below hB
      exact ⟨rfl, h3, h4⟩
    · obtain ⟨rfl, hB⟩ := he
      obtain ⟨f1, f2, hp, h3, h4⟩ := All.split (a := []) h2
      have hs := fun k hk hne => setChan_other (k := k) hB hk hne
      have hn := h.nodup
      have hn2 := (List.nodup_cons.1 (List.nodup_cons.1 hn).2).2
      have hcf : cc ∉ fpb := (List.nodup_cons.1 (List.nodup_cons.1 hn).2).1
      have hgc : g ≠ cc := fun e => (List.nodup_cons.1 hn).1 (by simp [e])
      have hgf : g ∉ fpb := fun e => (List.nodup_cons.1 hn).1 (by simp [e])
      have i1 : ∀ k, k ∈ f1 → k ∈ fpb := fun k hk => hp.mem_iff.1 (by simp [hk])
      have i2 : ∀ k, k ∈ f2 → k ∈ fpb := fun k hk => hp.mem_iff.1 (by simp [hk])
      have h3' : BatR x f1 w' := BatR.stable _ _ w w' h3 fun k hk => hs k (h2.2.2 k (i1 k hk)) fun e => hcf (e ▸ i1 k hk)
      have h4' : All BatR rest f2 w' := All.stable BatR.stable w w' h4 fun k hk => hs k (h2.2.2 k (i2 k hk)) fun e => hcf (e ▸ i2 k hk)
      have h5 : LnAt g cc room (rest.map BatA.val) s (r + 1) w' := ⟨by rw [hs g h1.ltl hgc]; exact h1.1, setChan_self hB h1.ltc⟩
      have hn3 := List.nodup_append.1 (hp.nodup_iff.2 hn2)
      have hn4 : (g :: cc :: f2).Nodup := List.nodup_cons.2 ⟨fun hm => by
        rcases List.mem_cons.1 hm with h | h
        · exact hgc h
        · exact hgf (i2 g h), List.nodup_cons.2 ⟨fun hm => hcf (i2 cc hm), hn3.2.1⟩⟩
      have hn5 : (f1 ++ (g :: cc :: f2)).Nodup := List.nodup_append.2 ⟨hn3.1, hn4, fun a ha b hb e => by
        subst e
        rcases List.mem_cons.1 hb with h | h
        · exact hgf (h ▸ i1 a ha)
        · rcases List.mem_cons.1 h with h | h
          · exact hcf (h ▸ i1 a ha)
          · exact hn3.2.2 a ha a h rfl⟩
      have hch := setChan_chg hB hn h.lt (by simp)
      refine ⟨x.b, x.c, f1, _, rfl, h3', ln_mk h5 h4' hn4, hch.keeps, fun k hk => hch.sub k ?_, hn5⟩
      simp at hk ⊢
      rcases hk with h | h | h | h
      · exact .inr (.inr (i1 k h))
      · exact .inl h
      · exact .inr (.inl h)
      · exact .inr (.inr (i2 k h))
end Go.Proofs.Ytagjblkfgjcmnaa
namespace Go.Proofs.Ytagjblkfgjcmnaa
open Go.RowKit Go.Sx
attribute [local go_sem ↓] reduceIte
attribute [local go_sem] Nat.reduceEqDiff Nat.reduceLT Nat.reduceLeDiff Nat.reduceAdd Nat.reduceMul Nat.reduceSub Nat.reduceDiv Nat.reduceMod Int.reduceToNat Int.reduceLT Int.reduceLE Int.reduceAdd Int.reduceSub Int.reduceMul Int.reduceEq Int.reduceNeg reduceCtorEq or_false false_or decide_true decide_false Int.cast_ofNat_Int Nat.zero_add Nat.add_zero Int.toNat_natCast Option.isNone_none Option.isNone_some Bool.not_true Bool.not_false Bool.xor_true Bool.xor_false Bool.true_xor Bool.false_xor Bool.and_true Bool.true_and Bool.and_false Bool.false_and eq_self ne_eq not_false_eq_true not_true_eq_false true_and and_true and_self

def roomOk (n : Int) : Bool := decide (1 ≤ n ∧ n ≤ 16)
theorem mk_batch (n : Nat) (hn : n ≤ 16) (w : World) : (Instr.makeChan 133 (.int .i64 n)).run Try.prog w = .ok (.chan (some w.heap.size)) (w.alloc (.chan n #[] false 0 0 false)) := by
  obtain ⟨i, z, hi, h1, h2, h3⟩ := info_of (P := Try.prog) tsz95 tby95 tz95
  refine Conc.run_makeChan Try.underlying133 hi .i64 n (by omega) ?_
  have : i.bytes ≤ 64 := by omega
  have h4 : ((i.bytes * n : Nat) : Int) ≤ 1024 := by
    have := Nat.mul_le_mul this hn
    omega
  rw [Int.natCast_mul] at h4
  omega
theorem lnew_c (room : Int) (w : World) : Calls Try.prog 35 #[.int .i64 room] w fun e w' =>
    if roomOk room then ∃ g fp', e = .returned (.tuple #[gptr g, .int .i64 0]) ∧ On g (LnSh room.toNat []) fp' w' ∧ Chg [] fp' w w' else e = .returned (.tuple #[.pointer none, .int .i64 1]) ∧ Below w.heap.size w w' := by
  refine calls_pure 14 _ Try.func35 rfl Try.ntmps35 Try.results35 [.c (.v (.int .i64 room))] (by simp) (fun _ => rfl) ?_
  by_cases h1 : 1 ≤ room
  · by_cases h2 : room ≤ 16
    · have hok : roomOk room = true := by simp [roomOk, h1, h2]
      simp only [hok, if_true]
      obtain ⟨n, rfl⟩ : ∃ n : Nat, room = (n : Int) := ⟨room.toNat, by omega⟩
      simp (disch := omega) only [go_sem, wrapI64, wrapu64, wrapu32, wrapu8, ltT, ltF, leT, leF, eqF, eqT, nltT, nleT, neqFn]
      refine smakeChan n (mk_batch n (by omega)) rfl ⟨Nat.le_of_ble_eq_true rfl, fun c => ?_⟩
      simp (disch := omega) only [go_sem, wrapI64, wrapu64, wrapu32, wrapu8, ltT, ltF, leT, leF, eqF, eqT, nltT, nleT, neqFn]
      refine fun ρ a w' hs _ => ?_
      have hb := (hs.now.hp 1 _ (mem_hget rfl)).1
      have hs2 := hs.addNone (R := BatR)
      have hb2 := (hs2.now.hp 1 _ (mem_hget rfl)).1
      obtain ⟨fp', hon, hch⟩ := on_ends (fp := []) (Sh := LnSh n []) (g := (ρ 1).blk) rfl (by funext k; simp) hs2 (fun k => if k = 0 then 1 else if k = 1 then 0 else 2) (nx' := 3)
        (hp' := [(0, .cells 135 [.v (.chan (some c))]), (1, .pred [c] (ChAt c n [] 0 0)), (2, .pred [] (All BatR [] []))])
        ⟨⟨by omega, by simp [Blk.bl, CV.blL, CV.bl], rfl⟩, ⟨by omega, trivial, rfl⟩, ⟨by omega, trivial, rfl⟩, trivial⟩ (by simp) rfl ⟨rfl, c, 0, 0, [], [], rfl, rfl⟩ (by simp [envSet]) hb2 (by omega)
      exact ⟨(ρ 1).blk, fp', by simp [SV.den, SV.denL, CV.den, gptr, hb], by simpa using hon, hch⟩
    · have hok : roomOk room = false := by simp [roomOk]; omega
      simp only [hok, Bool.false_eq_true, if_false]
      simp (disch := omega) only [go_sem, wrapI64, wrapu64, wrapu32, wrapu8, ltT, ltF, leT, leF, eqF, eqT, nltT, nleT, neqFn]
      exact fun ρ a w hs _ => ⟨rfl, hs.grown⟩
  · have hok : roomOk room = false := by simp [roomOk]; omega
    simp only [hok, Bool.false_eq_true, if_false]
    simp (disch := omega) only [go_sem, wrapI64, wrapu64, wrapu32, wrapu8, ltT, ltF, leT, leF, eqF, eqT, nltT, nleT, neqFn]
    exact fun ρ a w hs _ => ⟨rfl, hs.grown⟩
section
variable {C : Cx} {fr : List (Nat × SV)} {hp : List (Nat × Blk)} {nx : Nat} {d : Option Tmp} {K : St → Prop}
theorem lnew_s {room : Int} (hr : roomOk room = true) (hd : dkB C.N d = true) (hK : ∀ g fp', kput K ⟨fr, (nx, .pred fp' (On g (LnSh room.toNat []) fp')) :: hp, nx + 1⟩ d (.tup [.c (.v (gptr g)), .c (ci 0)])) : SCall Try.prog C 35 [.c (ci room)] d K ⟨fr, hp, nx⟩ :=
  on_new (Sh := LnSh room.toNat []) [.int .i64 room] (fun g => .tuple #[gptr g, .int .i64 0]) (fun g => .tup [.c (.v (gptr g)), .c (ci 0)]) Try.call35 (fun w => (lnew_c room w).mono fun e w' h => by rw [if_pos hr] at h; exact h) rfl (fun _ => rfl) (fun _ _ => rfl) hd hK
theorem lnew_bad {room : Int} (hr : roomOk room = false) (h : dOk C.N d ∧ kput K ⟨fr, hp, nx⟩ d (.tup [.c (.v (.pointer none)), .c (ci 1)])) : SCall Try.prog C 35 [.c (ci room)] d K ⟨fr, hp, nx⟩ :=
  scall_pure [.int .i64 room] (.tup [.c (.v (.pointer none)), .c (ci 1)]) (.tuple #[.pointer none, .int .i64 1]) Try.call35 (fun w => (lnew_c room w).mono fun e w' h => by rw [hr] at h; exact h) rfl (fun _ => rfl) (fun _ => rfl) h
theorem llen_s (n : Nat) {g room : Nat} {q : List Bat} {fp : List Nat} (hg : hget hp n = some (.pred fp (On g (LnSh room q) fp))) (hd : dkB C.N d = true) (hK : kput K ⟨fr, hset hp n (.pred fp (On g (LnSh room q) fp)), nx⟩ d (.c (ci q.length))) : SCall Try.prog C 58 [.c (.v (gptr g))] d K ⟨fr, hp, nx⟩ :=
  on_callk n [gptr g] (.c (ci q.length)) Try.call58 (fun w h => ln_len_c g room q fp w h) hg rfl (fun _ => rfl) (fun _ => rfl) hd hK
theorem lroom_s (n : Nat) {g room : Nat} {q : List Bat} {fp : List Nat} (hg : hget hp n = some (.pred fp (On g (LnSh room q) fp))) (hd : dkB C.N d = true) (hK : kput K ⟨fr, hset hp n (.pred fp (On g (LnSh room q) fp)), nx⟩ d (.c (ci room))) : SCall Try.prog C 59 [.c (.v (gptr g))] d K ⟨fr, hp, nx⟩ :=
  on_callk n [gptr g] (.c (ci room)) Try.call59 (fun w h => ln_room_c g room q fp w h) hg rfl (fun _ => rfl) (fun _ => rfl) hd hK
theorem lput_s0 (n : Nat) {g room : Nat} {q : List Bat} {fp : List Nat} (st : Stp) (hg : hget hp n = some (.pred fp (On g (LnSh room q) fp))) (hd : dkB C.N d = true)
    (hK : ∀ fp', kput K ⟨fr, hset hp n (.pred fp' (On g (LnSh room (if decide (q.length < room) then q ++ [(st, [])] else q)) fp')), nx⟩ d (.c (.v (.bool (decide (q.length < room)))))) :
    SCall Try.prog C 52 [.c (.v (gptr g)), .agg [cu st.v.a, cu st.v.b, cu st.v.c, cu st.v.d, ci st.dc, .v (.slice none 0 0)]] d K ⟨fr, hp, nx⟩ :=
  scall_pred n fp _ (fun (y : Bool) fp' => On g (LnSh room (if decide (q.length < room) then q ++ [(st, [])] else q)) fp') [gptr g, .agg #[vu st.v.a, vu st.v.b, vu st.v.c, vu st.v.d, .int .i64 st.dc, .slice none 0 0]] (fun _ => .c (.v (.bool (decide (q.length < room))))) (fun _ => .bool (decide (q.length < room))) (fun _ => True) Try.call52
    (fun w h => (ln_put_c g room q fp st [] 0 0 [] w h rfl (by rw [List.append_nil]; exact h.nodup) (fun k hk => by cases hk)).mono fun e w' ⟨y, fp', h1, h2, h3, h4⟩ => ⟨y, fp', trivial, by rw [h2, h1], by rw [h1] at h3; exact h3, by rw [List.append_nil] at h4; exact h4⟩)
    (fun _ _ => On.stable) hg rfl (fun _ => rfl) (fun _ _ => rfl) ⟨dk_of hd, fun _ fp' _ => hK fp'⟩
theorem lput_s (n m : Nat) (hne : n ≠ m) {g room c : Nat} {q : List Bat} {fp : List Nat} (st : Stp) (ws : List Wr) {r : Nat → List CV} (hw : 0 < ws.length ∧ ws.length ≤ c) (hr : ∀ i, i < ws.length → r i = (wrw ws i).map .v) (hg : hget hp n = some (.pred fp (On g (LnSh room q) fp))) (hm : hget hp m = some (.rows 42 4 ws.length c r)) (hd : dkB C.N d = true)
    (hK : ∀ fp', kput K ⟨fr, hset (hrem hp m) n (.pred fp' (On g (LnSh room (if decide (q.length < room) then q ++ [(st, ws)] else q)) fp')), nx⟩ d (.c (.v (.bool (decide (q.length < room)))))) :
    SCall Try.prog C 52 [.c (.v (gptr g)), .agg [cu st.v.a, cu st.v.b, cu st.v.c, cu st.v.d, ci st.dc, .s m 0 ws.length c]] d K ⟨fr, hp, nx⟩ := by
  have h0 : ws.length ≠ 0 := by omega
  refine scall_absorb n m hne (wrw ws) (fun b => [.c (.v (gptr g)), .agg [cu st.v.a, cu st.v.b, cu st.v.c, cu st.v.d, ci st.dc, .v (.slice (some ⟨b, 0, none⟩) ws.length c)]]) hg hm hr rfl (fun ρ hb => by simp [SV.denL, SV.den, CV.denL, CV.den, hb]) fun b => ?_
  have hgn : hget (hrem hp m) n = some (.pred fp (On g (LnSh room q) fp)) := by rw [hget_hrem_ne hne]; exact hg
  have hset2 : ∀ b1 b2 : Blk, hset (hset (hrem hp m) n b1) n b2 = hset (hrem hp m) n b2 := fun b1 b2 => by
    generalize hrem hp m = l
    induction l with
    | nil => rfl
    | cons x y ih =>
      obtain ⟨q, v⟩ := x
      simp only [hset_cons]
      by_cases hq : q = n
      · simp [hq, hset_cons]
      · simp [hq, hset_cons, ih]
  refine ⟨rfl, fun ρ w a hs _ => .inl ⟨fun v w => Try.call52 _ w, ?_⟩⟩
  have hg2 := hget_same (.pred (fp ++ [b]) fun w => On g (LnSh room q) fp w ∧ RowsAt w b 42 4 ws.length c (wrw ws)) hgn
  obtain ⟨⟨ho, hrow⟩, _, hnd, hown⟩ := hs.now.hp _ _ (mem_hget hg2)
  have ea : (SV.denL ρ [.c (.v (gptr g)), .agg [cu st.v.a, cu st.v.b, cu st.v.c, cu st.v.d, ci st.dc, .v (.slice (some ⟨b, 0, none⟩) ws.length c)]]).toArray = #[gptr g, .agg #[vu st.v.a, vu st.v.b, vu st.v.c, vu st.v.d, .int .i64 st.dc, slb ws.length b c]] := by simp [SV.denL, SV.den, CV.denL, CV.den, slb, h0]
  rw [ea]
  refine (ln_put_c g room q fp st ws b c [b] w ho (by unfold BatR; rw [if_neg h0]; exact ⟨rfl, hw.2, hrow⟩) hnd (fun k hk => (hown k (List.mem_append.2 (.inr hk))).1)).mono fun e w' ⟨y, fp', h1, h2, h3, h4⟩ => ?_
  have hs' := hs.pred hg2 h4 (h1 ▸ h3) On.stable
  rw [hset2] at hs'
  exact ⟨_, h2, _, ρ, hK fp', hs'.put (dk_of hd) fun _ ρ' _ => by rw [h1]; rfl, by cases d <;> simp [St.put], fun _ _ => rfl⟩
theorem ltake_s0 (n : Nat) {g room : Nat} {fp : List Nat} (hg : hget hp n = some (.pred fp (On g (LnSh room []) fp))) (hd : dkB C.N d = true) (hK : kput K ⟨fr, hset hp n (.pred fp (On g (LnSh room []) fp)), nx⟩ d (.tup [.agg [cu 0, cu 0, cu 0, cu 0, ci 0, .v (.slice none 0 0)], .c (.v (.bool false))])) : SCall Try.prog C 38 [.c (.v (gptr g))] d K ⟨fr, hp, nx⟩ :=
  on_callk n [gptr g] (.tup [.agg [cu 0, cu 0, cu 0, cu 0, ci 0, .v (.slice none 0 0)], .c (.v (.bool false))]) (v := .tuple #[.agg #[vu 0, vu 0, vu 0, vu 0, .int .i64 0, .slice none 0 0], .bool false]) Try.call38 (fun w h => ln_take_c g room [] fp w h) hg rfl (fun _ => rfl) (fun _ => rfl) hd hK
theorem ltake_s1 (n : Nat) {g room : Nat} {st : Stp} {q : List Bat} {fp : List Nat} (hg : hget hp n = some (.pred fp (On g (LnSh room ((st, []) :: q)) fp))) (hd : dkB C.N d = true) (hK : ∀ fp', kput K ⟨fr, hset hp n (.pred fp' (On g (LnSh room q) fp')), nx⟩ d (.tup [.agg [cu st.v.a, cu st.v.b, cu st.v.c, cu st.v.d, ci st.dc, .v (.slice none 0 0)], .c (.v (.bool true))])) : SCall Try.prog C 38 [.c (.v (gptr g))] d K ⟨fr, hp, nx⟩ :=
  on_call n [gptr g] (.tup [.agg [cu st.v.a, cu st.v.b, cu st.v.c, cu st.v.d, ci st.dc, .v (.slice none 0 0)], .c (.v (.bool true))]) (v := .tuple #[.agg #[vu st.v.a, vu st.v.b, vu st.v.c, vu st.v.d, .int .i64 st.dc, .slice none 0 0], .bool true]) Try.call38
    (fun w h => (ln_take_c g room ((st, []) :: q) fp w h).mono fun e w' ⟨b, c, fb, fp', h1, h2, h3, h4⟩ => ⟨fp', h1, h3, by
      have : fb = [] := h2
      subst this; exact h4⟩) hg rfl (fun _ => rfl) (fun _ => rfl) hd hK
theorem ltake_s (n : Nat) {g room : Nat} {st : Stp} {ws : List Wr} {q : List Bat} {fp : List Nat} (h0 : 0 < ws.length) (hg : hget hp n = some (.pred fp (On g (LnSh room ((st, ws) :: q)) fp))) (hd : dkB C.N d = true)
    (hK : ∀ c fp', ws.length ≤ c → kput K ⟨fr, (nx, .rows 42 4 ws.length c fun j => (wrw ws j).map .v) :: hset hp n (.pred fp' (On g (LnSh room q) fp')), nx + 1⟩ d (.tup [.agg [cu st.v.a, cu st.v.b, cu st.v.c, cu st.v.d, ci st.dc, .s nx 0 ws.length c], .c (.v (.bool true))])) : SCall Try.prog C 38 [.c (.v (gptr g))] d K ⟨fr, hp, nx⟩ :=
  scall_gives n (fun fp' => On g (LnSh room q) fp') [gptr g] (fun b c => .tuple #[.agg #[vu st.v.a, vu st.v.b, vu st.v.c, vu st.v.d, .int .i64 st.dc, .slice (some ⟨b, 0, none⟩) ws.length c], .bool true]) (fun c => .tup [.agg [cu st.v.a, cu st.v.b, cu st.v.c, cu st.v.d, ci st.dc, .s nx 0 ws.length c], .c (.v (.bool true))]) Try.call38
    (fun w h => (ln_take_c g room ((st, ws) :: q) fp w h).mono fun e w' ⟨b, c, fb, fp', h1, h2, h3, h4⟩ => by
      have h0' : ws.length ≠ 0 := by omega
      unfold BatR at h2
      rw [if_neg h0'] at h2
      obtain ⟨rfl, h5, h6⟩ := h2
      rw [show slb ws.length b c = _ from if_neg h0'] at h1
      exact ⟨b, c, fp', h1, h5, h6, h3, h4⟩) (fun _ => On.stable) hg rfl (fun _ => rfl) (fun b c ρ hρ => by simp [SV.den, SV.denL, CV.den, CV.denL, hρ]) hd hK
end
end Go.Proofs.Ytagjblkfgjcmnaa
namespace Go.Proofs.Ytagjblkfgjcmnaa
open Go.RowKit Go.Sx
abbrev Ky := ByteArray × ByteArray
def kenc (k : Ky) : Value := .agg #[.string k.1, .string k.2]
theorem kenc_eq {t : TypeId} (ht : leafIn Try.prog 8 t = some [.s, .s]) (a b : Ky) (w : World) : (Op.equal t (kenc a) (kenc b)).run Try.prog w = .ok (decide (a = b)) w := by
  obtain ⟨ag, h1, h2, h3⟩ := eq_flat (P := Try.prog) (ρ := fun _ => ⟨0, 0, 0⟩) (w := w) 8 9992 t [.s, .s] [.v (.string a.1), .v (.string a.2)] [.v (.string b.1), .v (.string b.2)] (decide (a = b)) ht (by
    obtain ⟨a1, a2⟩ := a
    obtain ⟨b1, b2⟩ := b
    simp only [eqL, eq1, Option.bind_some, Option.map_some, Bool.and_true, Option.some.injEq, Prod.mk.injEq]
    by_cases e1 : a1 = b1 <;> by_cases e2 : a2 = b2 <;> simp [e1, e2])
  cases ag with
  | false => simp at h2
  | true =>
    show (Op.equalIn 10000 t (kenc a) (kenc b)).run Try.prog w = _
    simpa [mkV, SV.den, CV.denL, CV.den, kenc] using h3
theorem kenc_key : KeyEnc Try.prog 115 Ky kenc where
  eq := kenc_eq (by kernel_rfl)
  chk := fun e a w => by
    obtain ⟨n, hn⟩ : ∃ n, 10000 = n + 1 + 1 := ⟨9998, rfl⟩
    rw [hn]
    simp [go_sem, Instr.checkKey, kenc, run_underlying Try.underlying115, run_underlying Try.underlying9]
  bits := fun a => by
    have h : ∀ b : ByteArray, (b == b) = true := fun ⟨b⟩ => by
      show (b == b) = true
      exact beq_self_eq_true b
    simp [kenc, Instr.sameBits, h]
  und := ⟨_, Try.underlying115, fun a b => rfl⟩
end Go.Proofs.Ytagjblkfgjcmnaa
namespace Go.Proofs.Ytagjblkfgjcmnaa
open Go.RowKit Go.Sx
attribute [local go_sem ↓] reduceIte
attribute [local go_sem] Nat.reduceEqDiff Nat.reduceLT Nat.reduceLeDiff Nat.reduceAdd Nat.reduceMul Nat.reduceSub Nat.reduceDiv Nat.reduceMod Int.reduceToNat Int.reduceLT Int.reduceLE Int.reduceAdd Int.reduceSub Int.reduceMul Int.reduceEq Int.reduceNeg reduceCtorEq or_false false_or decide_true decide_false Int.cast_ofNat_Int Nat.zero_add Nat.add_zero Int.toNat_natCast Option.isNone_none Option.isNone_some Bool.not_true Bool.not_false Bool.xor_true Bool.xor_false Bool.true_xor Bool.false_xor Bool.and_true Bool.true_and Bool.and_false Bool.false_and eq_self ne_eq not_false_eq_true not_true_eq_false true_and and_true and_self

def few (v : V4) (own : Bool) : V4 := if own then ⟨v.a.tmod 4, v.b.tmod 4, v.c.tmod 4, v.d.tmod 4⟩ else v
def mdc (dc : Int) : Int := IntKind.i64.wrap (1 + IntKind.i64.wrap ((IntKind.u64.wrap dc).tmod 3))
theorem mdc3 (dc : Int) : mdc dc = 1 ∨ mdc dc = 2 ∨ mdc dc = 3 := by
  unfold mdc
  obtain ⟨x, hx⟩ : ∃ x : Nat, IntKind.u64.wrap dc = x := ⟨(dc % 18446744073709551616).toNat, by simp [IntKind.wrap, IntKind.bits, IntKind.signed]; omega⟩
  rw [hx, show (x : Int).tmod 3 = ((x % 3 : Nat) : Int) from rfl]
  have : x % 3 < 3 := Nat.mod_lt _ (by omega)
  rw [wrap_i64 ((x % 3 : Nat) : Int) (by omega) (by omega), wrap_i64 _ (by omega) (by omega)]
  omega
def bmp (x : Int) : Int := IntKind.u64.wrap (1 + x)
def mown (m : Stp) : Stp :=
  if mdc m.dc = 1 then ⟨⟨bmp (m.v.a.tmod 4), m.v.b.tmod 4, m.v.c.tmod 4, 0⟩, 1⟩
  else if mdc m.dc = 2 then ⟨⟨m.v.a.tmod 4, bmp (m.v.b.tmod 4), m.v.c.tmod 4, 0⟩, 2⟩
  else ⟨⟨m.v.a.tmod 4, m.v.b.tmod 4, bmp (m.v.c.tmod 4), 0⟩, 3⟩
def mk (m : Stp) (own : Bool) : Stp := if own then mown m else m
set_option maxRecDepth 100000 in
theorem mark_c (m : Stp) (own : Bool) (w : World) : Calls Try.prog 36 #[.agg #[vu m.v.a, vu m.v.b, vu m.v.c, vu m.v.d, .int .i64 m.dc, .bool own]] w fun e w' => e = .returned (mk m own).val ∧ Below w.heap.size w w' := by
  obtain ⟨⟨a0, a1, a2, a3⟩, dc⟩ := m
  refine calls_pure 44 _ Try.func36 rfl Try.ntmps36 Try.results36 [.agg [cu a0, cu a1, cu a2, cu a3, ci dc, .v (.bool own)]] (by simp) (fun _ => rfl) ?_
  cases own
  · simp only [go_sem]
    exact fun ρ a w hs _ => ⟨rfl, hs.grown⟩
  · simp only [go_sem]
    refine sloop_rounds 4 ?_
    rcases mdc3 dc with hd | hd | hd
    all_goals
      have hd' := hd
      unfold mdc at hd
      simp only [go_sem, hd]
      refine sdraw0 [.t 0, .t 1, .t 2, .t 3, .t 4, .t 5, .t 6, .t 7, .t 8, .t 9, .t 10, .t 11, .r 12] 12 rfl (by kernel_rfl) ?_
      simp only [go_sem, hd]
      exact fun ρ a w hs _ => ⟨by simp [mk, mown, hd', Stp.val, Stp.l, SV.den, CV.denL, CV.den, bmp], hs.grown⟩
set_option maxRecDepth 100000 in
theorem vector_c (x : V4) (own : Bool) (w : World) : Calls Try.prog 12 #[.agg #[vu x.a, vu x.b, vu x.c, vu x.d, .bool own]] w fun e w' => e = .returned (few x own).v ∧ Below w.heap.size w w' := by
  obtain ⟨a0, a1, a2, a3⟩ := x
  refine calls_pure 20 _ Try.func12 rfl Try.ntmps12 Try.results12 [.agg [cu a0, cu a1, cu a2, cu a3, .v (.bool own)]] (by simp) (fun _ => rfl) ?_
  cases own
  · simp only [go_sem]
    exact fun ρ a w hs _ => ⟨rfl, hs.grown⟩
  · simp only [go_sem]
    refine sloop_rounds 5 ?_
    simp only [go_sem]
    exact fun ρ a w hs _ => ⟨rfl, hs.grown⟩
set_option maxRecDepth 100000 in
theorem mown_right {m : Stp} (h : 0 ≤ m.v.a ∧ 0 ≤ m.v.b ∧ 0 ≤ m.v.c) : (mown m).right = true := by
  obtain ⟨⟨a0, a1, a2, a3⟩, dc⟩ := m
  obtain ⟨h0, h1, h2⟩ := h
  have t4 : ∀ x : Int, 0 ≤ x → 0 ≤ x.tmod 4 ∧ x.tmod 4 < 4 := fun x hx => ⟨Int.tmod_nonneg _ hx, Int.tmod_lt_of_pos _ (by omega)⟩
  have k0 := t4 a0 h0
  have k1 := t4 a1 h1
  have k2 := t4 a2 h2
  have b : ∀ x : Int, 0 ≤ x ∧ x < 4 → bmp x = 1 + x := fun x hx => wrap_u64 _ (by omega) (by omega)
  unfold mown
  split
  · simp [Stp.right, V4.right, V4.leq, Stp.n, V4.at, b _ k0]; omega
  · split
    · simp [Stp.right, V4.right, V4.leq, Stp.n, V4.at, b _ k1]; omega
    · simp [Stp.right, V4.right, V4.leq, Stp.n, V4.at, b _ k2]; omega
theorem u64_nn {a : Int} (hw : (Lit.int .u64 a).wf = true) : 0 ≤ a := by
  simp [Lit.wf, IntKind.min, IntKind.max, IntKind.signed, IntKind.bits] at hw
  exact hw.1
theorem FOk_i {k : IntKind} {ks : List FK} : ∀ {l : List Value}, FOk (.i k :: ks) l → ∃ n r, l = .int k n :: r ∧ (Lit.int k n).wf = true ∧ FOk ks r
  | _ :: r, ⟨⟨n, h1, h2⟩, h3⟩ => ⟨n, r, by rw [h1], h2, h3⟩
theorem FOk_b {ks : List FK} : ∀ {l : List Value}, FOk (.b :: ks) l → ∃ b r, l = .bool b :: r ∧ FOk ks r
  | _ :: r, ⟨⟨n, h1⟩, h3⟩ => ⟨n, r, by rw [h1], h3⟩
theorem FOk_s {ks : List FK} : ∀ {l : List Value}, FOk (.s :: ks) l → ∃ b r, l = .string b :: r ∧ b.size ≤ maxLen ∧ FOk ks r
  | _ :: r, ⟨⟨n, h1, h2⟩, h3⟩ => ⟨n, r, by rw [h1], h2, h3⟩
theorem FOk_0 : ∀ {l : List Value}, FOk [] l → l = []
  | [], _ => rfl
theorem row_mark {l : List Value} (h : FOk [.i .u64, .i .u64, .i .u64, .i .u64, .i .i64, .b] l) : ∃ (m : Stp) (own : Bool), (0 ≤ m.v.a ∧ 0 ≤ m.v.b ∧ 0 ≤ m.v.c) ∧ l.map CV.v = [cu m.v.a, cu m.v.b, cu m.v.c, cu m.v.d, ci m.dc, .v (.bool own)] := by
  obtain ⟨x0, l0, rfl, w0, h0⟩ := FOk_i h
  obtain ⟨x1, l1, rfl, w1, h1⟩ := FOk_i h0
  obtain ⟨x2, l2, rfl, w2, h2⟩ := FOk_i h1
  obtain ⟨x3, l3, rfl, w3, h3⟩ := FOk_i h2
  obtain ⟨x4, l4, rfl, w4, h4⟩ := FOk_i h3
  obtain ⟨b, l5, rfl, h5⟩ := FOk_b h4
  obtain rfl := FOk_0 h5
  exact ⟨⟨⟨x0, x1, x2, x3⟩, x4⟩, b, ⟨u64_nn w0, u64_nn w1, u64_nn w2⟩, rfl⟩
end Go.Proofs.Ytagjblkfgjcmnaa
namespace Go.Proofs.Ytagjblkfgjcmnaa
open Go.RowKit Go.Sx

theorem stp_dec (x y : Stp) : (decide (x.v.a = y.v.a) && (decide (x.v.b = y.v.b) && (decide (x.v.c = y.v.c) && (decide (x.v.d = y.v.d) && decide (x.dc = y.dc))))) = decide (x = y) := by
  rw [Bool.eq_iff_iff]
  simp only [Bool.and_eq_true, decide_eq_true_eq]
  cases x with
  | mk v dc => cases y with
    | mk v' dc' => cases v; cases v'; simp only [Stp.mk.injEq, V4.mk.injEq]; constructor
                   · rintro ⟨h1, h2, h3, h4, h5⟩; exact ⟨⟨h1, h2, h3, h4⟩, h5⟩
                   · rintro ⟨⟨h1, h2, h3, h4⟩, h5⟩; exact ⟨h1, h2, h3, h4, h5⟩
def lexI : List Int → List Int → Int
  | x :: xs, y :: ys => or2 (cmpI x y) (lexI xs ys)
  | _, _ => 0
theorem cmpI_self (x : Int) : cmpI x x = 0 := by simp [cmpI]
theorem cmpI_neg (x y : Int) : cmpI y x = -cmpI x y := by unfold cmpI; split <;> split <;> omega
theorem cmpI_lt {x y : Int} : cmpI x y < 0 ↔ x < y := by unfold cmpI; split <;> (try split) <;> omega
theorem cmpI_eq {x y : Int} : cmpI x y = 0 ↔ x = y := by unfold cmpI; split <;> (try split) <;> omega
theorem cmpI_gt {x y : Int} : 0 < cmpI x y ↔ y < x := by unfold cmpI; split <;> (try split) <;> omega
theorem lexI_self : ∀ l : List Int, lexI l l = 0
  | [] => rfl
  | x :: r => by rw [lexI, cmpI_self, or2, if_pos rfl]; exact lexI_self r
theorem lexI_neg : ∀ l m : List Int, lexI m l = -lexI l m
  | [], [] => rfl
  | [], _ :: _ => rfl
  | _ :: _, [] => rfl
  | x :: r, y :: s => by
    rw [lexI, lexI, cmpI_neg x y, lexI_neg r s]
    unfold or2
    split <;> split <;> omega
theorem lexI_eq : ∀ l m : List Int, l.length = m.length → lexI l m = 0 → l = m
  | [], [], _, _ => rfl
  | [], _ :: _, h, _ => by simp at h
  | _ :: _, [], h, _ => by simp at h
  | x :: r, y :: s, h, h0 => by
    rw [lexI, or2] at h0
    split at h0
    · rename_i e
      rw [cmpI_eq.1 e, lexI_eq r s (by simpa using h) h0]
    · rename_i e; exact absurd h0 e
theorem lexI_trans : ∀ l m k : List Int, l.length = m.length → m.length = k.length → lexI l m < 0 → lexI m k < 0 → lexI l k < 0
  | [], [], [], _, _, h, _ => by simp [lexI] at h
  | [], _ :: _, _, h, _, _, _ => by simp at h
  | _ :: _, [], _, h, _, _, _ => by simp at h
  | _, [], _ :: _, _, h, _, _ => by simp at h
  | _, _ :: _, [], _, h, _, _ => by simp at h
  | x :: r, y :: s, z :: t, h1, h2, h3, h4 => by
    rw [lexI, or2] at h3 h4 ⊢
    split at h3
    · rename_i e1
      rw [cmpI_eq.1 e1]
      split at h4
      · rename_i e2; rw [if_pos e2]; exact lexI_trans r s t (by simpa using h1) (by simpa using h2) h3 h4
      · rename_i e2; rw [if_neg e2]; exact h4
    · rename_i e1
      split at h4
      · rename_i e2; rw [← cmpI_eq.1 e2, if_neg e1]; exact h3
      · rename_i e2
        have k1 := cmpI_lt.1 h3
        have k2 := cmpI_lt.1 h4
        have k3 : cmpI x z < 0 := cmpI_lt.2 (by omega)
        rw [if_neg (by omega)]; exact k3
def Stp.key (s : Stp) : List Int := [s.v.sum, s.dc, s.v.a, s.v.b, s.v.c, s.v.d]
theorem or2_z (x : Int) : or2 x 0 = x := by unfold or2; split <;> omega
theorem ord_key (s t : Stp) : s.ord t = lexI s.key t.key := by
  by_cases h : s = t
  · rw [h, lexI_self]; unfold Stp.ord; rw [if_pos rfl]
  · unfold Stp.ord; rw [if_neg h]
    simp only [Stp.key, lexI, vcmp, or2_z]
theorem ord_self (s : Stp) : s.ord s = 0 := by rw [ord_key, lexI_self]
theorem ord_neg (s t : Stp) : t.ord s = -s.ord t := by rw [ord_key, ord_key, lexI_neg]
theorem ord_eq {s t : Stp} (h : s.ord t = 0) : s = t := by
  rw [ord_key] at h
  have := lexI_eq s.key t.key rfl h
  simp only [Stp.key, List.cons.injEq, and_true] at this
  obtain ⟨_, h1, h2, h3, h4, h5⟩ := this
  cases s with
  | mk v dc => cases t with
    | mk v' dc' => cases v; cases v'; simp_all
theorem ord_trans {s t u : Stp} (h1 : s.ord t < 0) (h2 : t.ord u < 0) : s.ord u < 0 := by
  rw [ord_key] at *
  exact lexI_trans s.key t.key u.key rfl rfl h1 h2
theorem ord_trans_le {s t u : Stp} (h1 : s.ord t < 0) (h2 : t.ord u ≤ 0) : s.ord u < 0 := by
  by_cases h : t.ord u = 0
  · rw [← ord_eq h]; exact h1
  · exact ord_trans h1 (by omega)
theorem ord_le_trans {s t u : Stp} (h1 : s.ord t ≤ 0) (h2 : t.ord u ≤ 0) : s.ord u ≤ 0 := by
  by_cases h : s.ord t = 0
  · rw [ord_eq h]; exact h2
  · have := ord_trans_le (s := s) (t := t) (u := u) (by omega) h2; omega
theorem ord_three (s t : Stp) : s.ord t = -1 ∨ s.ord t = 0 ∨ s.ord t = 1 := by
  have h3 : ∀ x y : Int, cmpI x y = -1 ∨ cmpI x y = 0 ∨ cmpI x y = 1 := fun x y => by unfold cmpI; split <;> (try split) <;> omega
  have key : ∀ l m : List Int, lexI l m = -1 ∨ lexI l m = 0 ∨ lexI l m = 1 := by
    intro l
    induction l with
    | nil => intro m; exact .inr (.inl rfl)
    | cons x r ih =>
      intro m
      cases m with
      | nil => exact .inr (.inl rfl)
      | cons y s =>
        rw [lexI, or2]
        split
        · exact ih s
        · exact h3 x y
  rw [ord_key]; exact key _ _
end Go.Proofs.Ytagjblkfgjcmnaa
namespace Go.Proofs.Ytagjblkfgjcmnaa.CW
open Go.RowKit Go.Sx
structure Ver where
  st : Stp
  x : Wr
def Ver.l (v : Ver) : List Value := [vu v.st.v.a, vu v.st.v.b, vu v.st.v.c, vu v.st.v.d, .int .i64 v.st.dc, .string v.x.b, .string v.x.k, .string v.x.x, .bool v.x.g]
def Ver.val (v : Ver) : Value := .agg v.l.toArray
def Ver.c (v : Ver) : List CV := [cu v.st.v.a, cu v.st.v.b, cu v.st.v.c, cu v.st.v.d, ci v.st.dc, .v (.string v.x.b), .v (.string v.x.k), .v (.string v.x.x), .v (.bool v.x.g)]
theorem Ver.map_l (v : Ver) : v.l.map CV.v = v.c := rfl
end Go.Proofs.Ytagjblkfgjcmnaa.CW
namespace Go.Proofs.Ytagjblkfgjcmnaa.CW
open Go.RowKit Go.Shelf
attribute [local go_sem] Oper.semAt_some
def Rws (n₀ : Nat) (W : World) (b n : Nat) (f : Nat → Ver) : Prop := b < n₀ ∧ ∀ j, j < n → ∀ q, q < 9 → W.cell? ⟨b, j * 9 + q, none⟩ = (f j).l[q]?
theorem Rws.below {n₀ : Nat} {A B : World} (h : Below n₀ A B) {b n : Nat} {f : Nat → Ver} (hr : Rws n₀ A b n f) : Rws n₀ B b n f := ⟨hr.1, fun j hj q hq => (h.cell (p := ⟨b, j * 9 + q, none⟩) hr.1).trans (hr.2 j hj q hq)⟩
theorem Rws.cells {n₀ : Nat} {W : World} {b n : Nat} {f : Nat → Ver} (h : Rws n₀ W b n f) {j : Nat} (hj : j < n) :
    W.cell? ⟨b, j * 9, none⟩ = some (vu (f j).st.v.a) ∧ W.cell? ⟨b, j * 9 + 1, none⟩ = some (vu (f j).st.v.b) ∧ W.cell? ⟨b, j * 9 + 2, none⟩ = some (vu (f j).st.v.c) ∧ W.cell? ⟨b, j * 9 + 3, none⟩ = some (vu (f j).st.v.d) ∧ W.cell? ⟨b, j * 9 + 4, none⟩ = some (.int .i64 (f j).st.dc) ∧ W.cell? ⟨b, j * 9 + 5, none⟩ = some (.string (f j).x.b) ∧ W.cell? ⟨b, j * 9 + 6, none⟩ = some (.string (f j).x.k) ∧ W.cell? ⟨b, j * 9 + 7, none⟩ = some (.string (f j).x.x) ∧ W.cell? ⟨b, j * 9 + 8, none⟩ = some (.bool (f j).x.g) :=
  ⟨h.2 j hj 0 (by omega), h.2 j hj 1 (by omega), h.2 j hj 2 (by omega), h.2 j hj 3 (by omega), h.2 j hj 4 (by omega), h.2 j hj 5 (by omega), h.2 j hj 6 (by omega), h.2 j hj 7 (by omega), h.2 j hj 8 (by omega)⟩
def dn (n : Nat) (f : Nat → Ver) (k : Nat) : List (Nat × Ver) := (List.range k).map fun i => (n - 1 - i, f (n - 1 - i))
theorem dn_succ (n : Nat) (f : Nat → Ver) (k : Nat) : dn n f (k + 1) = dn n f k ++ [(n - 1 - k, f (n - 1 - k))] := by simp [dn, List.range_succ]
theorem dn_length (n : Nat) (f : Nat → Ver) (k : Nat) : (dn n f k).length = k := by simp [dn]

set_option maxRecDepth 100000 in
set_option maxHeartbeats 2000000 in
theorem back1_in (F : Fence) (m : Nat) (h7 : F.fn 95) (hro : F.round = none) (hm : 1 ≤ m) (l Bs n₀ b n cap : Nat) (f : Nat → Ver) (hn : n ≤ 9223372036854775807) (J Jx : List (Nat × Ver) → World → Prop)
    (hY : ∀ pre x W, J pre W → pre.length < n → YieldAt F (m - 1) Try.prog l #[.int .i64 (x.1 : Int), x.2.val] W fun e W' =>
      (e = .returned (.bool true) ∧ J (pre ++ [x]) W' ∧ Below n₀ W W') ∨ (e = .returned (.bool false) ∧ Jx (pre ++ [x]) W'))
    (W : World) (hBs : W.cell? ⟨Bs, 0, none⟩ = some (.slice (some ⟨b, 0, none⟩) n cap)) (hBn : Bs < n₀) (hc : Rws n₀ W b n f) (h0 : J [] W) :
    CallsIn F m Try.prog 95 #[.func (.yield l) #[] #[], .pointer (some ⟨Bs, 0, none⟩)] W fun e W' => (∃ v, e = .returned v) ∧
      (J (dn n f n) W' ∨ (∃ k, k < n ∧ Jx (dn n f (k + 1)) W')) := by
  refine callsIn_of_wp Try.func95 rfl h7 ?_ hro
  simp only [Try.ntmps95, List.size_toArray, List.length_cons, List.length_nil, Nat.reduceAdd, Nat.reduceSub, Array.replicate_succ, Array.replicate_zero, List.push_toArray, List.append_toArray, List.nil_append, List.cons_append]
  gi_wp2
  gi_loopw [3] (fun i wr => ∃ k : Nat, k ≤ n ∧ i = .int .i64 ((n : Int) - 1 - k) ∧ J (dn n f k) wr ∧ Below n₀ W wr)
    (fun i _ => (intOf i + 1).toNat)
  case atStart => exact ⟨0, Nat.zero_le _, by simp, h0, Below.refl _ _⟩
  case round =>
    obtain ⟨k, hk, rfl, hJs, hnx⟩ := hrel
    have hBs' := (hnx.cell (p := ⟨Bs, 0, none⟩) hBn).trans hBs
    by_cases hlt : k < n
    · obtain ⟨fn, tmps, assign, body, hy, hR⟩ := hY _ (n - 1 - k, f (n - 1 - k)) wr hJs (by rw [dn_length]; exact hlt)
      dsimp only [Ver.val, Ver.l] at hy
      obtain ⟨c0, c1, c2, c3, c4, c5, c6, c7, c8⟩ := (hc.below hnx).cells (j := n - 1 - k) (by omega)
      have e1 : ((n : Int) - 1 - k) = ((n - 1 - k : Nat) : Int) := by omega
      rw [e1]
      have hge : (0 : Int) ≤ ((n - 1 - k : Nat) : Int) := by omega
      have hltn : ((n - 1 - k : Nat) : Int) < n := by omega
      gi_wp2
      refine hR.mono ?_
      rintro e W3 (⟨rfl, hJ3, hk3⟩ | ⟨rfl, hJx3⟩)
      · gi_wp2
        go_roundw
        case rel =>
          have hwr : wrap64 (((n - 1 - k : Nat) : Int) - 1) = (n : Int) - 1 - ((k + 1 : Nat) : Int) := by
            have : ((n - 1 - k : Nat) : Int) - 1 = (n : Int) - 1 - ((k + 1 : Nat) : Int) := by omega
            simp only [wrap64]
            omega
          exact ⟨k + 1, by omega, by simp; omega, by rw [dn_succ]; exact hJ3, hnx.trans hk3⟩
        case measure => simp [intOf]
      · gi_wp2
        refine bodyPost_ret (results_none rfl _ _ _) rfl ?_
        exact ⟨⟨_, rfl⟩, .inr ⟨k, hlt, by rw [dn_succ]; exact hJx3⟩⟩
    · have hkn : k = n := by omega
      rw [hkn] at hJs ⊢
      have e1 : ((n : Int) - 1 - n) = -1 := by omega
      rw [e1]
      gi_wp2
      go_end0
      exact ⟨⟨_, rfl⟩, .inl hJs⟩
set_option maxRecDepth 100000 in
set_option maxHeartbeats 1000000 in
theorem back1_nil (F : Fence) (m : Nat) (h7 : F.fn 95) (hro : F.round = none) (l Bs : Nat) (J : List (Nat × Ver) → World → Prop) (W : World) (hBs : W.cell? ⟨Bs, 0, none⟩ = some (.slice none 0 0)) (h0 : J [] W) :
    CallsIn F m Try.prog 95 #[.func (.yield l) #[] #[], .pointer (some ⟨Bs, 0, none⟩)] W fun e W' => (∃ v, e = .returned v) ∧ J [] W' := by
  refine callsIn_of_wp Try.func95 rfl h7 ?_ hro
  simp only [Try.ntmps95, List.size_toArray, List.length_cons, List.length_nil, Nat.reduceAdd, Nat.reduceSub, Array.replicate_succ, Array.replicate_zero, List.push_toArray, List.append_toArray, List.nil_append, List.cons_append]
  gi_wp2
  gi_loopw [3] (fun i wr => i = .int .i64 (-1) ∧ J [] wr) (fun _ _ => 0)
  case atStart => exact ⟨rfl, h0⟩
  case round =>
    obtain ⟨rfl, hJs⟩ := hrel
    gi_wp2
    go_end0
    exact ⟨⟨_, rfl⟩, hJs⟩
def Hlds (n₀ : Nat) (W : World) (sv : Value) (n : Nat) (f : Nat → Ver) : Prop := (sv = .slice none 0 0 ∧ n = 0) ∨ ∃ b cap, sv = .slice (some ⟨b, 0, none⟩) n cap ∧ Rws n₀ W b n f
theorem Hlds.below {n₀ : Nat} {A B : World} (h : Below n₀ A B) {sv : Value} {n : Nat} {f : Nat → Ver} : Hlds n₀ A sv n f → Hlds n₀ B sv n f
  | .inl e => .inl e
  | .inr ⟨b, cap, e, hr⟩ => .inr ⟨b, cap, e, hr.below h⟩
theorem back_stops (F : Fence) (m : Nat) (h7 : F.fn 95) (hro : F.round = none) (hm : 1 ≤ m) (Bs n₀ : Nat) (sv : Value) (n : Nat) (f : Nat → Ver) (hn : n ≤ 9223372036854775807) (w : World) (hBs : Bs < w.heap.size) (hBn : Bs < n₀) (hn₀ : n₀ ≤ w.heap.size)
    (hc : w.cell? ⟨Bs, 0, none⟩ = some sv) (hI : Hlds n₀ w sv n f) :
    SeqStopsK F m Try.prog 95 #[.pointer (some ⟨Bs, 0, none⟩)] (fun x : Nat × Ver => #[Value.int .i64 (x.1 : Int), x.2.val]) (Below n₀) (fun ys => ys = dn n f n) (fun pre => ∃ k, k < n ∧ pre = dn n f (k + 1)) n w := fun l J Jx W hW _ _ hY h0 => by
  have hc' := (hW.cell (p := ⟨Bs, 0, none⟩) hBs).trans hc
  rcases hI.below (hW.mono hn₀) with ⟨rfl, rfl⟩ | ⟨b, cap, rfl, hr⟩
  · exact (back1_nil F m h7 hro l Bs J W hc' h0).mono fun e W' ⟨he, hj⟩ => ⟨he, .inl ⟨_, rfl, hj⟩⟩
  · refine (back1_in F m h7 hro hm l Bs n₀ b n cap f hn J Jx hY W hc' hBn hr h0).mono ?_
    rintro e W' ⟨he, hj | ⟨k, hk, hj⟩⟩
    · exact ⟨he, .inl ⟨_, rfl, hj⟩⟩
    · exact ⟨he, .inr ⟨_, ⟨k, hk, rfl⟩, hj⟩⟩
set_option maxHeartbeats 1000000 in
theorem back_in (F : Fence) (m : Nat) (h5 : F.fn 91) (hro : F.round = none) (a : Option Addr) (len cap : Nat) (w : World) :
    CallsIn F m Try.prog 91 #[.slice a len cap] w fun e w' => e = .returned (.func (.func 95) #[] #[.pointer (some ⟨w.heap.size, 0, none⟩)]) ∧ w' = w.alloc (.cells #[.slice a len cap] 139) := by
  refine callsIn_of_wp Try.func91 rfl h5 ?_ hro
  simp only [Try.ntmps91, List.size_toArray, List.length_cons, List.length_nil, Nat.reduceAdd, Nat.reduceSub, Array.replicate_succ, Array.replicate_zero, List.push_toArray, List.append_toArray, List.nil_append, List.cons_append]
  gi_wp2
  go_ret
  exact ⟨rfl, rfl⟩
theorem Hlds.wide {n₀ n₁ : Nat} {W : World} {sv : Value} {n : Nat} {f : Nat → Ver} (hn : n₀ ≤ n₁) : Hlds n₀ W sv n f → Hlds n₁ W sv n f
  | .inl e => .inl e
  | .inr ⟨b, cap, e, hr⟩ => .inr ⟨b, cap, e, Nat.lt_of_lt_of_le hr.1 hn, hr.2⟩
def Bx (W : World) (B : Nat) (t : TypeId) (l : List Value) : Prop := W.heap[B]? = some (.cells l.toArray t (0, 0))
theorem Bx.lt {W : World} {B : Nat} {t : TypeId} {l : List Value} (h : Bx W B t l) : B < W.heap.size := (Array.getElem?_eq_some_iff.1 h).1
theorem Bx.cell {W : World} {B : Nat} {t : TypeId} {l : List Value} (h : Bx W B t l) {q : Nat} {v : Value} (hq : l[q]? = some v) : W.cell? ⟨B, q, none⟩ = some v := by simp [World.cell?, show W.heap[B]? = _ from h, hq]
theorem Bx.frozen {W : World} {B : Nat} {t : TypeId} {l : List Value} (h : Bx W B t l) (q : Nat) : W.frozen? ⟨B, q, none⟩ = false := by simp [World.frozen?, show W.heap[B]? = _ from h]
theorem Bx.new (W : World) (t : TypeId) (l : List Value) : Bx (W.alloc (.cells l.toArray t)) W.heap.size t l := World.alloc_heap_new W _
theorem Bx.below {n : Nat} {W W' : World} (h : Below n W W') {B : Nat} {t : TypeId} {l : List Value} (hb : Bx W B t l) (hn : B < n) : Bx W' B t l := (h.block B hn).trans hb
theorem Bx.kept {W W' : World} {row : Option Nat} {B : Nat} {t : TypeId} {l : List Value} (h : Bx W B t l) (hg : W.grownBy W' row) (hne : some B ≠ row) : Bx W' B t l := (hg.block B h.lt hne).trans h
theorem Bx.alloc {W : World} {B : Nat} {t : TypeId} {l : List Value} (h : Bx W B t l) (o : Obj) : Bx (W.alloc o) B t l := h.kept (World.grownBy_alloc W o none) (by simp)
theorem grown_set (W : World) (b i : Nat) (v : Value) : W.grownBy (W.setCell ⟨b, i, none⟩ v) (some b) :=
  ⟨rfl, rfl, rfl, by simp, fun k hk hne => by
    show (W.heap.modify b _)[k]? = _
    rw [Array.getElem?_modify, if_neg (fun e => hne (by rw [e]))]⟩
theorem Bx.set {W : World} {B : Nat} {t : TypeId} {l : List Value} (q : Nat) (v : Value) (h : Bx W B t l) : Bx (W.setCell ⟨B, q, none⟩ v) B t (l.set q v) := by
  show (W.heap.modify B _)[B]? = _
  rw [Array.getElem?_modify, if_pos rfl, show W.heap[B]? = _ from h]
  simp
theorem Bx.other {W : World} {B B' : Nat} {t : TypeId} {l : List Value} (h : Bx W B t l) (hne : B ≠ B') (q : Nat) (v : Value) : Bx (W.setCell ⟨B', q, none⟩ v) B t l := h.kept (grown_set W B' q v) (fun e => hne (by cases e; rfl))
theorem Bx.kept' {W W' : World} {row : Option Nat} {B : Nat} {t : TypeId} {l : List Value} (h : Bx W B t l) (hg : W.grownBy W' row) (hr : ∀ r, row = some r → ∃ o : Obj, W.heap[r]? = some o ∧ o.isCells = false) : Bx W' B t l :=
  h.kept hg (fun e' => by obtain ⟨o, ho, hc⟩ := hr B e'.symm; rw [show W.heap[B]? = _ from h] at ho; cases ho; cases hc)
def lastF (f : Nat → Ver) (p : Ver → Bool) : Nat → Option Ver
  | 0 => none
  | n + 1 => if p (f n) then some (f n) else lastF f p n
theorem lastF_none {f : Nat → Ver} {p : Ver → Bool} : ∀ {n : Nat}, (∀ i, i < n → p (f i) = false) → lastF f p n = none
  | 0, _ => rfl
  | n + 1, h => by
    rw [lastF, if_neg (by rw [h n (by omega)]; simp)]
    exact lastF_none fun i hi => h i (by omega)
theorem lastF_some {f : Nat → Ver} {p : Ver → Bool} {i : Nat} (hp : p (f i) = true) : ∀ {n : Nat}, i < n → (∀ j, i < j → j < n → p (f j) = false) → lastF f p n = some (f i)
  | 0, h, _ => by omega
  | n + 1, h, hn => by
    rw [lastF]
    by_cases e : n = i
    · rw [e, if_pos hp]
    · rw [if_neg (by rw [hn n (by omega) (by omega)]; simp)]
      exact lastF_some hp (by omega) fun j h1 h2 => hn j h1 (by omega)
theorem mem_dn {n : Nat} {f : Nat → Ver} {k i : Nat} (h : i < k) : (n - 1 - i, f (n - 1 - i)) ∈ dn n f k := by
  simp only [dn, List.mem_map, List.mem_range]
  exact ⟨i, h, rfl⟩
def ver0 : Ver := ⟨⟨⟨0, 0, 0, 0⟩, 0⟩, ⟨⟨#[]⟩, ⟨#[]⟩, ⟨#[]⟩, false⟩⟩
set_option maxRecDepth 100000 in
set_option maxHeartbeats 4000000 in
theorem last_c (g : Nat) (sv : Value) (n : Nat) (f : Nat → Ver) (hn : n ≤ 9223372036854775807) (fis : Nat) (caps : Array Value) (p : Ver → Bool) (w : World) (hg : w.cell? ⟨g, 0, none⟩ = some sv) (hgn : g < w.heap.size) (hI : Hlds w.heap.size w sv n f)
    (hcf : ∀ (v : Array Value) w, (callFunc fis v).run Try.prog w = .ok (.enter fis v) w)
    (hp : ∀ (x : Ver) (W : World), Below w.heap.size w W → Calls Try.prog fis (#[x.val] ++ caps) W fun e W' => e = .returned (.bool (p x)) ∧ Below W.heap.size W W') :
    Calls Try.prog 78 #[.pointer (some ⟨g, 0, none⟩), .func (.func fis) #[] caps] w fun e w' => e = .returned (.tuple #[((lastF f p n).getD ver0).val, .bool (lastF f p n).isSome]) ∧ Below w.heap.size w w' := by
  refine (callsIn_wide (n := 5)).1 ?_
  obtain ⟨a, len, cap, hsv⟩ : ∃ a len cap, sv = .slice a len cap := by
    rcases hI with ⟨e, _⟩ | ⟨b, cap, e, _⟩ <;> exact ⟨_, _, _, e⟩
  subst hsv
  refine callsIn_of_wp_marks Try.func78 rfl trivial ?_ rfl
  simp only [Try.ntmps78, List.size_toArray, List.length_cons, List.length_nil, Nat.reduceAdd, Nat.reduceSub, Array.replicate_succ, Array.replicate_zero, List.push_toArray, List.append_toArray, List.nil_append, List.cons_append]
  have hgc : ∀ o1 o2 o3 : Obj, (((w.alloc o1).alloc o2).alloc o3).cell? ⟨g, 0, none⟩ = some (.slice a len cap) := fun o1 o2 o3 => ((((Below.refl _ w).alloc (Nat.le_refl _) o1).alloc (by simp) o2).alloc (by simp; omega) o3).cell (p := ⟨g, 0, none⟩) hgn |>.trans hg
  gi_wp2_with (refine ⟨trivial, ?_⟩; gi_at_call 91; refine (back_in Fence.wide (5 - 1) trivial rfl _ _ _ _).mono ?_; rintro e w' ⟨rfl, rfl⟩)
  obtain ⟨w3, hw3⟩ : ∃ w3, ((w.alloc (.cells #[.func (.func fis) #[] caps] 147)).alloc (.cells ver0.l.toArray 126)).alloc (.cells #[.bool false] 4) = w3 := ⟨_, rfl⟩
  have hz3 : w3.heap.size = w.heap.size + 3 := by rw [← hw3]; simp
  have b0 : Bx w3 w.heap.size 147 [.func (.func fis) #[] caps] := by rw [← hw3]; exact ((Bx.new w _ _).alloc _).alloc _
  have b1 : Bx w3 (w.heap.size + 1) 126 ver0.l := by
    rw [← hw3]
    have := (Bx.new (w.alloc (.cells #[.func (.func fis) #[] caps] 147)) 126 ver0.l).alloc (.cells #[.bool false] 4)
    rw [World.size_alloc] at this; exact this
  have b2 : Bx w3 (w.heap.size + 2) 4 [.bool false] := by
    rw [← hw3]
    have := Bx.new ((w.alloc (.cells #[.func (.func fis) #[] caps] 147)).alloc (.cells ver0.l.toArray 126)) 4 [.bool false]
    rw [World.size_alloc, World.size_alloc] at this; exact this
  have hB3 : Below w.heap.size w w3 := by
    rw [← hw3]; exact (((Below.refl _ w).alloc (Nat.le_refl _) _).alloc (by simp) _).alloc (by simp; omega) _
  have hw3' : ((w.alloc (.cells #[.func (.func fis) #[] caps] 147)).alloc (.cells #[.int .u64 0, .int .u64 0, .int .u64 0, .int .u64 0, .int .i64 0, .string ⟨#[]⟩, .string ⟨#[]⟩, .string ⟨#[]⟩, .bool false] 126)).alloc (.cells #[.bool false] 4) = w3 := hw3
  have hz1 : w.heap.size + 1 + 1 = w.heap.size + 2 := rfl
  simp only [hw3', hz1]
  obtain ⟨w4, hw4⟩ : ∃ w4, w3.alloc (.cells #[.slice a len cap] 139) = w4 := ⟨_, rfl⟩
  have hz4 : w4.heap.size = w.heap.size + 4 := by rw [← hw4]; simp [hz3]
  have a0 : Bx w4 w.heap.size 147 [.func (.func fis) #[] caps] := by rw [← hw4]; exact b0.alloc _
  have a1 : Bx w4 (w.heap.size + 1) 126 ver0.l := by rw [← hw4]; exact b1.alloc _
  have a2 : Bx w4 (w.heap.size + 2) 4 [.bool false] := by rw [← hw4]; exact b2.alloc _
  have b3 : Bx w4 (w.heap.size + 3) 139 [.slice a len cap] := by rw [← hw4, ← hz3]; exact Bx.new w3 _ _
  have hB4 : Below w.heap.size w w4 := by rw [← hw4]; exact hB3.alloc (by omega) _
  rw [hw4]
  have fin : ∀ (Wf : World) (D : Nat) (v : Ver) (bb : Bool), w4.heap.size ≤ D → Bx Wf (w.heap.size + 1) 126 v.l → Bx Wf (w.heap.size + 2) 4 [.bool bb] → Below w.heap.size w Wf → Wf.heap[D]? = some (.deferred (some [])) → (lastF f p n).getD ver0 = v → (lastF f p n).isSome = bb →
      ∀ (a : Act), a.tmps.getD 4 undef = .pointer (some ⟨w.heap.size + 1, 0, none⟩) → a.tmps.getD 5 undef = .pointer (some ⟨w.heap.size + 2, 0, none⟩) → 
      ∃ v, (results Try.f78 a.tmps).run Try.prog (Wf.putObj D (.deferred none)) = .ok v (Wf.putObj D (.deferred none)) ∧ (Ending.returned v = .returned (.tuple #[((lastF f p n).getD ver0).val, .bool (lastF f p n).isSome]) ∧ Below w.heap.size w (Wf.putObj D (.deferred none))) := by
    intro Wf D v bb hD q1 q2 hB hK e1 e2 a h4 h5
    have k1 := q1.kept' (grownBy_putObj' _ D (.deferred none)) (fun r e => by cases e; exact ⟨_, hK, rfl⟩)
    have k2 := q2.kept' (grownBy_putObj' _ D (.deferred none)) (fun r e => by cases e; exact ⟨_, hK, rfl⟩)
    have z0 := k1.cell (q := 0) rfl; have z1 := k1.cell (q := 1) rfl; have z2 := k1.cell (q := 2) rfl; have z3 := k1.cell (q := 3) rfl; have z4 := k1.cell (q := 4) rfl; have z5 := k1.cell (q := 5) rfl; have z6 := k1.cell (q := 6) rfl; have z7 := k1.cell (q := 7) rfl; have z8 := k1.cell (q := 8) rfl
    have t0 := k2.cell (q := 0) rfl
    refine ⟨.tuple #[v.val, .bool bb], ?_, by rw [e1, e2], hB.trans (belowK_b (w := w) (Nat.le_refl _) Wf D _ _ (by omega) hK rfl rfl)⟩
    have h4' : a.tmps[4]?.getD undef = .pointer (some ⟨w.heap.size + 1, 0, none⟩) := by rw [← h4]; simp
    have h5' : a.tmps[5]?.getD undef = .pointer (some ⟨w.heap.size + 2, 0, none⟩) := by rw [← h5]; simp
    simp [results, Try.f78, go_sem, h4', h5', z0, z1, z2, z3, z4, z5, z6, z7, z8, t0, Ver.val, Ver.l]
  refine wpIn_rangeFunc_ownH rfl (by omega) (gf := 95) (lb := #[.pointer (some ⟨w.heap.size + 3, 0, none⟩)]) rfl trivial (enters_of Try.func95 (by kernel_rfl) rfl)
    (back_stops Fence.wide (5 - 1) trivial rfl (by omega) (w.heap.size + 3) (w.heap.size + 4) (.slice a len cap) n f hn w4 (by omega) (by omega) (by omega) (b3.cell (q := 0) rfl) ((hI.below hB4).wide (by omega)))
    belowK_t (belowK_b (by omega)) (Below.refl _ _) (fun _ => rfl)
    (fun pre W => ((∀ x ∈ pre, p x.2 = false) ∧ Bx W w.heap.size 147 [.func (.func fis) #[] caps] ∧ Bx W (w.heap.size + 1) 126 ver0.l ∧ Bx W (w.heap.size + 2) 4 [.bool false]) ∧ Below (w.heap.size + 4) w4 W)
    (fun c pre W => (c = .ret ∧ ∃ ini last, pre = ini ++ [last] ∧ (∀ x ∈ ini, p x.2 = false) ∧ p last.2 = true ∧ Bx W (w.heap.size + 1) 126 last.2.l ∧ Bx W (w.heap.size + 2) 4 [.bool true]) ∧ Below w.heap.size w W)
    (OwnFrom.and (Own.from (fun s A B row hs hg hr => ⟨hs.1, hs.2.1.kept' hg hr, hs.2.2.1.kept' hg hr, hs.2.2.2.kept' hg hr⟩) _) (ownFrom_below (by omega) (by omega)))
    (fun c => OwnFrom.and (Own.from (fun s A B row hs hg hr => by obtain ⟨hc, ini, last, e1, e2, e3, e4, e5⟩ := hs; exact ⟨hc, ini, last, e1, e2, e3, e4.kept' hg hr, e5.kept' hg hr⟩) _) (ownFrom_below (Nat.le_refl _) (by omega)))
    ⟨⟨by simp, a0, a1, a2⟩, Below.refl _ _⟩
    (fun x a' W => ∃ B, w.heap.size + 3 < B ∧ Bx W B 126 x.2.l ∧ a' = { tmps := #[.pointer (some ⟨g, 0, none⟩), .func (.func fis) #[] caps, undef, .pointer (some ⟨w.heap.size, 0, none⟩), .pointer (some ⟨w.heap.size + 1, 0, none⟩), .pointer (some ⟨w.heap.size + 2, 0, none⟩), undef, .pointer (some ⟨B, 0, none⟩), .pointer (some ⟨g, 0, none⟩), .pointer (some ⟨g, 0, none⟩), .pointer (some ⟨g, 0, none⟩), .slice a len cap, .func (.func 95) #[] #[.pointer (some ⟨w.heap.size + 3, 0, none⟩)], .int .i64 (x.1 : Int), x.2.val, undef, undef, undef, undef, undef], defers := [] })
    (fun x a' _ X Y row hs hg hr => by obtain ⟨B, h1, h2, h3⟩ := hs; exact ⟨B, h1, h2.kept' hg (fun r e => (hr r e).2), h3⟩)
    ?assign ?body ?done ?stop
  case assign =>
    rintro l pre x W K ⟨⟨hp1, q0, q1, q2⟩, hBW⟩ hK
    simp only [Ver.val, Ver.l]
    gi_wp2
    have hsz := hBW.size
    exact hK _ _ ((KeepsOthers.alloc _ _).from _) ((Below.refl _ W).alloc (by omega) _) ⟨⟨hp1, q0.alloc _, q1.alloc _, q2.alloc _⟩, hBW.alloc (by omega) _⟩ ⟨W.heap.size, by omega, Bx.new W _ x.2.l, rfl⟩
  case body =>
    rintro l pre x a' W hl ⟨r, hr⟩ ⟨⟨hp1, q0, q1, q2⟩, hBW⟩ ⟨B, hB, qB, rfl⟩ hlt
    have hsz := hBW.size
    have f0 := q0.cell (q := 0) rfl
    have y0 := qB.cell (q := 0) rfl; have y1 := qB.cell (q := 1) rfl; have y2 := qB.cell (q := 2) rfl; have y3 := qB.cell (q := 3) rfl; have y4 := qB.cell (q := 4) rfl; have y5 := qB.cell (q := 5) rfl; have y6 := qB.cell (q := 6) rfl; have y7 := qB.cell (q := 7) rfl; have y8 := qB.cell (q := 8) rfl
    have hBl := qB.lt
    have hpx := hp x.2 W (hB4.trans (hBW.mono (by omega)))
    simp only [Ver.val, Ver.l] at hpx
    gi_wp2_with (refine ⟨trivial, ?_⟩; refine (CallsIn.inRound l (callsIn_wide.2 hpx)).mono ?_; rintro e w' ⟨rfl, hb⟩; have q1' := q1.below hb q1.lt; have q2' := q2.below hb q2.lt; have qB' := qB.below hb qB.lt; have z0 := q1'.cell (q := 0) rfl; have z1 := q1'.cell (q := 1) rfl; have z2 := q1'.cell (q := 2) rfl; have z3 := q1'.cell (q := 3) rfl; have z4 := q1'.cell (q := 4) rfl; have z5 := q1'.cell (q := 5) rfl; have z6 := q1'.cell (q := 6) rfl; have z7 := q1'.cell (q := 7) rfl; have z8 := q1'.cell (q := 8) rfl; have y0 := qB'.cell (q := 0) rfl; have y1 := qB'.cell (q := 1) rfl; have y2 := qB'.cell (q := 2) rfl; have y3 := qB'.cell (q := 3) rfl; have y4 := qB'.cell (q := 4) rfl; have y5 := qB'.cell (q := 5) rfl; have y6 := qB'.cell (q := 6) rfl; have y7 := qB'.cell (q := 7) rfl; have y8 := qB'.cell (q := 8) rfl; have t0 := q2'.cell (q := 0) rfl; have g0 := q1'.frozen 0; have g1 := q1'.frozen 1; have g2 := q1'.frozen 2; have g3 := q1'.frozen 3; have g4 := q1'.frozen 4; have g5 := q1'.frozen 5; have g6 := q1'.frozen 6; have g7 := q1'.frozen 7; have g8 := q1'.frozen 8; have gB := q2'.frozen 0)
    all_goals
      have hkb : KeepsOthers W w' := ⟨hb.size, fun k o hk ho => (hb.block k (Array.getElem?_eq_some_iff.1 hk).1).trans hk⟩
      have hbw : Below (w.heap.size + 4) W w' := hb.mono (by omega)
    · have hpx : p x.2 = true := by assumption
      refine ⟨(hkb.trans (((((((((((KeepsOthers.setCell _ _ _).trans (KeepsOthers.setCell _ _ _)).trans (KeepsOthers.setCell _ _ _)).trans (KeepsOthers.setCell _ _ _)).trans (KeepsOthers.setCell _ _ _)).trans (KeepsOthers.setCell _ _ _)).trans (KeepsOthers.setCell _ _ _)).trans (KeepsOthers.setCell _ _ _)).trans (KeepsOthers.setCell _ _ _)).trans (KeepsOthers.setCell _ _ _)))).from _, ⟨rfl, pre, x, rfl, hp1, hpx, ?_, ?_⟩, ?_⟩
      · exact ((((((((((q1'.set 0 _).set 1 _).set 2 _).set 3 _).set 4 _).set 5 _).set 6 _).set 7 _).set 8 _).other (by omega) _ _)
      · exact ((((((((((q2'.other (by omega) _ _).other (by omega) _ _).other (by omega) _ _).other (by omega) _ _).other (by omega) _ _).other (by omega) _ _).other (by omega) _ _).other (by omega) _ _).other (by omega) _ _).set 0 _)
      · have hb0 : Below w.heap.size w w' := (hB4.trans (hBW.mono (by omega))).trans (hbw.mono (by omega))
        exact ((((((((((hb0.setCell (p := ⟨w.heap.size + 1, 0, none⟩) (by simp) _).setCell (p := ⟨w.heap.size + 1, 1, none⟩) (by simp) _).setCell (p := ⟨w.heap.size + 1, 2, none⟩) (by simp) _).setCell (p := ⟨w.heap.size + 1, 3, none⟩) (by simp) _).setCell (p := ⟨w.heap.size + 1, 4, none⟩) (by simp) _).setCell (p := ⟨w.heap.size + 1, 5, none⟩) (by simp) _).setCell (p := ⟨w.heap.size + 1, 6, none⟩) (by simp) _).setCell (p := ⟨w.heap.size + 1, 7, none⟩) (by simp) _).setCell (p := ⟨w.heap.size + 1, 8, none⟩) (by simp) _).setCell (p := ⟨w.heap.size + 2, 0, none⟩) (by simp) _)
    · have hpx : p x.2 = false := by assumption
      refine ⟨hkb.from _, hbw, ⟨⟨fun y hy => (List.mem_append.1 hy).elim (hp1 y) (fun e => by simp at e; subst e; exact hpx), q0.below hb q0.lt, q1', q2'⟩, hBW.trans hbw⟩⟩
  case done =>
    rintro D ys W hD rfl ⟨⟨hp1, q0, q1, q2⟩, hBW⟩ hK
    have z0 := q1.cell (q := 0) rfl; have z1 := q1.cell (q := 1) rfl; have z2 := q1.cell (q := 2) rfl; have z3 := q1.cell (q := 3) rfl; have z4 := q1.cell (q := 4) rfl; have z5 := q1.cell (q := 5) rfl; have z6 := q1.cell (q := 6) rfl; have z7 := q1.cell (q := 7) rfl; have z8 := q1.cell (q := 8) rfl
    have t0 := q2.cell (q := 0) rfl
    have g0 := q1.frozen 0; have g1 := q1.frozen 1; have g2 := q1.frozen 2; have g3 := q1.frozen 3; have g4 := q1.frozen 4; have g5 := q1.frozen 5; have g6 := q1.frozen 6; have g7 := q1.frozen 7; have g8 := q1.frozen 8
    have gB := q2.frozen 0
    gi_wp2
    have hB0 : Below w.heap.size w W := hB4.trans (hBW.mono (by omega))
    have hn0 : lastF f p n = none := lastF_none fun i hi => by
      have := hp1 (n - 1 - (n - 1 - i), f (n - 1 - (n - 1 - i))) (mem_dn (by omega))
      rw [show n - 1 - (n - 1 - i) = i by omega] at this; exact this
    refine ⟨by simp, .inl ⟨_, _, rfl, run_takeDeferred ((((((((((((KeepsOthers.setCell W _ _).trans (KeepsOthers.setCell _ _ _)).trans (KeepsOthers.setCell _ _ _)).trans (KeepsOthers.setCell _ _ _)).trans (KeepsOthers.setCell _ _ _)).trans (KeepsOthers.setCell _ _ _)).trans (KeepsOthers.setCell _ _ _)).trans (KeepsOthers.setCell _ _ _)).trans (KeepsOthers.setCell _ _ _)).trans (KeepsOthers.setCell _ _ _))).same D _ hK rfl), ?_⟩⟩
    exact fin _ D ver0 false hD ((((((((((q1.set 0 _).set 1 _).set 2 _).set 3 _).set 4 _).set 5 _).set 6 _).set 7 _).set 8 _).other (by omega) _ _) ((((((((((q2.other (by omega) _ _).other (by omega) _ _).other (by omega) _ _).other (by omega) _ _).other (by omega) _ _).other (by omega) _ _).other (by omega) _ _).other (by omega) _ _).other (by omega) _ _).set 0 _)
      ((((((((((hB0.setCell (p := ⟨w.heap.size + 1, 0, none⟩) (by simp) _).setCell (p := ⟨w.heap.size + 1, 1, none⟩) (by simp) _).setCell (p := ⟨w.heap.size + 1, 2, none⟩) (by simp) _).setCell (p := ⟨w.heap.size + 1, 3, none⟩) (by simp) _).setCell (p := ⟨w.heap.size + 1, 4, none⟩) (by simp) _).setCell (p := ⟨w.heap.size + 1, 5, none⟩) (by simp) _).setCell (p := ⟨w.heap.size + 1, 6, none⟩) (by simp) _).setCell (p := ⟨w.heap.size + 1, 7, none⟩) (by simp) _).setCell (p := ⟨w.heap.size + 1, 8, none⟩) (by simp) _).setCell (p := ⟨w.heap.size + 2, 0, none⟩) (by simp) _) ((((((((((((KeepsOthers.setCell W _ _).trans (KeepsOthers.setCell _ _ _)).trans (KeepsOthers.setCell _ _ _)).trans (KeepsOthers.setCell _ _ _)).trans (KeepsOthers.setCell _ _ _)).trans (KeepsOthers.setCell _ _ _)).trans (KeepsOthers.setCell _ _ _)).trans (KeepsOthers.setCell _ _ _)).trans (KeepsOthers.setCell _ _ _)).trans (KeepsOthers.setCell _ _ _))).same D _ hK rfl) (by rw [hn0]; rfl) (by rw [hn0]; rfl) _ rfl rfl
  case stop =>
    rintro D c pre W hD ⟨k, hk, rfl⟩ ⟨⟨rfl, ini, last, e1, e2, e3, q1, q2⟩, hB⟩ hK
    gi_wp2
    rw [dn_succ] at e1
    obtain ⟨h1, h2⟩ := List.append_inj' e1 rfl
    have h3 : (n - 1 - k, f (n - 1 - k)) = last := by simpa using h2
    have hs0 : lastF f p n = some last.2 := by
      rw [← h3] at e3 ⊢
      refine lastF_some e3 (by omega) fun j hj1 hj2 => ?_
      have := e2 (n - 1 - (n - 1 - j), f (n - 1 - (n - 1 - j))) (by rw [← h1]; exact mem_dn (by omega))
      rw [show n - 1 - (n - 1 - j) = j by omega] at this; exact this
    refine ⟨by simp, .inl ⟨_, _, rfl, run_takeDeferred hK, ?_⟩⟩
    exact fin W D last.2 true hD q1 q2 hB hK (by rw [hs0]; rfl) (by rw [hs0]; rfl) _ rfl rfl
end Go.Proofs.Ytagjblkfgjcmnaa.CW
namespace Go.Proofs.Ytagjblkfgjcmnaa.CW
open Go.RowKit Go.Sx
attribute [local go_sem ↓] reduceIte
attribute [local go_sem] Nat.reduceEqDiff Nat.reduceLT Nat.reduceLeDiff Nat.reduceAdd Nat.reduceMul Nat.reduceSub Nat.reduceDiv Nat.reduceMod Int.reduceToNat Int.reduceLT Int.reduceLE Int.reduceAdd Int.reduceSub Int.reduceMul Int.reduceEq Int.reduceNeg reduceCtorEq or_false false_or decide_true decide_false Int.cast_ofNat_Int Nat.zero_add Nat.add_zero Int.toNat_natCast Option.isNone_none Option.isNone_some Bool.not_true Bool.not_false Bool.xor_true Bool.xor_false Bool.true_xor Bool.false_xor Bool.and_true Bool.true_and Bool.and_false Bool.false_and eq_self ne_eq not_false_eq_true not_true_eq_false true_and and_true and_self

def vrow (l : List Ver) (j : Nat) : List Value := ((l[j]?).map Ver.l).getD []
theorem vrow_eq {l : List Ver} {j : Nat} {x : Ver} (h : l[j]? = some x) : (vrow l j).map CV.v = [cu x.st.v.a, cu x.st.v.b, cu x.st.v.c, cu x.st.v.d, ci x.st.dc, .v (.string x.x.b), .v (.string x.x.k), .v (.string x.x.x), .v (.bool x.x.g)] := by simp [vrow, h, Ver.l]
def CSh (l : List Ver) (nx : Nat) (hp : List (Nat × Blk)) : Prop :=
  (l = [] ∧ nx = 1 ∧ hp = [(0, .cells 141 [.v (.slice none 0 0)])]) ∨
  ∃ c, (l.length ≤ c ∧ 0 < c) ∧ nx = 2 ∧ hp = [(0, .cells 141 [.s 1 0 l.length c]), (1, .rows 126 9 l.length c fun j => (vrow l j).map .v)]
theorem ch_end0 {C : Cx} {fp : List Nat} {w w' : World} {fr : List (Nat × SV)} {hp : List (Nat × Blk)} {nx : Nat} {ρ : Env} {a : Act} {g : Nat} {l : List Ver} (hw : C.w0 = w) (hM : C.M = (· ∈ fp)) (hs : Sat C ⟨fr, hp, nx⟩ ρ a w') (hg : (ρ 0).blk = g) (hb : (ρ 0).base = 0)
    (h0 : hget hp 0 = some (.cells 141 [.v (.slice none 0 0)])) (hl : l = []) : ∃ fp', On g (CSh l) fp' w' ∧ Chg fp fp' w w' :=
  on_ends (Sh := CSh l) (g := g) hw hM hs id (nx' := 1) (hp' := [(0, .cells 141 [.v (.slice none 0 0)])]) ⟨⟨by omega, by simp [Blk.bl, CV.blL, CV.bl], h0⟩, trivial⟩ (by simp) rfl (.inl ⟨hl, rfl, rfl⟩) hg hb (by omega)
theorem hget_hset (m : Nat) (b : Blk) : ∀ (hp : List (Nat × Blk)) (b' : Blk), hget hp m = some b' → hget (hset hp m b) m = some b
  | [], _, h => by simp [hget] at h
  | (q, v) :: y, b', h => by
    rw [hget_cons] at h
    rw [hset_cons]
    by_cases hq : q = m
    · rw [if_pos hq, hget_cons, if_pos hq]
    · rw [if_neg hq, hget_cons, if_neg hq]; rw [if_neg hq] at h; exact hget_hset m b y b' h
theorem hget_hset_ne (m k : Nat) (b : Blk) (hk : k ≠ m) : ∀ (hp : List (Nat × Blk)), hget (hset hp m b) k = hget hp k
  | [] => rfl
  | (q, v) :: y => by
    rw [hset_cons]
    by_cases hq : q = m
    · rw [if_pos hq, hget_cons, hget_cons, if_neg (by omega), if_neg (by omega)]
    · rw [if_neg hq, hget_cons, hget_cons, hget_hset_ne m k b hk y]
theorem ent_rows_le {C : Cx} {fr : List (Nat × SV)} {hp : List (Nat × Blk)} {nx : Nat} (n : Nat) {ty e m c m' : Nat} {r r' : Nat → List CV} (hg : hget hp n = some (.rows ty e m c r)) (hm : m' ≤ m) (h : ∀ i, i < m' → r' i = r i) : Ent C ⟨fr, hp, nx⟩ ⟨fr, hset hp n (.rows ty e m' c r'), nx⟩ := fun ρ a w hs => by
  refine ⟨ρ, ?_, fun _ _ => rfl⟩
  refine hs.set hg hs.now.keeps (Nat.le_refl _) (fun _ _ _ _ => rfl) fun ρ' hρ => ⟨rfl, ?_⟩
  obtain ⟨h1, h2, ⟨arr, h3, h4, h5⟩, h6⟩ := (hs ρ' hρ).hp _ _ (mem_hget hg)
  exact ⟨h1, h2, ⟨arr, h3, h4, fun i hi => by rw [h i hi]; exact h5 i (by omega)⟩, h6⟩
theorem ch_end1 {C : Cx} {fp : List Nat} {w w' : World} {fr : List (Nat × SV)} {hp : List (Nat × Blk)} {nx : Nat} {ρ : Env} {a : Act} {g : Nat} {l : List Ver} (hw : C.w0 = w) (hM : C.M = (· ∈ fp)) (hs : Sat C ⟨fr, hp, nx⟩ ρ a w') (hg : (ρ 0).blk = g) (hb : (ρ 0).base = 0) (hn0 : 0 < C.n0) (m c : Nat) {r : Nat → List CV} {n k : Nat}
    (h0 : hget hp 0 = some (.cells 141 [.s m 0 n c])) (hm : m ≠ 0) (h1 : hget hp m = some (.rows 126 9 k c r)) (hn : n = l.length) (hk : n ≤ k) (hr : ∀ j, j < n → (vrow l j).map .v = r j) (hc : n ≤ c ∧ 0 < c) : ∃ fp', On g (CSh l) fp' w' ∧ Chg fp fp' w w' := by
  subst hn
  obtain ⟨ρ', hs', hρ⟩ := ent_rows_le (C := C) (fr := fr) (nx := nx) (m' := l.length) (r' := fun j => (vrow l j).map .v) m h1 hk hr ρ a w' hs
  have h0' := hρ 0 hn0
  refine on_ends (Sh := CSh l) (g := g) hw hM hs' (fun k => if k = 1 then m else k) (nx' := 2) (hp' := [(0, .cells 141 [.s 1 0 l.length c]), (1, .rows 126 9 l.length c fun j => (vrow l j).map .v)]) ⟨⟨by omega, by simp [Blk.bl, CV.blL, CV.bl], ?_⟩, ⟨by omega, fun j _ => blL_v _ _, ?_⟩, trivial⟩ (by simp; omega) rfl (.inr ⟨c, hc, rfl, rfl⟩) ((congrArg Nm.blk h0').trans hg) ((congrArg Nm.base h0').trans hb) (by omega)
  · show hget _ 0 = _
    rw [hget_hset_ne m 0 _ (by omega), h0]; rfl
  · show hget _ m = _
    rw [hget_hset m _ hp _ h1]
    simp [Blk.rn, CV.rnL_eq, Function.comp_def, CV.rn]

theorem cnew_c (w : World) : Calls Try.prog 64 #[] w fun e w' => ∃ g fp', e = .returned (gptr g) ∧ On g (CSh []) fp' w' ∧ Chg [] fp' w w' := by
  refine calls_pure 3 _ Try.func64 rfl Try.ntmps64 Try.results64 [] (by simp) (fun _ => rfl) ?_
  simp only [go_sem]
  refine fun ρ a w' hs _ => ?_
  have hb := (hs.now.hp 0 _ (List.mem_cons_self ..)).1
  obtain ⟨fp', hon, hch⟩ := ch_end0 (fp := []) (g := (ρ 0).blk) (l := []) rfl (by funext k; simp) hs rfl hb rfl rfl
  exact ⟨(ρ 0).blk, fp', by simp [SV.den, CV.den, gptr, hb], hon, hch⟩
theorem clen_c (g : Nat) (l : List Ver) (fp : List Nat) (w : World) (h : On g (CSh l) fp w) : Calls Try.prog 60 #[gptr g] w (TurnK g fp (.int .i64 l.length) (CSh l) w) := by
  refine on_calls2 h 8 _ Try.func60 rfl Try.ntmps60 Try.results60 [.c (.p 0 0 0)] (by simp) (fun ρ' h1 h2 => by simp [SV.denL, SV.den, CV.den, gptr, h1, h2]) (fun ρ nx hp hsh hg hb hh => ?_)
  rcases hsh with ⟨hn, rfl, rfl⟩ | ⟨c, hc, rfl, rfl⟩
  · simp only [go_sem]
    refine fun ρ' a w' hs' hag => ?_
    exact ⟨by rw [hn]; rfl, on_same rfl rfl hs' hag hh rfl (.inl ⟨hn, rfl, rfl⟩) hg hb⟩
  · simp only [go_sem]
    refine fun ρ' a w' hs' hag => ?_
    exact ⟨rfl, on_same rfl rfl hs' hag hh rfl (.inr ⟨c, hc, rfl, rfl⟩) hg hb⟩
theorem read1_c (W : World) (B : Nat) (at' : V4) (x : Ver) (hB : ImmAt W B 0 4 1 fun _ => [vu at'.a, vu at'.b, vu at'.c, vu at'.d]) :
    Calls Try.prog 79 #[x.val, .pointer (some ⟨B, 0, none⟩)] W fun e W' => e = .returned (.bool (x.st.seen at')) ∧ Below W.heap.size W W' := by
  refine calls_imm [⟨B, 0, 4, 1, _⟩] (by simp; exact hB) 8 _ Try.func79 rfl Try.ntmps79 Try.results79 [.agg x.c, .c (.p 0 0 0)] (by simp) (fun ρ h => by
    have h0 := h 0 (by simp)
    simp [immN, ImmD.nm] at h0
    simp [SV.denL, SV.den, CV.den, CV.denL, h0, Ver.val, Ver.l, Ver.c]) ?_
  simp only [immL, List.length_cons, List.length_nil, Nat.zero_add, Nat.reduceAdd, List.map_cons, List.map_nil, Ver.c]
  simp only [go_sem]
  refine seen_s ?_
  simp only [go_sem]
  exact fun ρ a w hs _ => ⟨rfl, hs.grown⟩
theorem last1_c (W : World) (x : Ver) : Calls Try.prog 80 #[x.val] W fun e W' => e = .returned (.bool true) ∧ Below W.heap.size W W' := by
  refine calls_pure 3 _ Try.func80 rfl Try.ntmps80 Try.results80 [.agg x.c] (by simp) (fun _ => rfl) ?_
  simp only [Ver.c]
  simp only [go_sem]
  exact fun ρ a w hs _ => ⟨rfl, hs.grown⟩
theorem add1_c (W : World) (x : Ver) (s : Stp) : Calls Try.prog 66 #[x.val, s.val] W fun e W' => e = .returned (.int .i64 (x.st.ord s)) ∧ Below W.heap.size W W' := by
  refine calls_pure 9 _ Try.func66 rfl Try.ntmps66 Try.results66 [.agg x.c, sst s.v.a s.v.b s.v.c s.v.d s.dc] (by simp) (fun _ => rfl) ?_
  simp only [Ver.c]
  simp only [go_sem]
  refine ord_s ?_
  simp only [go_sem]
  exact fun ρ a w hs _ => ⟨rfl, hs.grown⟩
theorem prune1_c (W : World) (B1 B2 : Nat) (h : V4) (best x : Ver) (i1 : ImmAt W B1 0 4 1 fun _ => [vu h.a, vu h.b, vu h.c, vu h.d]) (i2 : ImmAt W B2 0 9 1 fun _ => best.l) :
    Calls Try.prog 70 #[x.val, .pointer (some ⟨B1, 0, none⟩), .pointer (some ⟨B2, 0, none⟩)] W fun e W' => e = .returned (.bool (x.st.seen h && decide (x.st ≠ best.st))) ∧ Below W.heap.size W W' := by
  refine calls_imm [⟨B1, 0, 4, 1, _⟩, ⟨B2, 0, 9, 1, _⟩] (by simp; exact ⟨i1, i2⟩) 16 _ Try.func70 rfl Try.ntmps70 Try.results70 [.agg x.c, .c (.p 0 0 0), .c (.p 1 0 0)] (by simp) (fun ρ hh => by
    have h0 := hh 0 (by simp)
    have h1 := hh 1 (by simp)
    simp [immN, ImmD.nm] at h0 h1
    simp [SV.denL, SV.den, CV.den, CV.denL, h0, h1, Ver.val, Ver.l, Ver.c]) ?_
  simp only [immL, List.length_cons, List.length_nil, Nat.zero_add, Nat.reduceAdd, List.map_cons, List.map_nil, Ver.c, Ver.l]
  simp only [go_sem]
  refine seen_s ?_
  cases hsn : Stp.seen ⟨⟨x.st.v.a, x.st.v.b, x.st.v.c, x.st.v.d⟩, x.st.dc⟩ h
  · simp only [go_sem]
    exact fun ρ a w hs _ => ⟨rfl, hs.grown⟩
  · have e := stp_dec x.st best.st
    simp only [go_sem, e]
    exact fun ρ a w hs _ => ⟨by simp [SV.den, CV.den], hs.grown⟩
def rdL (l : List Ver) (p : Ver → Bool) : Option Ver := lastF (fun j => l.getD j ver0) p l.length
def Ver.s (v : Ver) : SV := .agg v.c
theorem last_s {C : Cx} {fr : List (Nat × SV)} {hp : List (Nat × Blk)} {nx : Nat} {d : Option Tmp} {K : St → Prop} (l : List Ver) (hl : l.length ≤ 9223372036854775807)
    (h0 : (hget hp 0 = some (.cells 141 [.v (.slice none 0 0)]) ∧ l = []) ∨ ∃ c m, hget hp 0 = some (.cells 141 [.s 1 0 l.length c]) ∧ hget hp 1 = some (.rows 126 9 l.length m fun j => (vrow l j).map .v))
    (fis : Nat) (caps : List CV) (p : Ver → Bool) (hcf : ∀ (v : Array Value) w, (callFunc fis v).run Try.prog w = .ok (.enter fis v) w)
    (hp1 : ∀ ρ w a, Sat C ⟨fr, hp, nx⟩ ρ a w → ∀ (x : Ver) (W : World), Below w.heap.size w W → Calls Try.prog fis (#[x.val] ++ (CV.denL ρ caps).toArray) W fun e W' => e = .returned (.bool (p x)) ∧ Below W.heap.size W W')
    (hK : dOk C.N d ∧ kput K ⟨fr, hp, nx⟩ d (.tup [((rdL l p).getD ver0).s, .c (.v (.bool (rdL l p).isSome))])) : SCall Try.prog C 78 [.c (.p 0 0 0), .c (.fn fis caps)] d K ⟨fr, hp, nx⟩ := by
  refine scall_keep (.tup [((rdL l p).getD ver0).s, .c (.v (.bool (rdL l p).isSome))]) Try.call78 (fun ρ w a hs => ?_) rfl (fun ρ ρ' _ => ?_) hK
  · have hp1' := hp1 ρ w a hs
    have e0 : (SV.tup [((rdL l p).getD ver0).s, .c (.v (.bool (rdL l p).isSome))]).den ρ = .tuple #[((rdL l p).getD ver0).val, .bool (rdL l p).isSome] := by
      simp [SV.den, SV.denL, CV.den, CV.denL, Ver.s, Ver.c, Ver.val, Ver.l]
    rw [e0]
    rcases h0 with ⟨g0, rfl⟩ | ⟨c, m, g0, g1⟩
    · obtain ⟨b0, b1, _, b3⟩ := hs.now.hp _ _ (mem_hget g0)
      have := last_c (ρ 0).blk (.slice none 0 0) 0 (fun j => ([] : List Ver).getD j ver0) (by omega) fis (CV.denL ρ caps).toArray p w (by simp [World.cell?, b1, CV.den]) (lt_of_heap b1) (.inl ⟨rfl, rfl⟩) hcf hp1'
      simpa [SV.denL, SV.den, CV.den, b0, rdL] using this
    · obtain ⟨b0, b1, _, b3⟩ := hs.now.hp _ _ (mem_hget g0)
      obtain ⟨k0, k1, ⟨arr, k2, k3, k4⟩, _⟩ := hs.now.hp _ _ (mem_hget g1)
      have k2 := k2.zero (by decide)
      have := last_c (ρ 0).blk (.slice (some ⟨(ρ 1).blk, 0, none⟩) l.length c) l.length (fun j => l.getD j ver0) hl fis (CV.denL ρ caps).toArray p w (by simp [World.cell?, b1, CV.den, k0]) (lt_of_heap b1)
        (.inr ⟨(ρ 1).blk, c, rfl, lt_of_heap k2, fun j hj q hq => by
          have := (k4 j hj).2 q hq
          rw [← List.getElem?_map, map_v] at this
          simp only [World.cell?, k2]
          have hv : vrow l j = (l.getD j ver0).l := by simp [vrow, List.getD_eq_getElem?_getD, List.getElem?_eq_getElem hj]
          rw [hv] at this
          rw [← this]; simp⟩) hcf hp1'
      simpa [SV.denL, SV.den, CV.den, b0, rdL] using this
  · simp [SV.den, SV.denL, CV.den, CV.denL, Ver.s, Ver.c]
theorem imm_box {C : Cx} {ρ : Env} {w W : World} {n ty : Nat} {cs : List CV} (h : (Blk.cells ty cs).holds C ρ n w) (hW : Below w.heap.size w W) (vs : List Value) (hv : cs.map (CV.den ρ) = vs) : (ρ n).base = 0 ∧ ImmAt W (ρ n).blk 0 vs.length 1 fun _ => vs := by
  obtain ⟨h0, h1, h2, h3⟩ := h
  have hlt := lt_of_heap h1
  have hh : W.heap[(ρ n).blk]? = some (.cells vs.toArray ty (0, 0)) := by rw [hW.block _ hlt, h1, hv]
  refine ⟨h0, ⟨fun _ => lt_of_heap hh, fun i hi => rfl, fun i hi u hu => ?_⟩⟩
  have : i = 0 := by omega
  subst this
  simp [World.cell?, hh]
theorem cread_c (g : Nat) (l : List Ver) (hl : l.length ≤ 1000000) (at' : V4) (fp : List Nat) (w : World) (h : On g (CSh l) fp w) : Calls Try.prog 56 #[gptr g, at'.v] w (TurnK g fp (.tuple #[((rdL l fun x => x.st.seen at').getD ver0).val, .bool (rdL l fun x => x.st.seen at').isSome]) (CSh l) w) := by
  refine on_calls2 h 11 _ Try.func56 rfl Try.ntmps56 Try.results56 [.c (.p 0 0 0), sv4 at'.a at'.b at'.c at'.d] (by simp) (fun ρ' h1 h2 => by simp [SV.denL, SV.den, CV.den, CV.denL, gptr, h1, h2]) (fun ρ nx hp hsh hg hb hh => ?_)
  have hsh0 := hsh
  rcases hsh with ⟨hn, rfl, rfl⟩ | ⟨c, hc, rfl, rfl⟩
  all_goals
    simp only [go_sem]
    first
      | refine last_s l (by omega) (.inl ⟨rfl, hn⟩) 79 _ (fun x => x.st.seen at') Try.call79 (fun ρ w a hs x W hW => ?_) ?_
      | refine last_s l (by omega) (.inr ⟨_, _, rfl, rfl⟩) 79 _ (fun x => x.st.seen at') Try.call79 (fun ρ w a hs x W hW => ?_) ?_
    · obtain ⟨k0, k1⟩ := imm_box (hs.now.hp _ _ (List.mem_cons_of_mem _ (List.mem_cons_self ..))) hW [vu at'.a, vu at'.b, vu at'.c, vu at'.d] rfl
      have := read1_c W _ at' x k1
      simpa [CV.denL, CV.den, k0] using this
    · simp only [go_sem, Ver.s, Ver.c]
      refine fun ρ' a w' hs' hag => ?_
      exact ⟨by simp [SV.den, SV.denL, CV.den, CV.denL, Ver.val, Ver.l], (by first | exact on_same rfl rfl (hs'.sub (hp' := [(0, .cells 141 [.v (.slice none 0 0)])]) ⟨rfl, trivial⟩ (by simp)) hag hh rfl hsh0 hg hb | exact on_same rfl rfl (hs'.sub (hp' := [(0, .cells 141 [.s 1 0 l.length c]), (1, .rows 126 9 l.length c fun j => (vrow l j).map .v)]) ⟨rfl, rfl, trivial⟩ (by simp)) hag hh rfl hsh0 hg hb)⟩
theorem clast_c (g : Nat) (l : List Ver) (hl : l.length ≤ 1000000) (fp : List Nat) (w : World) (h : On g (CSh l) fp w) : Calls Try.prog 57 #[gptr g] w (TurnK g fp (.tuple #[((rdL l fun _ => true).getD ver0).val, .bool (rdL l fun _ => true).isSome]) (CSh l) w) := by
  refine on_calls2 h 8 _ Try.func57 rfl Try.ntmps57 Try.results57 [.c (.p 0 0 0)] (by simp) (fun ρ' h1 h2 => by simp [SV.denL, SV.den, CV.den, CV.denL, gptr, h1, h2]) (fun ρ nx hp hsh hg hb hh => ?_)
  have hsh0 := hsh
  rcases hsh with ⟨hn, rfl, rfl⟩ | ⟨c, hc, rfl, rfl⟩
  all_goals
    simp only [go_sem]
    first
      | refine last_s l (by omega) (.inl ⟨rfl, hn⟩) 80 _ (fun x => true) Try.call80 (fun ρ w a hs x W hW => ?_) ?_
      | refine last_s l (by omega) (.inr ⟨_, _, rfl, rfl⟩) 80 _ (fun x => true) Try.call80 (fun ρ w a hs x W hW => ?_) ?_
    · simpa [CV.denL, CV.den] using last1_c W x
    · simp only [go_sem, Ver.s, Ver.c]
      refine fun ρ' a w' hs' hag => ?_
      exact ⟨by simp [SV.den, SV.denL, CV.den, CV.denL, Ver.val, Ver.l], (by first | exact on_same rfl rfl (hs'.sub (hp' := [(0, .cells 141 [.v (.slice none 0 0)])]) ⟨rfl, trivial⟩ (by simp)) hag hh rfl hsh0 hg hb | exact on_same rfl rfl (hs'.sub (hp' := [(0, .cells 141 [.s 1 0 l.length c]), (1, .rows 126 9 l.length c fun j => (vrow l j).map .v)]) ⟨rfl, rfl, trivial⟩ (by simp)) hag hh rfl hsh0 hg hb)⟩
end Go.Proofs.Ytagjblkfgjcmnaa.CW
namespace Go.Proofs.Ytagjblkfgjcmnaa.CW
open Go.RowKit Go.Sx
attribute [local go_sem ↓] reduceIte
attribute [local go_sem] Nat.reduceEqDiff Nat.reduceLT Nat.reduceLeDiff Nat.reduceAdd Nat.reduceMul Nat.reduceSub Nat.reduceDiv Nat.reduceMod Int.reduceToNat Int.reduceLT Int.reduceLE Int.reduceAdd Int.reduceSub Int.reduceMul Int.reduceEq Int.reduceNeg reduceCtorEq or_false false_or decide_true decide_false Int.cast_ofNat_Int Nat.zero_add Nat.add_zero Int.toNat_natCast Option.isNone_none Option.isNone_some Bool.not_true Bool.not_false Bool.xor_true Bool.xor_false Bool.true_xor Bool.false_xor Bool.and_true Bool.true_and Bool.and_false Bool.false_and eq_self ne_eq not_false_eq_true not_true_eq_false true_and and_true and_self

def Srt (l : List Ver) : Prop := l.Pairwise fun x y => x.st.ord y.st < 0
def pos (l : List Ver) (s : Stp) : Nat := (l.takeWhile fun x => decide (x.st.ord s < 0)).length
def has (l : List Ver) (s : Stp) : Bool := l.any fun x => decide (x.st = s)
theorem pos_le (l : List Ver) (s : Stp) : pos l s ≤ l.length := by
  unfold pos
  exact List.Sublist.length_le (List.takeWhile_sublist _)
theorem pos_of {s : Stp} : ∀ {l : List Ver} {i : Nat}, i ≤ l.length → (∀ p, p < i → ∀ x, l[p]? = some x → x.st.ord s < 0) → (∀ x, l[i]? = some x → 0 ≤ x.st.ord s) → pos l s = i
  | [], i, hi, _, _ => by simp at hi; subst hi; rfl
  | y :: l, 0, _, _, h2 => by
    have := h2 y rfl
    simp [pos, List.takeWhile, show ¬ y.st.ord s < 0 by omega]
  | y :: l, i + 1, hi, h1, h2 => by
    have := h1 0 (by omega) y rfl
    have ih := pos_of (l := l) (i := i) (by simpa using hi) (fun p hp x hx => h1 (p + 1) (by omega) x (by simpa using hx)) (fun x hx => h2 x (by simpa using hx))
    simp only [pos, List.takeWhile, this, decide_true, List.length_cons] at ih ⊢
    rw [ih]
theorem Srt.get {l : List Ver} (h : Srt l) {i j : Nat} (hij : i < j) {x y : Ver} (hx : l[i]? = some x) (hy : l[j]? = some y) : x.st.ord y.st < 0 := by
  obtain ⟨h1, rfl⟩ := List.getElem?_eq_some_iff.1 hx
  obtain ⟨h2, rfl⟩ := List.getElem?_eq_some_iff.1 hy
  exact List.pairwise_iff_getElem.1 h i j h1 h2 hij
theorem has_of {l : List Ver} {s : Stp} (hs : Srt l) {i : Nat} (h1 : ∀ p, p < i → ∀ x, l[p]? = some x → x.st.ord s < 0) (h2 : ∀ p, i ≤ p → ∀ x, l[p]? = some x → 0 ≤ x.st.ord s) : has l s = (match l[i]? with | some x => decide (x.st.ord s = 0) | none => false) := by
  rw [Bool.eq_iff_iff]
  unfold has
  rw [List.any_eq_true]
  constructor
  · rintro ⟨x, hx, he⟩
    have he : x.st = s := by simpa using he
    obtain ⟨p, hp, rfl⟩ := List.getElem_of_mem hx
    have hp' := List.getElem?_eq_getElem hp
    have h0 : (l[p]).st.ord s = 0 := by rw [he]; exact ord_self s
    have hpi : i ≤ p := by
      rcases Nat.lt_or_ge p i with h | h
      · have := h1 p h _ hp'; omega
      · exact h
    rcases Nat.lt_or_ge i p with h | h
    · have hil : i < l.length := by omega
      have hi' := List.getElem?_eq_getElem hil
      have k1 := hs.get h hi' hp'
      rw [he] at k1
      have := h2 i (by omega) _ hi'
      omega
    · have : i = p := by omega
      rw [this, hp']; simpa using h0
  · intro h
    cases hi : l[i]? with
    | none => rw [hi] at h; cases h
    | some x =>
      rw [hi] at h
      exact ⟨x, List.mem_of_getElem? hi, by simpa using ord_eq (by simpa using h)⟩
theorem add1_s {C : Cx} {fr : List (Nat × SV)} {hp : List (Nat × Blk)} {nx : Nat} {d : Option Tmp} {K : St → Prop} {x : Ver} {s : Stp} (h : dOk C.N d ∧ kput K ⟨fr, hp, nx⟩ d (.c (ci (x.st.ord s)))) :
    SCall Try.prog C 66 [.agg [cu x.st.v.a, cu x.st.v.b, cu x.st.v.c, cu x.st.v.d, ci x.st.dc, .v (.string x.x.b), .v (.string x.x.k), .v (.string x.x.x), .v (.bool x.x.g)], sst s.v.a s.v.b s.v.c s.v.d s.dc] d K ⟨fr, hp, nx⟩ :=
  scall_pure [x.val, s.val] _ _ Try.call66 (add1_c · x s) rfl (fun _ => rfl) (fun _ => rfl) h
theorem half (a : Nat) : (a : Int).fdiv (2 ^ (min 1 64)) = ((a / 2 : Nat) : Int) := by
  rw [Int.fdiv_eq_ediv_of_nonneg _ (by decide)]
  simp
set_option maxRecDepth 100000 in
theorem bs_c (w : World) (l : List Ver) (s : Stp) (hs : Srt l) (hl : l.length ≤ 1000000) {b0 o0 : Nat} {x0 : CV} {v0 : Value} (i0 : ImmAt w b0 o0 9 l.length (vrow l)) (l0 : LArg 0 l.length x0) (e0 : ∀ ρ : Env, ρ 0 = ⟨b0, o0, 9⟩ → x0.den ρ = v0) :
    Calls Try.prog 65 #[v0, s.val, .func (.func 66) #[] #[]] w fun e w' => e = .returned (.tuple #[.int .i64 (pos l s), .bool (has l s)]) ∧ Below w.heap.size w w' := by
  refine calls_imm [⟨b0, o0, 9, l.length, vrow l⟩] (by simp; exact i0) 49 _ Try.func65 rfl Try.ntmps65 Try.results65 [.c x0, sst s.v.a s.v.b s.v.c s.v.d s.dc, .c (.fn 66 [])] (by simp) (fun ρ h => by simp [SV.denL, SV.den, CV.den, CV.denL, e0 ρ (h 0 (by simp)), Stp.val, Stp.l]) ?_
  have n0 := l0.len
  simp only [immL, List.length_cons, List.length_nil, Nat.zero_add, Nat.reduceAdd]
  simp only [go_sem, n0]
  refine sloop (fun p : Nat × Nat => ⟨[(9, .c (.v (.int .i64 (p.1 : Nat)))), (10, .c (.v (.int .i64 (p.2 : Nat)))), (8, .c (.v (.int .i64 l.length))), (4, .c (.p 1 0 0)), (0, .c x0), (2, .c (.fn 66 []))], [(1, .cells 35 [cu s.v.a, cu s.v.b, cu s.v.c, cu s.v.d, ci s.dc]), (0, .imm 9 l.length fun i => (vrow l i).map .v)], 2⟩) (fun p => p.1 ≤ p.2 ∧ p.2 ≤ l.length ∧ (∀ q, q < p.1 → ∀ x, l[q]? = some x → x.st.ord s < 0) ∧ ∀ q, p.2 ≤ q → ∀ x, l[q]? = some x → 0 ≤ x.st.ord s) (fun p => p.2 - p.1) (0, l.length)
    ⟨by simp, by simp, fun q hq => by simp at hq, fun q hq x hx => by
      have := (List.getElem?_eq_some_iff.1 hx).1
      have hq : l.length ≤ q := hq
      omega⟩ (ent_drop ⟨rfl, rfl, rfl, rfl, rfl, rfl, trivial⟩ ⟨rfl, rfl, trivial⟩ (by simp)) (fun p hp => ?_)
  obtain ⟨i, j⟩ := p
  obtain ⟨hij, hj, h1, h2⟩ : i ≤ j ∧ j ≤ l.length ∧ (∀ q, q < i → ∀ x, l[q]? = some x → x.st.ord s < 0) ∧ ∀ q, j ≤ q → ∀ x, l[q]? = some x → 0 ≤ x.st.ord s := hp
  by_cases h : i < j
  · obtain ⟨m, hm⟩ : ∃ m, (i + j) / 2 = m := ⟨_, rfl⟩
    have hm1 : i ≤ m ∧ m < j := by omega
    obtain ⟨x, hx⟩ : ∃ x, l[m]? = some x := ⟨_, List.getElem?_eq_getElem (by omega)⟩
    have hrow := vrow_eq hx
    have hhalf := half (i + j)
    rw [hm] at hhalf
    have hcast : ((i : Int) + j) = ((i + j : Nat) : Int) := by omega
    obtain ⟨cp, rfl⟩ := l0.pos (by omega)
    simp (disch := omega) only [go_sem, wrapI64, wrapu64, wrapu32, wrapu8, ltT, ltF, leT, leF, eqF, eqT, nltT, nleT, neqFn, hcast, hhalf]
    refine sdraw0 [.t 0, .t 1, .t 2, .t 3, .t 4, .t 5, .r 6, .t 7] 8 rfl (by kernel_rfl) ?_
    simp (disch := omega) only [go_sem, wrapI64, wrapu64, wrapu32, wrapu8, ltT, ltF, leT, leF, eqF, eqT, nltT, nleT, neqFn, hrow]
    refine add1_s (x := x) (s := s) ?_
    cases hc : decide (x.st.ord s < 0)
    · simp (disch := omega) only [go_sem, wrapI64, wrapu64, wrapu32, wrapu8, ltT, ltF, leT, leF, eqF, eqT, nltT, nleT, neqFn, hc]
      refine ⟨(i, m), ⟨hm1.1, by omega, h1, fun q hq y hy => ?_⟩, by show m - i < j - i; omega, ent_drop ⟨rfl, rfl, rfl, rfl, rfl, rfl, trivial⟩ ⟨rfl, rfl, trivial⟩ (by simp)⟩
      have hq : m ≤ q := hq
      rcases Nat.lt_or_ge m q with hmq | hmq
      · have k1 := hs.get hmq hx hy
        have k2 : 0 ≤ x.st.ord s := by simpa using hc
        have k3 := ord_neg x.st y.st
        have k4 := ord_neg x.st s
        have k5 := ord_neg y.st s
        by_cases h9 : y.st.ord s < 0
        · have := ord_trans k1 h9; omega
        · omega
      · have : q = m := by omega
        rw [this, hx] at hy; injection hy with hy; rw [← hy]; simpa using hc
    · simp (disch := omega) only [go_sem, wrapI64, wrapu64, wrapu32, wrapu8, ltT, ltF, leT, leF, eqF, eqT, nltT, nleT, neqFn, hc]
      refine ⟨(m + 1, j), ⟨by show m + 1 ≤ j; omega, hj, fun q hq y hy => ?_, h2⟩, by show j - (m + 1) < j - i; omega, ent_drop ⟨rfl, rfl, rfl, rfl, rfl, rfl, trivial⟩ ⟨rfl, rfl, trivial⟩ (by simp)⟩
      have hq : q < m + 1 := hq
      have k2 : x.st.ord s < 0 := by simpa using hc
      rcases Nat.lt_or_ge q m with hmq | hmq
      · exact ord_trans (hs.get hmq hy hx) k2
      · have : q = m := by omega
        rw [this, hx] at hy; injection hy with hy; rw [← hy]; exact k2
  · have hij' : i = j := by omega
    subst hij'
    have hpos : pos l s = i := pos_of hj h1 fun x hx => h2 i (Nat.le_refl _) x hx
    have hhas := has_of hs h1 h2
    rw [hpos, hhas]
    simp (disch := omega) only [go_sem, wrapI64, wrapu64, wrapu32, wrapu8, ltT, ltF, leT, leF, eqF, eqT, nltT, nleT, neqFn]
    refine sdraw0 [.t 0, .t 1, .t 2, .t 3, .t 4, .t 5, .t 6, .t 7, .t 8, .t 9, .t 10, .r 11, .t 12, .t 13, .t 14, .t 15] 16 rfl (by kernel_rfl) ?_
    by_cases hil : i < l.length
    · obtain ⟨x, hx⟩ : ∃ x, l[i]? = some x := ⟨_, List.getElem?_eq_getElem hil⟩
      have hrow := vrow_eq hx
      obtain ⟨cp, rfl⟩ := l0.pos (by omega)
      rw [hx]
      simp (disch := omega) only [go_sem, wrapI64, wrapu64, wrapu32, wrapu8, ltT, ltF, leT, leF, eqF, eqT, nltT, nleT, neqFn, hrow]
      refine add1_s (x := x) (s := s) ?_
      simp (disch := omega) only [go_sem, wrapI64, wrapu64, wrapu32, wrapu8, ltT, ltF, leT, leF, eqF, eqT, nltT, nleT, neqFn, hrow]
      exact fun ρ a w hs _ => ⟨rfl, hs.grown⟩
    · have : l[i]? = none := List.getElem?_eq_none (by omega)
      rw [this]
      simp (disch := omega) only [go_sem, wrapI64, wrapu64, wrapu32, wrapu8, ltT, ltF, leT, leF, eqF, eqT, nltT, nleT, neqFn]
      exact fun ρ a w hs _ => ⟨rfl, hs.grown⟩
end Go.Proofs.Ytagjblkfgjcmnaa.CW
namespace Go.Proofs.Ytagjblkfgjcmnaa.CW
open Go.RowKit Go.Sx
attribute [local go_sem ↓] reduceIte
attribute [local go_sem] Nat.reduceEqDiff Nat.reduceLT Nat.reduceLeDiff Nat.reduceAdd Nat.reduceMul Nat.reduceSub Nat.reduceDiv Nat.reduceMod Int.reduceToNat Int.reduceLT Int.reduceLE Int.reduceAdd Int.reduceSub Int.reduceMul Int.reduceEq Int.reduceNeg reduceCtorEq or_false false_or decide_true decide_false Int.cast_ofNat_Int Nat.zero_add Nat.add_zero Int.toNat_natCast Option.isNone_none Option.isNone_some Bool.not_true Bool.not_false Bool.xor_true Bool.xor_false Bool.true_xor Bool.false_xor Bool.and_true Bool.true_and Bool.and_false Bool.false_and eq_self ne_eq not_false_eq_true not_true_eq_false true_and and_true and_self

def insB (l : List Ver) (s : Stp) : Bool := !has l s && s.right
def ins (l : List Ver) (s : Stp) (x : Wr) : List Ver := if insB l s then l.take (pos l s) ++ ⟨s, x⟩ :: l.drop (pos l s) else l
theorem ins_len {l : List Ver} {s : Stp} {x : Wr} (h : insB l s = true) : (ins l s x).length = l.length + 1 := by
  have := pos_le l s
  unfold ins; rw [if_pos h]; simp; omega
theorem vrow_ins {l : List Ver} {s : Stp} {x : Wr} (h : insB l s = true) (j : Nat) : vrow (ins l s x) j = if j < pos l s then vrow l j else if j = pos l s then (⟨s, x⟩ : Ver).l else vrow l (j - 1) := by
  have hp := pos_le l s
  unfold ins; rw [if_pos h]; unfold vrow
  have ht : (l.take (pos l s)).length = pos l s := by rw [List.length_take]; omega
  by_cases h1 : j < pos l s
  · rw [if_pos h1, List.getElem?_append_left (by omega), List.getElem?_take_of_lt h1]
  · rw [if_neg h1, List.getElem?_append_right (by omega), ht]
    by_cases h2 : j = pos l s
    · rw [if_pos h2, h2]; simp
    · rw [if_neg h2, show j - pos l s = (j - pos l s - 1) + 1 by omega, List.getElem?_cons_succ, List.getElem?_drop]
      congr 3; omega
def nrow (s : Stp) (x : Wr) : List CV := [cu s.v.a, cu s.v.b, cu s.v.c, cu s.v.d, ci s.dc, .v (.string x.b), .v (.string x.k), .v (.string x.x), .v (.bool x.g)]
theorem vrow_c {l : List Ver} {j : Nat} (h : j < l.length) : ((vrow l j).map CV.v).all one1 = true := by
  simp [vrow, List.getElem?_eq_getElem h, Ver.l, one1]
set_option maxHeartbeats 2000000 in
set_option maxRecDepth 100000 in
theorem cadd_c (g : Nat) (l : List Ver) (hs : Srt l) (hl : l.length ≤ 100000) (s : Stp) (x : Wr) (fp : List Nat) (w : World) (h : On g (CSh l) fp w) :
    Calls Try.prog 40 #[gptr g, s.val, .agg #[.string x.b, .string x.k, .string x.x, .bool x.g]] w (Turn g fp (.bool (insB l s)) (CSh (ins l s x)) w) := by
  refine on_calls h 37 _ Try.func40 rfl Try.ntmps40 Try.results40 [.c (.p 0 0 0), sst s.v.a s.v.b s.v.c s.v.d s.dc, .agg [.v (.string x.b), .v (.string x.k), .v (.string x.x), .v (.bool x.g)]] (by simp) (fun ρ' h1 h2 => by simp [SV.denL, SV.den, CV.den, CV.denL, gptr, h1, h2, Stp.val, Stp.l]) (fun ρ nx hp hsh hg hb => ?_)
  have hpl := pos_le l s
  rcases hsh with ⟨hn, rfl, rfl⟩ | ⟨c, ⟨hc, hc0⟩, rfl, rfl⟩
  · have hl0 : l.length = 0 := by rw [hn]; rfl
    have hp0 : pos l s = 0 := by omega
    have keep : ∀ (b : Bool) (fr : List (Nat × SV)) (hp : List (Nat × Blk)) (nx : Nat) (ρ' : Env) (a : Act) (w' : World), insB l s = false → Sat ⟨w, (· ∈ fp), 37, 1, ρ⟩ ⟨fr, hp, nx⟩ ρ' a w' → (∀ k, k < 1 → ρ' k = ρ k) → hget hp 0 = some (.cells 141 [.v (.slice none 0 0)]) → Turn g fp (.bool (insB l s)) (CSh (ins l s x)) w (.returned (.bool false)) w' := by
      intro b fr hp nx ρ' a w' hi hs' hag h0
      obtain ⟨fp', hon, hch⟩ := ch_end0 (l := ins l s x) rfl rfl hs' ((congrArg Nm.blk (hag 0 (by omega))).trans hg) ((congrArg Nm.base (hag 0 (by omega))).trans hb) h0 (by unfold ins; rw [hi, hn]; rfl)
      exact ⟨fp', by rw [hi], hon, hch⟩
    simp only [go_sem]
    refine sdraw0 [.t 0, .t 1, .t 2, .t 3, .t 4, .r 5, .t 6, .t 7, .t 8, .t 9, .t 10] 11 rfl (by kernel_rfl) ?_
    simp only [go_sem]
    refine scall_keep (.tup [.c (.v (.int .i64 (pos l s))), .c (.v (.bool (has l s)))]) Try.call65 (fun ρ w a hs' => ?_) rfl (fun _ _ _ => rfl) ?_
    · have := bs_c w l s hs (by omega) (b0 := 0) (o0 := 0) (x0 := .v (.slice none 0 0)) (v0 := .slice none 0 0) ⟨fun h => by omega, fun i hi => by omega, fun i hi => by omega⟩ (.inl ⟨rfl, hl0⟩) (fun _ _ => rfl)
      simpa [SV.denL, SV.den, CV.den, CV.denL, Stp.val, Stp.l] using this
    cases hh : has l s
    case true =>
      simp only [go_sem]
      exact fun ρ' a w' hs' hag => keep false _ _ _ _ _ _ (by unfold insB; rw [hh]; rfl) hs' hag rfl
    simp only [go_sem]
    refine sright_s ?_
    cases hr : s.right
    · simp only [go_sem]
      exact fun ρ' a w' hs' hag => keep false _ _ _ _ _ _ (by unfold insB; rw [hh, hr]; rfl) hs' hag rfl
    have hi : insB l s = true := by unfold insB; rw [hh, hr]; rfl
    simp (disch := omega) only [go_sem, wrapI64, wrapu64, wrapu32, wrapu8, ltT, ltF, leT, leF, eqF, eqT, nltT, nleT, neqFn, hp0]
    refine sdraw [.t 0, .t 1, .t 2, .t 3, .t 4, .t 5, .t 6, .t 7, .t 8, .r 9, .r 10, .t 11, .t 12, .r 13] 13 [(1, .cells 35 [cu s.v.a, cu s.v.b, cu s.v.c, cu s.v.d, ci s.dc]), (2, .cells 42 [.v (.string x.b), .v (.string x.k), .v (.string x.x), .v (.bool x.g)]), (0, .cells 141 [.v (.slice none 0 0)])] rfl (by kernel_rfl) ⟨rfl, rfl, rfl, trivial⟩ ?_
    simp (disch := omega) only [go_sem, wrapI64, wrapu64, wrapu32, wrapu8, ltT, ltF, leT, leF, eqF, eqT, nltT, nleT, neqFn, hp0]
    refine scall_in 95 _ Try.func68 rfl Try.ntmps68 Try.results68 Try.call68 (by simp only [go_sem]) (fun _ _ => ?_)
    simp (disch := omega) only [go_sem, wrapI64, wrapu64, wrapu32, wrapu8, ltT, ltF, leT, leF, eqF, eqT, nltT, nleT, neqFn]
    refine sappend_nil rfl rfl tkind139 tsz126 tby126 tz126 rfl ⟨⟨rfl, by decide, by decide⟩, by decide, by decide, by decide⟩ ?_
    refine ⟨by show (25 : Nat) < 95; omega, fun c' hc' => ?_⟩
    simp only [go_sem]
    refine fun ρ' a w' hs' hag => ?_
    have hlen : 1 = (ins l s x).length := by rw [ins_len hi, hl0]
    obtain ⟨fp', hon, hch⟩ := ch_end1 (l := ins l s x) rfl rfl hs' ((congrArg Nm.blk (hag 0 Nat.zero_lt_one)).trans hg) ((congrArg Nm.base (hag 0 Nat.zero_lt_one)).trans hb) Nat.zero_lt_one 4 c' rfl (by omega) rfl hlen (Nat.le_refl _) (fun j hj => by
      have : j = 0 := by omega
      subst this
      rw [vrow_ins hi, if_neg (by omega), if_pos hp0.symm]; rfl) ⟨hc', by omega⟩
    exact ⟨fp', by rw [hi]; rfl, hon, hch⟩
  · have keep : ∀ (fr : List (Nat × SV)) (hp : List (Nat × Blk)) (nx : Nat) (ρ' : Env) (a : Act) (w' : World), insB l s = false → Sat ⟨w, (· ∈ fp), 37, 2, ρ⟩ ⟨fr, hp, nx⟩ ρ' a w' → (∀ k, k < 2 → ρ' k = ρ k) → hget hp 0 = some (.cells 141 [.s 1 0 l.length c]) → hget hp 1 = some (.rows 126 9 l.length c fun j => (vrow l j).map .v) → Turn g fp (.bool (insB l s)) (CSh (ins l s x)) w (.returned (.bool false)) w' := by
      intro fr hp nx ρ' a w' hi hs' hag h0 h1
      have hil : ins l s x = l := by unfold ins; rw [hi]; rfl
      obtain ⟨fp', hon, hch⟩ := ch_end1 (l := ins l s x) rfl rfl hs' ((congrArg Nm.blk (hag 0 (by omega))).trans hg) ((congrArg Nm.base (hag 0 (by omega))).trans hb) (by show 0 < 2; omega) 1 c h0 (by omega) h1 (by rw [hil]) (Nat.le_refl _) (fun j hj => by rw [hil]) ⟨hc, hc0⟩
      exact ⟨fp', by rw [hi], hon, hch⟩
    simp only [go_sem]
    refine sdraw0 [.t 0, .t 1, .t 2, .t 3, .t 4, .r 5, .t 6, .t 7, .t 8, .t 9, .t 10] 11 rfl (by kernel_rfl) ?_
    simp only [go_sem]
    refine scall_keep (.tup [.c (.v (.int .i64 (pos l s))), .c (.v (.bool (has l s)))]) Try.call65 (fun ρ w a hs' => ?_) rfl (fun _ _ _ => rfl) ?_
    · have hh := hs'.now.hp _ _ (mem_hget (n := 1) rfl)
      have := bs_c w l s hs (by omega) (b0 := (ρ 1).blk) (o0 := 0) (x0 := .s 0 0 l.length c) (v0 := .slice (some ⟨(ρ 1).blk, 0, none⟩) l.length c) (by
        have h3 := imm_of_rows (rv := vrow l) hh fun i _ => rfl
        rw [hh.1] at h3; exact h3) (.inr ⟨c, rfl⟩) (fun ρ' h => by simp [CV.den, h])
      simpa [SV.denL, SV.den, CV.den, CV.denL, Stp.val, Stp.l, hh.1] using this
    cases hh : has l s
    case true =>
      simp only [go_sem]
      exact fun ρ' a w' hs' hag => keep _ _ _ _ _ _ (by unfold insB; rw [hh]; rfl) hs' hag rfl rfl
    simp only [go_sem]
    refine sright_s ?_
    cases hr : s.right
    · simp only [go_sem]
      exact fun ρ' a w' hs' hag => keep _ _ _ _ _ _ (by unfold insB; rw [hh, hr]; rfl) hs' hag rfl rfl
    have hi : insB l s = true := by unfold insB; rw [hh, hr]; rfl
    obtain ⟨i, hpi⟩ : ∃ i, pos l s = i := ⟨_, rfl⟩
    rw [hpi] at hpl
    simp (disch := omega) only [go_sem, wrapI64, wrapu64, wrapu32, wrapu8, ltT, ltF, leT, leF, eqF, eqT, nltT, nleT, neqFn, hpi]
    refine sdraw [.t 0, .t 1, .t 2, .t 3, .t 4, .t 5, .t 6, .t 7, .t 8, .r 9, .r 10, .t 11, .t 12, .r 13] 13 [(2, .cells 35 [cu s.v.a, cu s.v.b, cu s.v.c, cu s.v.d, ci s.dc]), (3, .cells 42 [.v (.string x.b), .v (.string x.k), .v (.string x.x), .v (.bool x.g)]), (0, .cells 141 [.s 1 0 l.length c])] rfl (by kernel_rfl) ⟨rfl, rfl, rfl, trivial⟩ ?_
    simp (disch := omega) only [go_sem, wrapI64, wrapu64, wrapu32, wrapu8, ltT, ltF, leT, leF, eqF, eqT, nltT, nleT, neqFn, hpi]
    refine scall_in 95 _ Try.func68 rfl Try.ntmps68 Try.results68 Try.call68 (by simp only [go_sem]) (fun _ _ => ?_)
    have hlen := ins_len (x := x) hi
    have hone3 : ∀ q, q < 1 → (rowsOf 9 (nrow s x) (0 + q)).all one1 = true := fun q hq => by
      have : q = 0 := by omega
      subst this; rfl
    by_cases hin : i = l.length
    · simp (disch := omega) only [go_sem, wrapI64, wrapu64, wrapu32, wrapu8, ltT, ltF, leT, leF, eqF, eqT, nltT, nleT, neqFn, hin]
      refine sappend rfl rfl tkind139 tsz126 tby126 tz126 rfl rfl ⟨⟨rfl, by decide, by decide, Nat.le_refl _⟩, by decide, by omega, by omega⟩ (fun q hq => by
        have : q = 0 := by omega
        subst this; rfl) ⟨by show (25 : Nat) < 95; omega, fun c' hc' => ?_⟩
      simp only [go_sem]
      refine fun ρ' a w' hs' hag => ?_
      obtain ⟨fp', hon, hch⟩ := ch_end1 (l := ins l s x) rfl rfl hs' ((congrArg Nm.blk (hag 0 Nat.zero_lt_two)).trans hg) ((congrArg Nm.base (hag 0 Nat.zero_lt_two)).trans hb) Nat.zero_lt_two 5 c' rfl (by omega) rfl hlen.symm (Nat.le_refl _) (fun j hj => by
        rw [vrow_ins hi, hpi]
        unfold rapp
        by_cases h1 : j < l.length
        · rw [if_pos (by omega), if_pos h1]
        · rw [if_neg (by omega), if_pos (by omega), if_neg h1, show j - l.length = 0 by omega]; rfl) ⟨hc', by omega⟩
      exact ⟨fp', by rw [hi]; rfl, hon, hch⟩
    have hlt : i < l.length := by omega
    by_cases hcap : l.length + 1 ≤ c
    · have hcn : c ≠ l.length := by omega
      have hci : c ≠ i := by omega
      simp (disch := omega) only [go_sem, wrapI64, wrapu64, wrapu32, wrapu8, ltT, ltF, leT, leF, eqF, eqT, nltT, nleT, neqFn]
      refine scall_extern (f := 85) (fn := Try.f85) (e := Extern.SlicesOverlaps.overlaps #[139, 139] #[4]) Try.func85 (by kernel_rfl) (by kernel_rfl) (by kernel_rfl) (by kernel_rfl) (.bool false) rfl (fun ρ a w hs' => overlaps_run hs' tkind139 tsz126 rfl rfl (by decide) ⟨by decide, hc0⟩ (by decide)) ?_
      simp (disch := omega) only [go_sem, wrapI64, wrapu64, wrapu32, wrapu8, ltT, ltF, leT, leF, eqF, eqT, nltT, nleT, neqFn]
      refine sdraw [.t 0, .t 1, .t 2, .t 3, .t 4, .t 5, .t 6, .t 7, .r 8] 8 [(1, _)] rfl (by kernel_rfl) ⟨rfl, trivial⟩ ?_
      simp (disch := omega) only [go_sem, wrapI64, wrapu64, wrapu32, wrapu8, ltT, ltF, leT, leF, eqF, eqT, nltT, nleT, neqFn]
      refine scopy (q := l.length - i) rfl rfl tkind139 tsz126 rfl rfl (by omega) ⟨by decide, by omega, by omega, by omega⟩ (fun p hp => vrow_c (by omega)) ⟨by show (77 : Nat) < 95; omega, ?_⟩
      simp (disch := omega) only [go_sem, wrapI64, wrapu64, wrapu32, wrapu8, ltT, ltF, leT, leF, eqF, eqT, nltT, nleT, neqFn]
      refine scopy (q := 1) rfl rfl tkind139 tsz126 rfl rfl (by omega) ⟨by decide, by omega, by omega, by omega⟩ (fun p hp => by
        have : p = 0 := by omega
        subst this; rfl) ⟨by show (82 : Nat) < 95; omega, ?_⟩
      simp only [go_sem]
      refine fun ρ' a w' hs' hag => ?_
      obtain ⟨fp', hon, hch⟩ := ch_end1 (l := ins l s x) rfl rfl hs' ((congrArg Nm.blk (hag 0 Nat.zero_lt_two)).trans hg) ((congrArg Nm.base (hag 0 Nat.zero_lt_two)).trans hb) Nat.zero_lt_two 1 c rfl (by omega) rfl hlen.symm (by omega) (fun j hj => by
        rw [vrow_ins hi, hpi]
        have hij : ((i : Int) + 1).toNat = i + 1 := by omega
        unfold rput
        rw [hij]
        by_cases h1 : j < i
        · rw [if_pos h1, if_neg (by omega), if_neg (by omega)]
        · by_cases h2 : j = i
          · subst h2
            rw [if_neg h1, if_pos rfl, if_pos (by omega), Nat.sub_self]; rfl
          · rw [if_neg h1, if_neg h2, if_neg (by omega), if_pos (by omega)]
            show _ = (vrow l _).map _
            rw [show i + (j - (i + 1)) = j - 1 by omega]) ⟨by omega, hc0⟩
      exact ⟨fp', by rw [hi]; rfl, hon, hch⟩
    · obtain ⟨k, hk, hk1⟩ : ∃ k : Nat, (l.length : Int) + 1 - i = k ∧ i + k = l.length + 1 := ⟨l.length + 1 - i, by omega, by omega⟩
      simp (disch := omega) only [go_sem, wrapI64, wrapu64, wrapu32, wrapu8, ltT, ltF, leT, leF, eqF, eqT, nltT, nleT, neqFn, hk]
      refine sappend_z (n := i) (k := k) rfl rfl tkind139 tint3 tsz126 tby126 tz126 rfl ⟨⟨rfl, by decide, by omega⟩, by omega, by omega, by omega, by omega⟩ ⟨by show (40 : Nat) < 95; omega, fun c' hc' => ?_⟩
      have hci : c' ≠ i := by omega
      have hci1 : c' ≠ i + 1 ∨ c' = i + 1 := by omega
      simp (disch := omega) only [go_sem, wrapI64, wrapu64, wrapu32, wrapu8, ltT, ltF, leT, leF, eqF, eqT, nltT, nleT, neqFn]
      refine scopy (q := 1) rfl rfl tkind139 tsz126 rfl rfl (by omega) ⟨by decide, by omega, by omega, by omega⟩ (fun p hp => by
        have : p = 0 := by omega
        subst this; rfl) ⟨by show (45 : Nat) < 95; omega, ?_⟩
      simp (disch := omega) only [go_sem, wrapI64, wrapu64, wrapu32, wrapu8, ltT, ltF, leT, leF, eqF, eqT, nltT, nleT, neqFn]
      refine sdraw [.t 0, .t 1, .t 2, .t 3, .t 4, .t 5, .t 6, .t 7, .r 8] 8 [(5, _), (1, _)] rfl (by kernel_rfl) ⟨rfl, rfl, trivial⟩ ?_
      simp (disch := omega) only [go_sem, wrapI64, wrapu64, wrapu32, wrapu8, ltT, ltF, leT, leF, eqF, eqT, nltT, nleT, neqFn]
      refine scopy (q := l.length - i) rfl rfl tkind139 tsz126 rfl rfl (by omega) ⟨by decide, by omega, by omega, by omega⟩ (fun p hp => vrow_c (by omega)) ⟨by show (54 : Nat) < 95; omega, ?_⟩
      simp only [go_sem]
      refine fun ρ' a w' hs' hag => ?_
      obtain ⟨fp', hon, hch⟩ := ch_end1 (l := ins l s x) rfl rfl hs' ((congrArg Nm.blk (hag 0 Nat.zero_lt_two)).trans hg) ((congrArg Nm.base (hag 0 Nat.zero_lt_two)).trans hb) Nat.zero_lt_two 5 c' rfl (by omega) rfl (hk1.trans hlen.symm) (by omega) (fun j hj => by
        rw [vrow_ins hi, hpi]
        have hij : ((i : Int) + 1).toNat = i + 1 := by omega
        unfold rput rapp
        rw [hij]
        by_cases h1 : j < i
        · rw [if_pos h1, if_neg (by omega), if_neg (by omega), if_pos h1]
        · by_cases h2 : j = i
          · subst h2
            rw [if_neg h1, if_pos rfl, if_neg (by omega), if_pos (by omega), Nat.sub_self]; rfl
          · rw [if_neg h1, if_neg h2, if_pos (by omega)]
            show _ = (vrow l _).map _
            rw [show i + (j - (i + 1)) = j - 1 by omega]) ⟨by omega, by omega⟩
      exact ⟨fp', by rw [hi]; rfl, hon, hch⟩
end Go.Proofs.Ytagjblkfgjcmnaa.CW
namespace Go.Proofs.Ytagjblkfgjcmnaa.CW
open Go.RowKit Go.Sx
attribute [local go_sem ↓] reduceIte
attribute [local go_sem] Nat.reduceEqDiff Nat.reduceLT Nat.reduceLeDiff Nat.reduceAdd Nat.reduceMul Nat.reduceSub Nat.reduceDiv Nat.reduceMod Int.reduceToNat Int.reduceLT Int.reduceLE Int.reduceAdd Int.reduceSub Int.reduceMul Int.reduceEq Int.reduceNeg reduceCtorEq or_false false_or decide_true decide_false Int.cast_ofNat_Int Nat.zero_add Nat.add_zero Int.toNat_natCast Option.isNone_none Option.isNone_some Bool.not_true Bool.not_false Bool.xor_true Bool.xor_false Bool.true_xor Bool.false_xor Bool.and_true Bool.true_and Bool.and_false Bool.false_and eq_self ne_eq not_false_eq_true not_true_eq_false true_and and_true and_self

theorem vrow_len {l : List Ver} {j : Nat} (h : j < l.length) : (vrow l j).length = 9 := by
  simp [vrow, List.getElem?_eq_getElem h, Ver.l]
def flt (p : Ver → Bool) (l : List Ver) (k : Nat) : List Ver := (l.take k).filter fun x => !p x
theorem flt_s {p : Ver → Bool} {l : List Ver} {k : Nat} {x : Ver} (h : l[k]? = some x) : flt p l (k + 1) = if p x then flt p l k else flt p l k ++ [x] := by
  unfold flt
  obtain ⟨h1, rfl⟩ := List.getElem?_eq_some_iff.1 h
  rw [List.take_add_one, List.getElem?_eq_getElem h1, Option.toList_some, List.filter_append]
  cases hp : p l[k] <;> simp [hp]
theorem flt_all {p : Ver → Bool} {l : List Ver} : ∀ {k : Nat}, (∀ q, q < k → ∀ x, l[q]? = some x → p x = false) → k ≤ l.length → flt p l k = l.take k
  | 0, _, _ => by simp [flt]
  | k + 1, h, hk => by
    rw [flt_s (List.getElem?_eq_getElem (by omega)), if_neg (by rw [h k (by omega) _ (List.getElem?_eq_getElem (by omega))]; simp), flt_all (fun q hq => h q (by omega)) (by omega), List.take_add_one, List.getElem?_eq_getElem (by omega)]; rfl
theorem flt_end {p : Ver → Bool} {l : List Ver} : flt p l l.length = l.filter fun x => !p x := by unfold flt; rw [List.take_length]
theorem flt_le {p : Ver → Bool} {l : List Ver} (k : Nat) : (flt p l k).length ≤ k := by
  unfold flt
  exact Nat.le_trans (List.length_filter_le _ _) (List.length_take_le _ _)
theorem vrow_app {l : List Ver} {x : Ver} {j : Nat} (h : j < l.length) : vrow (l ++ [x]) j = vrow l j := by
  unfold vrow; rw [List.getElem?_append_left h]
theorem vrow_last {l : List Ver} {x : Ver} : vrow (l ++ [x]) l.length = x.l := by
  unfold vrow; simp
def bst (l : List Ver) (h : V4) : Ver := (rdL l fun x => x.st.seen h).getD ver0
def del (l : List Ver) (h : V4) (x : Ver) : Bool := x.st.seen h && decide (x.st ≠ (bst l h).st)
def prn (l : List Ver) (h : V4) : List Ver := l.filter fun x => !del l h x
theorem prune1_s {C : Cx} {fr : List (Nat × SV)} {hp : List (Nat × Blk)} {nx : Nat} {d : Option Tmp} {K : St → Prop} {l : List Ver} {h : V4} (x : Ver) {n m : Nat}
    (h2 : hget hp n = some (.cells 33 [cu h.a, cu h.b, cu h.c, cu h.d])) (h5 : hget hp m = some (.cells 126 (bst l h).c))
    (hK : dOk C.N d ∧ kput K ⟨fr, hp, nx⟩ d (.c (.v (.bool (del l h x))))) : SCall Try.prog C 70 [.agg x.c, .c (.p n 0 0), .c (.p m 0 0)] d K ⟨fr, hp, nx⟩ := by
  refine scall_keep (.c (.v (.bool (del l h x)))) Try.call70 (fun ρ w a hs => ?_) (by simp [SV.okL, SV.ok, Ver.c]) (fun ρ ρ' _ => rfl) hK
  have hr : Below w.heap.size w w := ⟨rfl, rfl, rfl, Nat.le_refl _, fun _ _ => rfl⟩
  obtain ⟨k0, k1⟩ := imm_box (hs.now.hp _ _ (mem_hget h2)) hr [vu h.a, vu h.b, vu h.c, vu h.d] rfl
  obtain ⟨k2, k3⟩ := imm_box (hs.now.hp _ _ (mem_hget h5)) hr (bst l h).l rfl
  have := prune1_c w _ _ h (bst l h) x k1 k3
  simpa [SV.denL, SV.den, CV.den, CV.denL, k0, k2, del, Ver.val, Ver.l, Ver.c] using this
set_option maxHeartbeats 2000000 in
theorem cprune_c (g : Nat) (l : List Ver) (hl : l.length ≤ 100000) (h : V4) (fp : List Nat) (w : World) (ho : On g (CSh l) fp w) :
    Calls Try.prog 45 #[gptr g, h.v] w (Turn g fp (.int .i64 ((l.length : Int) - (prn l h).length)) (CSh (prn l h)) w) := by
  refine on_calls ho 35 _ Try.func45 rfl Try.ntmps45 Try.results45 [.c (.p 0 0 0), sv4 h.a h.b h.c h.d] (by simp) (fun ρ' h1 h2 => by simp [SV.denL, SV.den, CV.den, CV.denL, gptr, h1, h2]) (fun ρ nx hp hsh hg hb => ?_)
  rcases hsh with ⟨hn, rfl, rfl⟩ | ⟨c, ⟨hc, hc0⟩, rfl, rfl⟩
  · have hl0 : l.length = 0 := by rw [hn]; rfl
    simp only [go_sem]
    refine scall_in 11 _ Try.func56 rfl Try.ntmps56 Try.results56 Try.call56 (by simp only [go_sem]) (fun _ _ => ?_)
    simp only [go_sem]
    refine last_s l (by omega) (.inl ⟨rfl, hn⟩) 79 _ (fun x => x.st.seen h) Try.call79 (fun ρ w a hs x W hW => ?_) ?_
    · obtain ⟨k0, k1⟩ := imm_box (hs.now.hp _ _ (mem_hget (n := 2) rfl)) hW [vu h.a, vu h.b, vu h.c, vu h.d] rfl
      have := read1_c W _ h x k1
      simpa [CV.denL, CV.den, k0] using this
    rw [show (rdL l fun x => x.st.seen h).getD ver0 = bst l h from rfl]
    simp only [go_sem, Ver.s, Ver.c]
    refine scall_in 42 _ Try.func69 rfl Try.ntmps69 Try.results69 Try.call69 (by simp only [go_sem]) (fun _ _ => ?_)
    simp only [go_sem]
    refine scall_in 19 _ Try.func87 rfl Try.ntmps87 Try.results87 Try.call87 (by simp only [go_sem]) (fun _ _ => ?_)
    simp only [go_sem]
    refine sloop (fun _ : Unit => ⟨[(7, .c (.v (.int .i64 0))), (8, .c (.v (.int .i64 0)))], [(0, .cells 141 [.v (.slice none 0 0)])], 5⟩) (fun _ => True) (fun _ => 0) () trivial (ent_drop ⟨rfl, rfl, trivial⟩ ⟨rfl, trivial⟩ (by simp)) (fun _ _ => ?_)
    simp only [go_sem]
    refine fun ρ' a w' hs' hag => ?_
    have hp0 : prn l h = [] := by rw [hn]; rfl
    obtain ⟨fp', hon, hch⟩ := ch_end0 (l := prn l h) rfl rfl hs' ((congrArg Nm.blk (hag 0 Nat.zero_lt_one)).trans hg) ((congrArg Nm.base (hag 0 Nat.zero_lt_one)).trans hb) rfl hp0
    exact ⟨fp', by rw [hp0, hl0]; rfl, hon, hch⟩
  · simp only [go_sem]
    refine scall_in 11 _ Try.func56 rfl Try.ntmps56 Try.results56 Try.call56 (by simp only [go_sem]) (fun _ _ => ?_)
    simp only [go_sem]
    refine last_s l (by omega) (.inr ⟨_, _, rfl, rfl⟩) 79 _ (fun x => x.st.seen h) Try.call79 (fun ρ w a hs x W hW => ?_) ?_
    · obtain ⟨k0, k1⟩ := imm_box (hs.now.hp _ _ (mem_hget (n := 3) rfl)) hW [vu h.a, vu h.b, vu h.c, vu h.d] rfl
      have := read1_c W _ h x k1
      simpa [CV.denL, CV.den, k0] using this
    rw [show (rdL l fun x => x.st.seen h).getD ver0 = bst l h from rfl]
    simp only [go_sem, Ver.s, Ver.c]
    refine scall_in 42 _ Try.func69 rfl Try.ntmps69 Try.results69 Try.call69 (by simp only [go_sem]) (fun _ _ => ?_)
    simp only [go_sem]
    refine scall_in 19 _ Try.func87 rfl Try.ntmps87 Try.results87 Try.call87 (by simp only [go_sem]) (fun _ _ => ?_)
    simp only [go_sem]
    refine sloop (fun i : Nat => ⟨[(0, .c (.s 1 0 l.length c)), (1, .c (.fn 70 [.p 2 0 0, .p 5 0 0])), (7, .c (.v (.int .i64 l.length))), (8, .c (.v (.int .i64 i)))], [(0, .cells 141 [.s 1 0 l.length c]), (1, .rows 126 9 l.length c fun j => (vrow l j).map .v), (2, .cells 33 [cu h.a, cu h.b, cu h.c, cu h.d]), (5, .cells 126 (bst l h).c)], 6⟩) (fun i => i ≤ l.length ∧ ∀ q, q < i → ∀ x, l[q]? = some x → del l h x = false) (fun i => l.length - i) 0
      ⟨by omega, fun q hq => by omega⟩ (ent_drop ⟨rfl, rfl, rfl, rfl, trivial⟩ ⟨rfl, rfl, rfl, rfl, trivial⟩ (by simp)) (fun i hi => ?_)
    obtain ⟨hi, hnone⟩ : i ≤ l.length ∧ ∀ q, q < i → ∀ x, l[q]? = some x → del l h x = false := hi
    by_cases hil : i < l.length
    · obtain ⟨x, hx⟩ : ∃ x, l[i]? = some x := ⟨_, List.getElem?_eq_getElem hil⟩
      have hrow := vrow_eq hx
      simp (disch := omega) only [go_sem, wrapI64, wrapu64, wrapu32, wrapu8, ltT, ltF, leT, leF, eqF, eqT, nltT, nleT, neqFn, hrow]
      refine prune1_s x rfl rfl ?_
      cases hd : del l h x
      · simp (disch := omega) only [go_sem, wrapI64, wrapu64, wrapu32, wrapu8, ltT, ltF, leT, leF, eqF, eqT, nltT, nleT, neqFn]
        refine ⟨i + 1, ⟨hil, fun q hq y hy => ?_⟩, by omega, ent_drop ⟨rfl, rfl, rfl, rfl, trivial⟩ ⟨rfl, rfl, rfl, rfl, trivial⟩ (by simp)⟩
        rcases Nat.lt_or_ge q i with hqi | hqi
        · exact hnone q hqi y hy
        · have : q = i := by omega
          rw [this, hx] at hy; injection hy with hy; rw [← hy]; exact hd
      · have hf0 : flt (del l h) l (i + 1) = l.take i := by rw [flt_s hx, if_pos hd, flt_all hnone hi]
        have hf1 : (flt (del l h) l (i + 1)).length = i := by rw [hf0, List.length_take]; omega
        simp (disch := omega) only [go_sem, wrapI64, wrapu64, wrapu32, wrapu8, ltT, ltF, leT, leF, eqF, eqT, nltT, nleT, neqFn]
        refine sloop (fun p : Nat × Nat × (Nat → List CV) => ⟨[(0, .c (.s 1 0 l.length c)), (1, .c (.fn 70 [.p 2 0 0, .p 5 0 0])), (5, .c (.v (.int .i64 (p.1 : Nat)))), (6, .c (.v (.int .i64 (p.2.1 : Nat))))], [(0, .cells 141 [.s 1 0 l.length c]), (1, .rows 126 9 l.length c p.2.2), (2, .cells 33 [cu h.a, cu h.b, cu h.c, cu h.d]), (5, .cells 126 (bst l h).c)], 6⟩)
          (fun p => (p.1 = (flt (del l h) l p.2.1).length ∧ p.1 < p.2.1 ∧ p.2.1 ≤ l.length ∧ ∀ q, q < l.length → ∃ z : Ver, p.2.2 q = z.c) ∧ (∀ q, q < p.1 → p.2.2 q = (vrow (flt (del l h) l p.2.1) q).map .v) ∧ ∀ q, p.2.1 ≤ q → q < l.length → p.2.2 q = (vrow l q).map .v) (fun p => l.length - p.2.1) (i, i + 1, fun j => (vrow l j).map .v)
          ⟨⟨hf1.symm, Nat.lt_succ_self _, hil, fun q hq => ⟨_, vrow_eq (List.getElem?_eq_getElem hq)⟩⟩, fun q hq => by
            have hq : q < i := hq
            show _ = (vrow (flt (del l h) l (i + 1)) q).map CV.v
            rw [hf0]; unfold vrow; rw [List.getElem?_take_of_lt hq], fun q _ _ => rfl⟩ (ent_drop ⟨rfl, rfl, rfl, rfl, trivial⟩ ⟨rfl, rfl, rfl, rfl, trivial⟩ (by simp)) (fun p hp => ?_)
        obtain ⟨k, j, r⟩ := p
        obtain ⟨⟨hk, hkj, hj, hr0⟩, hr1, hr2⟩ : (k = (flt (del l h) l j).length ∧ k < j ∧ j ≤ l.length ∧ ∀ q, q < l.length → ∃ z : Ver, r q = z.c) ∧ (∀ q, q < k → r q = (vrow (flt (del l h) l j) q).map .v) ∧ ∀ q, j ≤ q → q < l.length → r q = (vrow l q).map .v := hp
        by_cases hjl : j < l.length
        · obtain ⟨y, hy⟩ : ∃ y, l[j]? = some y := ⟨_, List.getElem?_eq_getElem hjl⟩
          have hrow2 : r j = _ := (hr2 j (Nat.le_refl _) hjl).trans (vrow_eq hy)
          have hfs := flt_s (p := del l h) hy
          simp (disch := omega) only [go_sem, wrapI64, wrapu64, wrapu32, wrapu8, ltT, ltF, leT, leF, eqF, eqT, nltT, nleT, neqFn, hrow2]
          refine prune1_s y rfl rfl ?_
          cases hdy : del l h y
          · obtain ⟨z, hz⟩ := hr0 k (by omega)
            have hrow3 : r k = [cu z.st.v.a, cu z.st.v.b, cu z.st.v.c, cu z.st.v.d, ci z.st.dc, .v (.string z.x.b), .v (.string z.x.k), .v (.string z.x.x), .v (.bool z.x.g)] := hz
            rw [hdy, if_neg (by simp)] at hfs
            simp (disch := omega) only [go_sem, wrapI64, wrapu64, wrapu32, wrapu8, ltT, ltF, leT, leF, eqF, eqT, nltT, nleT, neqFn, hrow3]
            refine ⟨(k + 1, j + 1, rupd r k y.c), ⟨⟨by show k + 1 = (flt (del l h) l (j + 1)).length; rw [hfs, List.length_append, ← hk]; rfl, by show k + 1 < j + 1; omega, hjl, fun q hq => ?_⟩, fun q hq => ?_, fun q hq hq2 => ?_⟩, by show l.length - (j + 1) < l.length - j; omega, ent_low ⟨rfl, rfl, rfl, rfl, trivial⟩ ⟨rfl, rfl, rfl, rfl, trivial⟩ (by simp) (by simp [frBl, SV.bl, CV.bl, CV.blL]) (by
              simp [hpBl, Blk.bl, CV.blL, CV.bl, Ver.c]
              intro q hq
              unfold rupd
              by_cases hqk : q = k
              · rw [if_pos hqk]; simp [Ver.c, CV.blL, CV.bl]
              · rw [if_neg hqk]
                obtain ⟨z, hz⟩ := hr0 q hq
                rw [hz]; simp [Ver.c, CV.blL, CV.bl]) (by show 6 ≤ 6; omega)⟩
            · show ∃ z : Ver, rupd r k y.c q = z.c
              unfold rupd
              by_cases hqk : q = k
              · rw [if_pos hqk]; exact ⟨y, rfl⟩
              · rw [if_neg hqk]; exact hr0 q hq
            · have hq : q < k + 1 := hq
              show rupd r k y.c q = (vrow (flt (del l h) l (j + 1)) q).map CV.v
              rw [hfs]
              unfold rupd
              by_cases hqk : q = k
              · rw [if_pos hqk, hqk, hk, vrow_last]; rfl
              · rw [if_neg hqk, vrow_app (by omega)]; exact hr1 q (by omega)
            · have hq : j + 1 ≤ q := hq
              show rupd r k y.c q = _
              unfold rupd
              rw [if_neg (by omega)]; exact hr2 q (by omega) hq2
          · rw [hdy, if_pos rfl] at hfs
            simp (disch := omega) only [go_sem, wrapI64, wrapu64, wrapu32, wrapu8, ltT, ltF, leT, leF, eqF, eqT, nltT, nleT, neqFn]
            refine ⟨(k, j + 1, r), ⟨⟨by show k = (flt (del l h) l (j + 1)).length; rw [hfs]; exact hk, by show k < j + 1; omega, hjl, hr0⟩, fun q hq => by
              show r q = (vrow (flt (del l h) l (j + 1)) q).map CV.v
              rw [hfs]; exact hr1 q hq, fun q hq => hr2 q (by have hq : j + 1 ≤ q := hq; omega)⟩, by show l.length - (j + 1) < l.length - j; omega, ent_low ⟨rfl, rfl, rfl, rfl, trivial⟩ ⟨rfl, rfl, rfl, rfl, trivial⟩ (by simp) (by simp [frBl, SV.bl, CV.bl, CV.blL]) (by
              simp [hpBl, Blk.bl, CV.blL, CV.bl, Ver.c]
              intro q hq
              obtain ⟨z, hz⟩ := hr0 q hq
              rw [hz]; simp [Ver.c, CV.blL, CV.bl]) (by show 6 ≤ 6; omega)⟩
        · have : j = l.length := by omega
          subst this
          have hpl : prn l h = flt (del l h) l l.length := flt_end.symm
          simp (disch := omega) only [go_sem, wrapI64, wrapu64, wrapu32, wrapu8, ltT, ltF, leT, leF, eqF, eqT, nltT, nleT, neqFn]
          refine sclear rfl tkind139 tsz126 tz126 rfl ⟨⟨by decide, rfl, rfl⟩, by omega, by omega⟩ ⟨trivial, ?_⟩
          simp (disch := omega) only [go_sem, wrapI64, wrapu64, wrapu32, wrapu8, ltT, ltF, leT, leF, eqF, eqT, nltT, nleT, neqFn]
          refine fun ρ' a w' hs' hag => ?_
          obtain ⟨fp', hon, hch⟩ := ch_end1 (l := prn l h) rfl rfl hs' ((congrArg Nm.blk (hag 0 Nat.zero_lt_two)).trans hg) ((congrArg Nm.base (hag 0 Nat.zero_lt_two)).trans hb) Nat.zero_lt_two 1 c rfl (by omega) rfl (by rw [hpl]; exact hk) (by omega) (fun q hq => by
            show _ = rput r k (l.length - k) _ q
            unfold rput; rw [if_neg (by omega), hr1 q hq, hpl]) ⟨by omega, hc0⟩
          exact ⟨fp', by rw [hpl, ← hk]; rfl, hon, hch⟩
    · have : i = l.length := by omega
      subst this
      have hp0 : prn l h = l := by unfold prn; rw [← flt_end, flt_all hnone (Nat.le_refl _), List.take_length]
      simp (disch := omega) only [go_sem, wrapI64, wrapu64, wrapu32, wrapu8, ltT, ltF, leT, leF, eqF, eqT, nltT, nleT, neqFn]
      refine fun ρ' a w' hs' hag => ?_
      obtain ⟨fp', hon, hch⟩ := ch_end1 (l := prn l h) rfl rfl hs' ((congrArg Nm.blk (hag 0 Nat.zero_lt_two)).trans hg) ((congrArg Nm.base (hag 0 Nat.zero_lt_two)).trans hb) Nat.zero_lt_two 1 c rfl (by omega) rfl (by rw [hp0]) (Nat.le_refl _) (fun j hj => by rw [hp0]) ⟨hc, hc0⟩
      exact ⟨fp', by rw [hp0]; rfl, hon, hch⟩
end Go.Proofs.Ytagjblkfgjcmnaa.CW
namespace Go.Proofs.Ytagjblkfgjcmnaa.CW
open Go.RowKit Go.Sx

section
variable {C : Cx} {fr : List (Nat × SV)} {hp : List (Nat × Blk)} {nx : Nat} {d : Option Tmp} {K : St → Prop}
def rdV (l : List Ver) (p : Ver → Bool) : Ver := (rdL l p).getD ver0
def rdB (l : List Ver) (p : Ver → Bool) : Bool := (rdL l p).isSome
theorem new_s (hd : dkB C.N d = true) (hK : ∀ g fp', kput K ⟨fr, (nx, .pred fp' (On g (CSh []) fp')) :: hp, nx + 1⟩ d (.c (.v (gptr g)))) : SCall Try.prog C 64 [] d K ⟨fr, hp, nx⟩ :=
  on_new (Sh := CSh []) [] (fun g => gptr g) (fun g => .c (.v (gptr g))) Try.call64 cnew_c rfl (fun _ => rfl) (fun _ _ => rfl) hd hK
theorem add_s (n : Nat) {g : Nat} {l : List Ver} {fp : List Nat} (s : Stp) (x : Wr) (hs : Srt l) (hl : l.length ≤ 100000) (hg : hget hp n = some (.pred fp (On g (CSh l) fp))) (hd : dkB C.N d = true)
    (hK : ∀ fp', kput K ⟨fr, hset hp n (.pred fp' (On g (CSh (ins l s x)) fp')), nx⟩ d (.c (.v (.bool (insB l s))))) : SCall Try.prog C 40 [.c (.v (gptr g)), sst s.v.a s.v.b s.v.c s.v.d s.dc, .agg [.v (.string x.b), .v (.string x.k), .v (.string x.x), .v (.bool x.g)]] d K ⟨fr, hp, nx⟩ :=
  on_call n [gptr g, s.val, .agg #[.string x.b, .string x.k, .string x.x, .bool x.g]] (.c (.v (.bool (insB l s)))) Try.call40 (fun w h => cadd_c g l hs hl s x fp w h) hg rfl (fun _ => rfl) (fun _ => rfl) hd hK
theorem read_s (n : Nat) {g : Nat} {l : List Ver} {fp : List Nat} (at' : V4) (hl : l.length ≤ 1000000) (hg : hget hp n = some (.pred fp (On g (CSh l) fp))) (hd : dkB C.N d = true)
    (hK : kput K ⟨fr, hset hp n (.pred fp (On g (CSh l) fp)), nx⟩ d (.tup [.agg (rdV l fun x => x.st.seen at').c, .c (.v (.bool (rdB l fun x => x.st.seen at')))])) : SCall Try.prog C 56 [.c (.v (gptr g)), sv4 at'.a at'.b at'.c at'.d] d K ⟨fr, hp, nx⟩ :=
  on_callk n [gptr g, at'.v] (.tup [.agg (rdV l fun x => x.st.seen at').c, .c (.v (.bool (rdB l fun x => x.st.seen at')))]) Try.call56 (fun w h => cread_c g l hl at' fp w h) hg rfl (fun _ => rfl) (fun _ => rfl) hd hK
theorem last_ss (n : Nat) {g : Nat} {l : List Ver} {fp : List Nat} (hl : l.length ≤ 1000000) (hg : hget hp n = some (.pred fp (On g (CSh l) fp))) (hd : dkB C.N d = true)
    (hK : kput K ⟨fr, hset hp n (.pred fp (On g (CSh l) fp)), nx⟩ d (.tup [.agg (rdV l fun _ => true).c, .c (.v (.bool (rdB l fun _ => true)))])) : SCall Try.prog C 57 [.c (.v (gptr g))] d K ⟨fr, hp, nx⟩ :=
  on_callk n [gptr g] (.tup [.agg (rdV l fun _ => true).c, .c (.v (.bool (rdB l fun _ => true)))]) Try.call57 (fun w h => clast_c g l hl fp w h) hg rfl (fun _ => rfl) (fun _ => rfl) hd hK
theorem len_s (n : Nat) {g : Nat} {l : List Ver} {fp : List Nat} (hg : hget hp n = some (.pred fp (On g (CSh l) fp))) (hd : dkB C.N d = true)
    (hK : kput K ⟨fr, hset hp n (.pred fp (On g (CSh l) fp)), nx⟩ d (.c (ci l.length))) : SCall Try.prog C 60 [.c (.v (gptr g))] d K ⟨fr, hp, nx⟩ :=
  on_callk n [gptr g] (.c (ci l.length)) Try.call60 (fun w h => clen_c g l fp w h) hg rfl (fun _ => rfl) (fun _ => rfl) hd hK
theorem prune_s (n : Nat) {g : Nat} {l : List Ver} {fp : List Nat} (h : V4) (hl : l.length ≤ 100000) (hg : hget hp n = some (.pred fp (On g (CSh l) fp))) (hd : dkB C.N d = true)
    (hK : ∀ fp', kput K ⟨fr, hset hp n (.pred fp' (On g (CSh (prn l h)) fp')), nx⟩ d (.c (ci ((l.length : Int) - (prn l h).length)))) : SCall Try.prog C 45 [.c (.v (gptr g)), sv4 h.a h.b h.c h.d] d K ⟨fr, hp, nx⟩ :=
  on_call n [gptr g, h.v] (.c (ci ((l.length : Int) - (prn l h).length))) Try.call45 (fun w ho => cprune_c g l hl h fp w ho) hg rfl (fun _ => rfl) (fun _ => rfl) hd hK
end
end Go.Proofs.Ytagjblkfgjcmnaa.CW
namespace Go.Proofs.Ytagjblkfgjcmnaa.CW
open Go.RowKit Go.Sx

theorem pos_lt {s : Stp} : ∀ {l : List Ver} {x : Ver}, x ∈ l.take (pos l s) → x.st.ord s < 0
  | [], x, h => by simp [pos] at h
  | y :: l, x, h => by
    by_cases hy : y.st.ord s < 0
    · have e : pos (y :: l) s = pos l s + 1 := by simp [pos, List.takeWhile, hy]
      rw [e, List.take_succ_cons] at h
      rcases List.mem_cons.1 h with h | h
      · rw [h]; exact hy
      · exact pos_lt h
    · have e : pos (y :: l) s = 0 := by simp [pos, List.takeWhile, hy]
      rw [e] at h; simp at h
theorem pos_ge {s : Stp} : ∀ {l : List Ver}, Srt l → ∀ {x : Ver}, x ∈ l.drop (pos l s) → 0 ≤ x.st.ord s
  | [], _, x, h => by simp at h
  | y :: l, hs, x, h => by
    obtain ⟨h1, h2⟩ := List.pairwise_cons.1 hs
    by_cases hy : y.st.ord s < 0
    · have e : pos (y :: l) s = pos l s + 1 := by simp [pos, List.takeWhile, hy]
      rw [e, List.drop_succ_cons] at h
      exact pos_ge h2 h
    · have e : pos (y :: l) s = 0 := by simp [pos, List.takeWhile, hy]
      rw [e, List.drop_zero] at h
      rcases List.mem_cons.1 h with h | h
      · rw [h]; omega
      · have k := h1 x h
        rcases Int.lt_or_le (x.st.ord s) 0 with h3 | h3
        · exact absurd (ord_trans k h3) hy
        · exact h3
theorem mem_ins {l : List Ver} {s : Stp} {x : Wr} {v : Ver} : v ∈ ins l s x ↔ v ∈ l ∨ (insB l s = true ∧ v = ⟨s, x⟩) := by
  unfold ins
  split
  · rename_i h
    rw [List.mem_append, List.mem_cons]
    constructor
    · rintro (h1 | h1 | h1)
      · exact .inl (List.mem_of_mem_take h1)
      · exact .inr ⟨h, h1⟩
      · exact .inl (List.mem_of_mem_drop h1)
    · rintro (h1 | h1)
      · rw [← List.take_append_drop (pos l s) l, List.mem_append] at h1
        rcases h1 with h1 | h1
        · exact .inl h1
        · exact .inr (.inr h1)
      · exact .inr (.inl h1.2)
  · rename_i h
    simp [h]
theorem has_iff {l : List Ver} {s : Stp} : has l s = true ↔ ∃ v, v ∈ l ∧ v.st = s := by
  unfold has; simp [List.any_eq_true]
theorem srt_ins {l : List Ver} (hs : Srt l) (s : Stp) (x : Wr) : Srt (ins l s x) := by
  unfold ins
  split
  · rename_i h
    have hn : has l s = false := by
      cases hh : has l s with
      | false => rfl
      | true => unfold insB at h; rw [hh] at h; cases h
    have hne : ∀ v, v ∈ l → v.st ≠ s := fun v hv he => by
      have := has_iff.2 ⟨v, hv, he⟩
      rw [hn] at this; cases this
    have hs' : Srt (l.take (pos l s) ++ l.drop (pos l s)) := by rw [List.take_append_drop]; exact hs
    obtain ⟨h1, h2, h3⟩ := List.pairwise_append.1 hs'
    have hgt : ∀ v, v ∈ l.drop (pos l s) → s.ord v.st < 0 := fun v hv => by
      have k1 := pos_ge hs hv
      have k2 := ord_neg v.st s
      have k3 : v.st.ord s ≠ 0 := fun e => hne v (List.mem_of_mem_drop hv) (ord_eq e)
      omega
    refine List.pairwise_append.2 ⟨h1, List.pairwise_cons.2 ⟨hgt, h2⟩, fun a ha b hb => ?_⟩
    rcases List.mem_cons.1 hb with rfl | hb
    · exact pos_lt ha
    · exact h3 a ha b hb
  · exact hs
theorem Srt.uniq {l : List Ver} (hs : Srt l) {a b : Ver} (ha : a ∈ l) (hb : b ∈ l) (h : a.st = b.st) : a = b := by
  obtain ⟨i, hi, rfl⟩ := List.getElem_of_mem ha
  obtain ⟨j, hj, rfl⟩ := List.getElem_of_mem hb
  have gi := List.getElem?_eq_getElem hi
  have gj := List.getElem?_eq_getElem hj
  rcases Nat.lt_trichotomy i j with hij | hij | hij
  · have := hs.get hij gi gj
    rw [h, ord_self] at this; omega
  · subst hij; rfl
  · have := hs.get hij gj gi
    rw [h, ord_self] at this; omega
theorem Srt.nil : Srt [] := List.Pairwise.nil
theorem Srt.filter {l : List Ver} (hs : Srt l) (p : Ver → Bool) : Srt (l.filter p) := List.Pairwise.filter p hs
theorem rdL_eq (l : List Ver) (p : Ver → Bool) : rdL l p = (l.filter p).getLast? := by
  have key : ∀ n, n ≤ l.length → lastF (fun j => l.getD j ver0) p n = ((l.take n).filter p).getLast? := fun n => by
    induction n with
    | zero => intro _; simp [lastF]
    | succ n ih =>
      intro hn
      have hg : l[n]? = some l[n] := List.getElem?_eq_getElem (by omega)
      have hd : l.getD n ver0 = l[n] := by simp [List.getD_eq_getElem?_getD, hg]
      rw [lastF, ih (by omega), List.take_add_one, hg, Option.toList_some, List.filter_append, hd]
      cases hp : p l[n]
      · rw [if_neg (by simp)]; simp [hp]
      · rw [if_pos rfl]; simp [hp]
  unfold rdL
  rw [key _ (Nat.le_refl _), List.take_length]
theorem getLast_filter {l : List Ver} {q : Ver → Bool} {y : Ver} (h : l.getLast? = some y) (hq : q y = true) : (l.filter q).getLast? = some y := by
  obtain ⟨l', rfl⟩ := List.getLast?_eq_some_iff.1 h
  rw [List.filter_append]; simp [hq]
theorem Srt.le_last {l : List Ver} (hs : Srt l) {y : Ver} (h : l.getLast? = some y) {x : Ver} (hx : x ∈ l) : x.st.ord y.st ≤ 0 := by
  obtain ⟨l', rfl⟩ := List.getLast?_eq_some_iff.1 h
  obtain ⟨_, _, h3⟩ := List.pairwise_append.1 hs
  rcases List.mem_append.1 hx with hx | hx
  · have := h3 x hx y (by simp); omega
  · have : x = y := by simpa using hx
    rw [this, ord_self]; exact Int.le_refl _
theorem srt_ext : ∀ {l m : List Ver}, Srt l → Srt m → (∀ v, v ∈ l ↔ v ∈ m) → l = m
  | [], [], _, _, _ => rfl
  | [], y :: m, _, _, h => by have := (h y).2 (by simp); simp at this
  | x :: l, [], _, _, h => by have := (h x).1 (by simp); simp at this
  | x :: l, y :: m, hl, hm, h => by
    obtain ⟨a1, a2⟩ := List.pairwise_cons.1 hl
    obtain ⟨b1, b2⟩ := List.pairwise_cons.1 hm
    have hxy : x = y := by
      have h1 := (h x).1 (by simp)
      have h2 := (h y).2 (by simp)
      rcases List.mem_cons.1 h1 with h1 | h1
      · exact h1
      rcases List.mem_cons.1 h2 with h2 | h2
      · exact h2.symm
      have k1 := b1 x h1
      have k2 := a1 y h2
      have := ord_neg x.st y.st
      omega
    subst hxy
    rw [srt_ext a2 b2 fun v => ?_]
    constructor
    · intro hv
      rcases List.mem_cons.1 ((h v).1 (List.mem_cons_of_mem _ hv)) with he | he
      · subst he
        have := a1 v hv; rw [ord_self] at this; omega
      · exact he
    · intro hv
      rcases List.mem_cons.1 ((h v).2 (List.mem_cons_of_mem _ hv)) with he | he
      · subst he
        have := b1 v hv; rw [ord_self] at this; omega
      · exact he
theorem leq_trans {x y z : V4} (h1 : x.leq y = true) (h2 : y.leq z = true) : x.leq z = true := by
  simp only [V4.leq, Bool.and_eq_true, decide_eq_true_eq] at *
  omega
theorem rd_prn {l : List Ver} (hs : Srt l) {h f : V4} (hhf : h.leq f = true) : rdL (prn l h) (fun x => x.st.seen f) = rdL l fun x => x.st.seen f := by
  have e : (prn l h).filter (fun x => x.st.seen f) = (l.filter fun x => x.st.seen f).filter fun x => !del l h x := by
    unfold prn; rw [List.filter_filter, List.filter_filter]; congr 1; funext x; exact Bool.and_comm _ _
  rw [rdL_eq, rdL_eq, e]
  cases hy : (l.filter fun x => x.st.seen f).getLast? with
  | none =>
    rw [List.getLast?_eq_none_iff] at hy
    rw [hy]; rfl
  | some y =>
    refine getLast_filter hy ?_
    rw [Bool.not_eq_true']
    cases hd : del l h y with
    | false => rfl
    | true =>
      simp only [del, Bool.and_eq_true, decide_eq_true_eq] at hd
      have hm : y ∈ l.filter fun x => x.st.seen f := List.mem_of_getLast? hy
      have hyl : y ∈ l := (List.mem_filter.1 hm).1
      have hyh : y ∈ l.filter fun x => x.st.seen h := List.mem_filter.2 ⟨hyl, hd.1⟩
      cases hb : (l.filter fun x => x.st.seen h).getLast? with
      | none =>
        rw [List.getLast?_eq_none_iff] at hb
        rw [hb] at hyh; simp at hyh
      | some b =>
        have hbst : bst l h = b := by unfold bst; rw [rdL_eq, hb]; rfl
        rw [hbst] at hd
        have hbm := List.mem_filter.1 (List.mem_of_getLast? hb)
        have k1 := (hs.filter _).le_last hb hyh
        have k2 : b ∈ l.filter fun x => x.st.seen f := List.mem_filter.2 ⟨hbm.1, leq_trans hbm.2 hhf⟩
        have k3 := (hs.filter _).le_last hy k2
        have k4 := ord_neg y.st b.st
        exact absurd (ord_eq (show y.st.ord b.st = 0 by omega)) hd.2
theorem leq_self (x : V4) : x.leq x = true := by simp [V4.leq]
theorem leq_join (x y : V4) : x.leq (x.join y) = true := by
  have k : ∀ a b : Int, decide (a ≤ max a b) = true := fun a b => decide_eq_true (Int.le_max_left a b)
  show (decide (x.a ≤ max x.a y.a) && (decide (x.b ≤ max x.b y.b) && (decide (x.c ≤ max x.c y.c) && decide (x.d ≤ max x.d y.d)))) = true
  rw [k, k, k, k]; rfl
theorem bst_prn {l : List Ver} (hs : Srt l) (h : V4) : bst (prn l h) h = bst l h := by
  unfold bst; rw [rd_prn hs (leq_self h)]
theorem prn_prn {l : List Ver} (hs : Srt l) (h : V4) : prn (prn l h) h = prn l h := by
  have : del (prn l h) h = del l h := by unfold del; rw [bst_prn hs]
  unfold prn at this ⊢
  rw [this, List.filter_filter]; congr 1; funext x; cases del l h x <;> rfl
theorem srt_prn {l : List Ver} (hs : Srt l) (h : V4) : Srt (prn l h) := hs.filter _
theorem prn_le (l : List Ver) (h : V4) : (prn l h).length ≤ l.length := List.length_filter_le _ _
theorem seen_prn {l : List Ver} (hs : Srt l) (h : V4) : ((prn l h).filter fun x => x.st.seen h).length = if rdB l fun x => x.st.seen h then 1 else 0 := by
  have hb := rd_prn hs (leq_self h)
  rw [rdL_eq, rdL_eq] at hb
  unfold rdB; rw [rdL_eq]
  cases hy : (l.filter fun x => x.st.seen h).getLast? with
  | none =>
    rw [hy, List.getLast?_eq_none_iff] at hb
    rw [hb]; rfl
  | some y =>
    rw [hy] at hb
    have hbst : bst l h = y := by unfold bst; rw [rdL_eq, hy]; rfl
    have hone : ∀ v, v ∈ (prn l h).filter (fun x => x.st.seen h) → v.st = y.st := fun v hv => by
      obtain ⟨h1, h2⟩ := List.mem_filter.1 hv
      unfold prn at h1
      have h3 := (List.mem_filter.1 h1).2
      rw [Bool.not_eq_true'] at h3
      unfold del at h3
      rw [h2, hbst, Bool.true_and] at h3
      simpa using h3
    have hs2 := (srt_prn hs h).filter fun x => x.st.seen h
    revert hb hone hs2
    generalize (prn l h).filter (fun x => x.st.seen h) = q
    intro hb hone hs2
    match q, hb, hone, hs2 with
    | [_], _, _, _ => rfl
    | a :: b :: r, hb, hone, hs2 =>
      have k := (List.pairwise_cons.1 hs2).1 b (by simp)
      rw [hone a (by simp), hone b (by simp), ord_self] at k; omega
end Go.Proofs.Ytagjblkfgjcmnaa.CW
namespace Go.Proofs.Ytagjblkfgjcmnaa
open Go.RowKit Go.Sx CW
attribute [local go_sem ↓] reduceIte
attribute [local go_sem] Nat.reduceEqDiff Nat.reduceLT Nat.reduceLeDiff Nat.reduceAdd Nat.reduceMul Nat.reduceSub Nat.reduceDiv Nat.reduceMod Int.reduceToNat Int.reduceLT Int.reduceLE Int.reduceAdd Int.reduceSub Int.reduceMul Int.reduceEq Int.reduceNeg reduceCtorEq or_false false_or decide_true decide_false Int.cast_ofNat_Int Nat.zero_add Nat.add_zero Int.toNat_natCast Option.isNone_none Option.isNone_some Bool.not_true Bool.not_false Bool.xor_true Bool.xor_false Bool.true_xor Bool.false_xor Bool.and_true Bool.true_and Bool.and_false Bool.false_and eq_self ne_eq not_false_eq_true not_true_eq_false true_and and_true and_self
abbrev Ent3 := Ky × Nat × List Ver
def emap (es : List Ent3) : List (Ky × Value) := es.map fun x => (x.1, gptr x.2.1)
def CR (x : Ent3) : List Nat → World → Prop := fun fp => On x.2.1 (CSh x.2.2) fp
theorem CR.stable (x : Ent3) (fp : List Nat) : Stable fp (CR x fp) := On.stable
theorem emap_out {k : Ky} : ∀ {es : List Ent3} {i : Nat}, (∀ x, x ∈ es → x.1 ≠ k) → fnd k (emap es) i = none
  | [], i, _ => rfl
  | x :: r, i, h => by
    have h1 := h x (by simp)
    have := emap_out (es := r) (i := i + 1) fun y hy => h y (by simp [hy])
    simpa [emap, fnd, Ne.symm h1] using this
theorem emap_in {k : Ky} {g : Nat} {c : List Ver} {b : List Ent3} : ∀ {a : List Ent3} {i : Nat}, (∀ x, x ∈ a → x.1 ≠ k) → fnd k (emap (a ++ (k, g, c) :: b)) i = some (i + a.length, gptr g)
  | [], i, _ => by simp [emap, fnd]
  | x :: r, i, h => by
    have h1 := h x (by simp)
    have := emap_in (g := g) (c := c) (b := b) (a := r) (i := i + 1) fun y hy => h y (by simp [hy])
    simp only [emap, List.cons_append, List.map_cons, fnd, if_neg (Ne.symm h1)] at this ⊢
    rw [this, List.length_cons, Nat.add_right_comm, Nat.add_assoc]
theorem key_or (k : Ky) : ∀ es : List Ent3, (∀ x, x ∈ es → x.1 ≠ k) ∨ ∃ a g c b, es = a ++ (k, g, c) :: b ∧ ∀ x, x ∈ a → x.1 ≠ k
  | [] => .inl fun x hx => by cases hx
  | x :: r => by
    by_cases h : x.1 = k
    · obtain ⟨k', g, c⟩ := x
      have h : k' = k := h
      subst h
      exact .inr ⟨[], g, c, r, rfl, fun x hx => by cases hx⟩
    · rcases key_or k r with h1 | ⟨a, g, c, b, h1, h2⟩
      · exact .inl fun y hy => by
          rcases List.mem_cons.1 hy with rfl | hy
          · exact h
          · exact h1 y hy
      · exact .inr ⟨x :: a, g, c, b, by rw [h1]; rfl, fun y hy => by
          rcases List.mem_cons.1 hy with rfl | hy
          · exact h
          · exact h2 y hy⟩
theorem zero_chain (w : World) : (zeroValue 104).run Try.prog w = .ok (.pointer none) w := by simp [go_sem]
section
variable {C : Cx} {fr : List (Nat × SV)} {hp : List (Nat × Blk)} {nx : Nat} {d : Option Tmp} {K : St → Prop}
def Touch (es : List Ent3) (k : Ky) (es' : List Ent3) : Prop := es' = es ∨ ((∀ x, x ∈ es → x.1 ≠ k) ∧ ∃ g, es' = es ++ [(k, g, [])])
set_option maxHeartbeats 2000000 in
set_option maxRecDepth 100000 in
theorem of_s (n0 n1 n2 : Nat) {m : Nat} {lv : CV} {ap : List CV} {es : List Ent3} {fp : List Nat} (k : Ky) (h0 : hget hp n0 = some (.cells 98 (lv :: .v (.map (some m)) :: ap))) (h1 : hget hp n1 = some (.pred [m] (MapAt kenc m (emap es)))) (h2 : hget hp n2 = some (.pred fp (All CR es fp))) (hne : n1 ≠ n2) (hd : dOk C.N d)
    (hK : ∀ a g c b fp', (∀ x, x ∈ a → x.1 ≠ k) → Touch es k (a ++ (k, g, c) :: b) → kput K ⟨fr, hset (hset hp n2 (.pred fp' (All CR (a ++ (k, g, c) :: b) fp'))) n1 (.pred [m] (MapAt kenc m (emap (a ++ (k, g, c) :: b)))), nx + 1⟩ d (.c (.v (gptr g)))) :
    SCall Try.prog C 39 [.c (.p n0 0 0), .c (.v (.string k.1)), .c (.v (.string k.2))] d K ⟨fr, hp, nx⟩ := by
  refine scall_post ?_
  refine scall_names rfl fun hnm honce => ?_
  have l0 := hget_lt hnm h0
  have l1 := hget_lt hnm h1
  have l2 := hget_lt hnm h2
  refine scall_in 30 _ Try.func39 rfl Try.ntmps39 Try.results39 Try.call39 (by simp only [go_sem, hd]) (fun _ _ => ?_)
  simp (disch := omega) only [go_sem, wrapI64, wrapu64, wrapu32, wrapu8, ltT, ltF, leT, leF, eqF, eqT, nltT, nleT, neqFn]
  have hs1 : ∀ b, sameAll hp ((nx, b) :: hp) = True := fun b => sameAll_push honce hnm
  have g0 : ∀ b, hget ((nx, b) :: hp) n0 = hget hp n0 := fun b => by rw [hget_cons, if_neg (by omega)]
  have g1 : ∀ b, hget ((nx, b) :: hp) n1 = hget hp n1 := fun b => by rw [hget_cons, if_neg (by omega)]
  have g2 : ∀ b, hget ((nx, b) :: hp) n2 = hget hp n2 := fun b => by rw [hget_cons, if_neg (by omega)]
  refine sdraw0 [.t 0, .t 1, .t 2, .t 3, .t 4, .r 5, .t 6] 7 rfl (by kernel_rfl) ?_
  simp (disch := omega) only [go_sem, wrapI64, wrapu64, wrapu32, wrapu8, ltT, ltF, leT, leF, eqF, eqT, nltT, nleT, neqFn, h0, hs1]
  refine slookup (k := k) (z := .pointer none) n1 kenc_key Try.underlying96 zero_chain rfl rfl ⟨rfl, fun ρ => rfl⟩ ((g1 _).trans h1) ⟨Nat.le_of_ble_eq_true rfl, ?_⟩
  rcases key_or k es with hno | ⟨a, g, c, b, hes, ha⟩
  · have hf : fnd k (emap es) 0 = none := emap_out hno
    have hl : lkp (.pointer none) k (emap es) = .pointer none := by simp [lkp, hf]
    rw [hl]
    simp (disch := omega) only [go_sem, wrapI64, wrapu64, wrapu32, wrapu8, ltT, ltF, leT, leF, eqF, eqT, nltT, nleT, neqFn, h0, hs1]
    refine sdraw [.t 0, .t 1, .t 2, .t 3, .t 4, .r 5, .r 6] 6 [(n0, _), (nx, _)] rfl (by kernel_rfl) ⟨(g0 _).trans h0, by rw [hget_cons, if_pos rfl], trivial⟩ ?_
    simp (disch := omega) only [go_sem, wrapI64, wrapu64, wrapu32, wrapu8, ltT, ltF, leT, leF, eqF, eqT, nltT, nleT, neqFn, h0, hs1]
    refine all_new_s n2 es (fun g => (k, g, [])) CR.stable [] (fun g => gptr g) (fun g => .c (.v (gptr g))) (fun _ => True) Try.call64 (fun w => (cnew_c w).mono fun e w' ⟨g, fp', h1, h2, h3⟩ => ⟨g, fp', ⟨trivial, h1⟩, h2, h3⟩) ((g2 _).trans h2) rfl (fun _ => rfl) (fun _ _ => rfl) rfl fun g fp' _ => ?_
    have d0 : n0 ≠ n1 := fun e => by rw [e, h1] at h0; cases h0
    have d1 : n0 ≠ n2 := fun e => by rw [e, h2] at h0; cases h0
    have q0 : ∀ b, hget ((nx, b) :: hset hp n2 (.pred fp' (All CR (es ++ [(k, g, [])]) fp'))) n0 = hget hp n0 := fun b => by rw [hget_cons, if_neg (by omega), hget_other d1]
    have q1 : ∀ b, hget ((nx, b) :: hset hp n2 (.pred fp' (All CR (es ++ [(k, g, [])]) fp'))) n1 = hget hp n1 := fun b => by rw [hget_cons, if_neg (by omega), hget_other hne]
    have e1 : ∀ b, hset ((nx, b) :: hp) n2 (.pred fp' (All CR (es ++ [(k, g, [])]) fp')) = (nx, b) :: hset hp n2 (.pred fp' (All CR (es ++ [(k, g, [])]) fp')) := fun b => by rw [hset_cons, if_neg (by omega)]
    rw [e1]
    have q00 : hget (hset hp n2 (.pred fp' (All CR (es ++ [(k, g, [])]) fp'))) n0 = hget hp n0 := hget_other d1 _ _
    simp (disch := omega) only [go_sem, wrapI64, wrapu64, wrapu32, wrapu8, ltT, ltF, leT, leF, eqF, eqT, nltT, nleT, neqFn, q00, h0, hs1]
    refine smapPut (k := k) (l := emap es) n1 kenc_key Try.underlying96 rfl rfl ⟨rfl, fun ρ => rfl⟩ rfl ((q1 _).trans h1) hf ?_
    have e2 : ∀ b X Y, hset ((nx, b) :: X) n1 Y = (nx, b) :: hset X n1 Y := fun b X Y => by rw [hset_cons, if_neg (by omega)]
    rw [e2]
    have em : emap es ++ [(k, gptr g)] = emap (es ++ [(k, g, [])]) := by simp [emap]
    rw [em]
    have f1 := hget_same (.pred [m] (MapAt kenc m (emap (es ++ [(k, g, [])])))) (hget_other hne (.pred fp' (All CR (es ++ [(k, g, [])]) fp')) hp |>.trans h1)
    generalize hH : hset (hset hp n2 (.pred fp' (All CR (es ++ [(k, g, [])]) fp'))) n1 (.pred [m] (MapAt kenc m (emap (es ++ [(k, g, [])])))) = H at f1
    have r0 : hget H n0 = hget hp n0 := by rw [← hH, hget_other d0, hget_other d1]
    have s0 : ∀ b, hget ((nx, b) :: H) n0 = hget hp n0 := fun b => by rw [hget_cons, if_neg (by omega), r0]
    have s1 : ∀ b, hget ((nx, b) :: H) n1 = hget H n1 := fun b => by rw [hget_cons, if_neg (by omega)]
    have hHn : ∀ m b, (m, b) ∈ H → m < nx := fun m b hm => by
      have : m ∈ H.map (·.1) := List.mem_map.2 ⟨_, hm, rfl⟩
      rw [← hH, hset_names, hset_names] at this
      obtain ⟨⟨m', b'⟩, h3, h4⟩ := List.mem_map.1 this
      exact h4 ▸ hnm _ _ h3
    have hHo : (H.map (·.1)).Nodup := by rw [← hH, hset_names, hset_names]; exact honce
    have hs2 : ∀ b, sameAll H ((nx, b) :: H) = True := fun b => sameAll_push hHo hHn
    simp (disch := omega) only [go_sem, wrapI64, wrapu64, wrapu32, wrapu8, ltT, ltF, leT, leF, eqF, eqT, nltT, nleT, neqFn, r0, h0, hs2]
    refine sdraw0 [.t 0, .t 1, .t 2, .t 3, .t 4, .r 5, .t 6] 7 rfl (by kernel_rfl) ?_
    simp (disch := omega) only [go_sem, wrapI64, wrapu64, wrapu32, wrapu8, ltT, ltF, leT, leF, eqF, eqT, nltT, nleT, neqFn, r0, h0, hs2]
    have hl2 : lkp (.pointer none) k (emap (es ++ [(k, g, [])])) = gptr g := by simp [lkp, emap_in hno]
    refine slookup (k := k) (z := .pointer none) n1 kenc_key Try.underlying96 zero_chain rfl rfl ⟨rfl, fun ρ => rfl⟩ ((s1 _).trans f1) ⟨Nat.le_of_ble_eq_true rfl, ?_⟩
    rw [hl2]
    simp (disch := omega) only [go_sem, wrapI64, wrapu64, wrapu32, wrapu8, ltT, ltF, leT, leF, eqF, eqT, nltT, nleT, neqFn, r0, h0, hs2]
    have hk := hK es g [] [] fp' hno (.inr ⟨hno, g, rfl⟩)
    rw [hH] at hk
    exact ⟨_, fun ρ a w hs => by
      rcases d with _ | d
      · exact hs.tail
      · exact hs.tail, by rcases d with _ | d <;> exact Nat.le_refl _, hk⟩
  · subst hes
    have hl : lkp (.pointer none) k (emap (a ++ (k, g, c) :: b)) = gptr g := by simp [lkp, emap_in ha]
    rw [hl]
    simp (disch := omega) only [go_sem, wrapI64, wrapu64, wrapu32, wrapu8, ltT, ltF, leT, leF, eqF, eqT, nltT, nleT, neqFn, h0, hs1]
    refine sdraw0 [.t 0, .t 1, .t 2, .t 3, .t 4, .r 5, .t 6] 7 rfl (by kernel_rfl) ?_
    simp (disch := omega) only [go_sem, wrapI64, wrapu64, wrapu32, wrapu8, ltT, ltF, leT, leF, eqF, eqT, nltT, nleT, neqFn, h0, hs1]
    refine slookup (k := k) (z := .pointer none) n1 kenc_key Try.underlying96 zero_chain rfl rfl ⟨rfl, fun ρ => rfl⟩ ((g1 _).trans h1) ⟨Nat.le_of_ble_eq_true rfl, ?_⟩
    rw [hl]
    simp (disch := omega) only [go_sem, wrapI64, wrapu64, wrapu32, wrapu8, ltT, ltF, leT, leF, eqF, eqT, nltT, nleT, neqFn, h0, hs1]
    have hk := hK a g c b fp ha (.inl rfl)
    rw [hset_eq h2, hset_eq h1] at hk
    exact ⟨_, fun ρ a w hs => by
      rcases d with _ | d
      · exact hs.tail
      · exact hs.tail, by rcases d with _ | d <;> exact Nat.le_refl _, hk⟩
end
end Go.Proofs.Ytagjblkfgjcmnaa
namespace Go.Proofs.Ytagjblkfgjcmnaa
open Go.RowKit Go.Sx CW
structure ShS where
  room : Nat
  w : List Bat
  l : List Ver
  ap : V4
def Ver.ky (v : Ver) : Ky := (v.x.b, v.x.k)
def Wr.kk (x : Wr) : Ky := (x.b, x.k)
def chn (l : List Ver) (k : Ky) : List Ver := (l.filter fun v => decide (Ver.ky v = k)).foldl (fun c v => ins c v.st v.x) []
def addV (st : Stp) (l : List Ver) (x : Wr) : List Ver := if insB (chn l x.kk) st then l ++ [⟨st, x⟩] else l
theorem ins_no {c : List Ver} {st : Stp} {x : Wr} (h : insB c st = false) : ins c st x = c := by unfold ins; rw [if_neg (by rw [h]; simp)]
theorem chn_snoc (l : List Ver) (v : Ver) (k : Ky) : chn (l ++ [v]) k = if Ver.ky v = k then ins (chn l k) v.st v.x else chn l k := by
  unfold chn
  rw [List.filter_append]
  by_cases h : Ver.ky v = k <;> simp [h]
theorem chn_add (l : List Ver) (st : Stp) (x : Wr) (k : Ky) : chn (addV st l x) k = if x.kk = k then ins (chn l k) st x else chn l k := by
  unfold addV
  cases h : insB (chn l x.kk) st
  · by_cases hk : x.kk = k
    · subst hk; simp [ins_no h]
    · simp [hk]
  · rw [if_pos rfl, chn_snoc]; rfl
theorem chn_srt (l : List Ver) (k : Ky) : Srt (chn l k) := by
  unfold chn
  have : ∀ (m : List Ver) (c : List Ver), Srt c → Srt (m.foldl (fun c v => ins c v.st v.x) c) := fun m => by
    induction m with
    | nil => intro c h; exact h
    | cons v r ih => intro c h; exact ih _ (srt_ins h _ _)
  exact this _ _ Srt.nil
def WfL (l : List Ver) : Prop := l.Pairwise (fun a b => ¬ (Ver.ky a = Ver.ky b ∧ a.st = b.st)) ∧ ∀ v, v ∈ l → v.st.right = true
theorem WfL.nil : WfL [] := ⟨List.Pairwise.nil, fun v hv => by cases hv⟩
theorem WfL.left {l m : List Ver} (h : WfL (l ++ m)) : WfL l := ⟨(List.pairwise_append.1 h.1).1, fun v hv => h.2 v (List.mem_append.2 (.inl hv))⟩
theorem snoc_ind {P : List Ver → Prop} (h0 : P []) (h1 : ∀ l v, P l → P (l ++ [v])) (l : List Ver) : P l := by
  rw [← List.reverse_reverse l]
  induction l.reverse with
  | nil => exact h0
  | cons v r ih => rw [List.reverse_cons]; exact h1 _ _ ih
theorem mem_chn {l : List Ver} (h : WfL l) {k : Ky} {v : Ver} : v ∈ chn l k ↔ v ∈ l ∧ Ver.ky v = k := by
  revert h v
  refine snoc_ind (P := fun l => WfL l → ∀ {v : Ver}, v ∈ chn l k ↔ v ∈ l ∧ Ver.ky v = k) (fun _ v => by simp [chn]) (fun l u ih h v => ?_) l
  have ih := fun {v} => ih h.left (v := v)
  rw [chn_snoc]
  by_cases hk : Ver.ky u = k
  · rw [if_pos hk, mem_ins]
    have hb : insB (chn l k) u.st = true := by
      unfold insB
      have hr := h.2 u (by simp)
      have hh : has (chn l k) u.st = false := by
        cases hq : has (chn l k) u.st
        · rfl
        · obtain ⟨y, hy, he⟩ := has_iff.1 hq
          have := (List.pairwise_append.1 h.1).2.2 y (ih.1 hy).1 u (by simp)
          exact absurd ⟨(ih.1 hy).2.trans hk.symm, he⟩ this
      rw [hh, hr]; rfl
    rw [hb, ih]
    constructor
    · rintro (h1 | ⟨_, h1⟩)
      · exact ⟨List.mem_append.2 (.inl h1.1), h1.2⟩
      · have : v = u := by rw [h1]
        subst this
        exact ⟨by simp, hk⟩
    · rintro ⟨h1, h2⟩
      rcases List.mem_append.1 h1 with h1 | h1
      · exact .inl ⟨h1, h2⟩
      · have : v = u := by simpa using h1
        subst this
        exact .inr ⟨rfl, rfl⟩
  · rw [if_neg hk, ih]
    constructor
    · rintro ⟨h1, h2⟩; exact ⟨List.mem_append.2 (.inl h1), h2⟩
    · rintro ⟨h1, h2⟩
      rcases List.mem_append.1 h1 with h1 | h1
      · exact ⟨h1, h2⟩
      · have : v = u := by simpa using h1
        exact absurd (this ▸ h2) hk
theorem insB_of {l : List Ver} (h : WfL l) {st : Stp} {k : Ky} : insB (chn l k) st = (st.right && !l.any fun v => decide (Ver.ky v = k ∧ v.st = st)) := by
  unfold insB
  have : has (chn l k) st = l.any fun v => decide (Ver.ky v = k ∧ v.st = st) := by
    rw [Bool.eq_iff_iff, has_iff, List.any_eq_true]
    constructor
    · rintro ⟨v, h1, h2⟩
      obtain ⟨h3, h4⟩ := (mem_chn h).1 h1
      exact ⟨v, h3, by simp [h2, h4]⟩
    · rintro ⟨v, h1, h2⟩
      have h2 : Ver.ky v = k ∧ v.st = st := by simpa using h2
      exact ⟨v, (mem_chn h).2 ⟨h1, h2.1⟩, h2.2⟩
  rw [this, Bool.and_comm]
theorem WfL.add {l : List Ver} (h : WfL l) (st : Stp) (x : Wr) : WfL (addV st l x) := by
  unfold addV
  cases hb : insB (chn l x.kk) st
  · exact h
  · rw [if_pos rfl]
    rw [insB_of h] at hb
    simp only [Bool.and_eq_true, Bool.not_eq_true', List.any_eq_false] at hb
    refine ⟨List.pairwise_append.2 ⟨h.1, by simp, fun a ha b hb' he => ?_⟩, fun v hv => ?_⟩
    · have : b = ⟨st, x⟩ := by simpa using hb'
      subst this
      exact hb.2 a ha (decide_eq_true he)
    · rcases List.mem_append.1 hv with hv | hv
      · exact h.2 v hv
      · have : v = ⟨st, x⟩ := by simpa using hv
        subst this; exact hb.1
theorem WfL.filter {l : List Ver} (h : WfL l) (p : Ver → Bool) : WfL (l.filter p) := ⟨h.1.filter _, fun v hv => h.2 v (List.mem_filter.1 hv).1⟩
theorem addV_len (l : List Ver) (st : Stp) (x : Wr) : (addV st l x).length ≤ l.length + 1 := by
  unfold addV; split <;> simp
def pruL (l : List Ver) (h : V4) : List Ver := l.filter fun v => !del (chn l (Ver.ky v)) h v
theorem chn_pru {l : List Ver} (hw : WfL l) (h : V4) (k : Ky) : chn (pruL l h) k = prn (chn l k) h := by
  refine srt_ext (chn_srt _ _) (srt_prn (chn_srt _ _) h) fun v => ?_
  unfold pruL
  rw [mem_chn (hw.filter _)]
  unfold prn
  rw [List.mem_filter, List.mem_filter, mem_chn hw]
  constructor
  · rintro ⟨⟨h1, h2⟩, h3⟩; subst h3; exact ⟨⟨h1, rfl⟩, h2⟩
  · rintro ⟨⟨h1, h2⟩, h3⟩; subst h2; exact ⟨⟨h1, h3⟩, rfl⟩
theorem chn_len {l : List Ver} (hw : WfL l) (k : Ky) : (chn l k).length = (l.filter fun v => decide (Ver.ky v = k)).length := by
  revert hw
  refine snoc_ind (P := fun l => WfL l → (chn l k).length = (l.filter fun v => decide (Ver.ky v = k)).length) (fun _ => rfl) (fun l u ih h => ?_) l
  have ih := ih h.left
  rw [chn_snoc, List.filter_append]
  by_cases hk : Ver.ky u = k
  · have hb : insB (chn l k) u.st = true := by
      rw [insB_of h.left, h.2 u (by simp)]
      simp only [Bool.true_and, Bool.not_eq_true', List.any_eq_false]
      intro v hv
      have := (List.pairwise_append.1 h.1).2.2 v hv u (by simp)
      rw [hk] at this
      simpa using this
    rw [if_pos hk, ins_len hb, ih]; simp [hk]
  · rw [if_neg hk, ih]; simp [hk]
theorem chn_le {l : List Ver} (hw : WfL l) (k : Ky) : (chn l k).length ≤ l.length := by
  rw [chn_len hw]; exact List.length_filter_le _ _
def Rel (es : List Ent3) (l : List Ver) : Prop := (es.map (·.1)).Nodup ∧ (∀ v, v ∈ l → Ver.ky v ∈ es.map (·.1)) ∧ ∀ x, x ∈ es → x.2.2 = chn l x.1
theorem Rel.nil : Rel [] [] := ⟨List.nodup_nil, (fun v hv => by cases hv), fun x hx => by cases hx⟩
theorem Rel.touch {es es' : List Ent3} {l : List Ver} {k : Ky} (h : Rel es l) (ht : Touch es k es') : Rel es' l := by
  rcases ht with rfl | ⟨hno, g, rfl⟩
  · exact h
  · refine ⟨?_, fun v hv => by rw [List.map_append]; exact List.mem_append.2 (.inl (h.2.1 v hv)), fun x hx => ?_⟩
    · rw [List.map_append, List.nodup_append]
      refine ⟨h.1, by simp, fun a ha b hb he => ?_⟩
      obtain ⟨y, hy, rfl⟩ := List.mem_map.1 ha
      simp at hb
      exact hno y hy (he.trans hb)
    · rcases List.mem_append.1 hx with hx | hx
      · exact h.2.2 x hx
      · have : x = (k, g, []) := by simpa using hx
        subst this
        have : (l.filter fun v => decide (Ver.ky v = k)) = [] := by
          rw [List.filter_eq_nil_iff]
          intro v hv hk
          obtain ⟨y, hy, he⟩ := List.mem_map.1 (h.2.1 v hv)
          exact hno y hy (he.trans (by simpa using hk))
        simp [chn, this]
theorem Rel.chn {a b : List Ent3} {k : Ky} {g : Nat} {c : List Ver} {l : List Ver} (h : Rel (a ++ (k, g, c) :: b) l) : c = chn l k := h.2.2 (k, g, c) (by simp)
theorem Rel.add {a b : List Ent3} {g : Nat} {c : List Ver} {l : List Ver} {st : Stp} {x : Wr} (h : Rel (a ++ (x.kk, g, c) :: b) l) : Rel (a ++ (x.kk, g, ins c st x) :: b) (addV st l x) := by
  have hc := h.chn
  have hm : (a ++ (x.kk, g, ins c st x) :: b).map (·.1) = (a ++ (x.kk, g, c) :: b).map (·.1) := by simp
  refine ⟨by rw [hm]; exact h.1, fun v hv => ?_, fun y hy => ?_⟩
  · rw [hm]
    unfold addV at hv
    split at hv
    · rcases List.mem_append.1 hv with hv | hv
      · exact h.2.1 v hv
      · have : v = ⟨st, x⟩ := by simpa using hv
        subst this
        simp [Ver.ky, Wr.kk]
    · exact h.2.1 v hv
  · rw [chn_add]
    have hn := h.1
    rw [List.map_append, List.map_cons, List.nodup_append, List.nodup_cons] at hn
    have hout : y ∈ a ∨ y ∈ b → x.kk ≠ y.1 := fun hy e => by
      rcases hy with hy | hy
      · exact hn.2.2 _ (List.mem_map.2 ⟨y, hy, rfl⟩) x.kk (by simp) e.symm
      · exact hn.2.1.1 (List.mem_map.2 ⟨y, hy, e.symm⟩)
    rcases List.mem_append.1 hy with hy' | hy'
    · rw [if_neg (hout (.inl hy'))]; exact h.2.2 y (by simp [hy'])
    · rcases List.mem_cons.1 hy' with rfl | hy'
      · rw [if_pos rfl, hc]
      · rw [if_neg (hout (.inr hy'))]; exact h.2.2 y (by simp [hy'])
def prnE (h : V4) (x : Ent3) : Ent3 := (x.1, x.2.1, prn x.2.2 h)
theorem Rel.prune {es : List Ent3} {l : List Ver} (hr : Rel es l) (hw : WfL l) (h : V4) : Rel (es.map (prnE h)) (pruL l h) := by
  have hm : (es.map (prnE h)).map (·.1) = es.map (·.1) := by simp [prnE, Function.comp_def]
  refine ⟨by rw [hm]; exact hr.1, fun v hv => by rw [hm]; exact hr.2.1 v (List.mem_filter.1 hv).1, fun x hx => ?_⟩
  obtain ⟨y, hy, rfl⟩ := List.mem_map.1 hx
  show prn y.2.2 h = _
  rw [chn_pru hw, hr.2.2 y hy]; rfl
def cntE (es : List Ent3) : Int := (es.map fun x => (x.2.2.length : Int)).sum
theorem cnt_keys : ∀ (ks : List Ky) (l : List Ver), ks.Nodup → (∀ v, v ∈ l → Ver.ky v ∈ ks) → (ks.map fun k => ((l.filter fun v => decide (Ver.ky v = k)).length : Int)).sum = l.length
  | ks, [], _, _ => by
    have : ∀ ks : List Ky, (ks.map fun k => ((([] : List Ver).filter fun v => decide (Ver.ky v = k)).length : Int)).sum = 0 := fun ks => by
      induction ks with
      | nil => rfl
      | cons k r ih => simp at ih ⊢; exact ih
    simpa using this ks
  | ks, v :: l, hn, hv => by
    have ih := cnt_keys ks l hn fun u hu => hv u (by simp [hu])
    have one : ∀ ks : List Ky, ks.Nodup → (ks.map fun k => (((v :: l).filter fun u => decide (Ver.ky u = k)).length : Int)).sum = (ks.map fun k => ((l.filter fun u => decide (Ver.ky u = k)).length : Int)).sum + if (ks.any fun k => decide (Ver.ky v = k)) = true then 1 else 0 := fun ks => by
      induction ks with
      | nil => intro _; rfl
      | cons k r ih2 =>
        intro hn
        obtain ⟨h1, h2⟩ := List.nodup_cons.1 hn
        have ih2 := ih2 h2
        simp only [List.map_cons, List.sum_cons]
        rw [ih2]
        by_cases hk : Ver.ky v = k
        · subst hk
          have h3 : (r.any fun k => decide (Ver.ky v = k)) = false := by
            rw [List.any_eq_false]
            intro k hk he
            exact h1 (by rw [of_decide_eq_true he]; exact hk)
          have e1 : ((v :: l).filter fun u => decide (Ver.ky u = Ver.ky v)) = v :: (l.filter fun u => decide (Ver.ky u = Ver.ky v)) := by simp
          have e2 : ((Ver.ky v :: r).any fun k => decide (Ver.ky v = k)) = true := by simp
          rw [e1, h3, e2]
          generalize (List.map (fun k => (((l.filter fun u => decide (Ver.ky u = k)).length : Nat) : Int)) r).sum = S
          simp; omega
        · have h3 : ((k :: r).any fun k => decide (Ver.ky v = k)) = r.any fun k => decide (Ver.ky v = k) := by simp [hk]
          rw [h3]
          have h4 : ((v :: l).filter fun u => decide (Ver.ky u = k)) = l.filter fun u => decide (Ver.ky u = k) := by simp [hk]
          rw [h4]; exact (Int.add_assoc _ _ _).symm
    have h5 : (ks.any fun k => decide (Ver.ky v = k)) = true := List.any_eq_true.2 ⟨_, hv v (by simp), by simp⟩
    rw [one ks hn, ih, h5]; simp
theorem Rel.cnt {es : List Ent3} {l : List Ver} (h : Rel es l) (hw : WfL l) : cntE es = l.length := by
  rw [← cnt_keys (es.map (·.1)) l h.1 h.2.1, List.map_map]
  unfold cntE
  congr 1
  refine List.map_congr_left fun x hx => ?_
  rw [h.2.2 x hx, chn_len hw]; rfl
def ShS.step (s : ShS) : ShS := match s.w with
  | [] => s
  | (st, ws) :: rest => ⟨s.room, rest, ws.foldl (addV st) s.l, s.ap.wth st.dc (max st.n (s.ap.at st.dc))⟩
end Go.Proofs.Ytagjblkfgjcmnaa
namespace Go.Proofs.Ytagjblkfgjcmnaa
open Go.RowKit Go.Sx CW
attribute [local go_sem ↓] reduceIte
attribute [local go_sem] Nat.reduceEqDiff Nat.reduceLT Nat.reduceLeDiff Nat.reduceAdd Nat.reduceMul Nat.reduceSub Nat.reduceDiv Nat.reduceMod Int.reduceToNat Int.reduceLT Int.reduceLE Int.reduceAdd Int.reduceSub Int.reduceMul Int.reduceEq Int.reduceNeg reduceCtorEq or_false false_or decide_true decide_false Int.cast_ofNat_Int Nat.zero_add Nat.add_zero Int.toNat_natCast Option.isNone_none Option.isNone_some Bool.not_true Bool.not_false Bool.xor_true Bool.xor_false Bool.true_xor Bool.false_xor Bool.and_true Bool.true_and Bool.and_false Bool.false_and eq_self ne_eq not_false_eq_true not_true_eq_false true_and and_true and_self
abbrev shO (gl m : Nat) (ap : V4) : Blk := .cells 98 [.v (gptr gl), .v (.map (some m)), cu ap.a, cu ap.b, cu ap.c, cu ap.d]
def ShSh (s : ShS) (nx : Nat) (hp : List (Nat × Blk)) : Prop := nx = 4 ∧ ∃ gl m es fpl fpc, (Rel es s.l ∧ WfL s.l) ∧
  hp = [(0, shO gl m s.ap), (1, .pred fpl (On gl (LnSh s.room s.w) fpl)), (2, .pred [m] (MapAt kenc m (emap es))), (3, .pred fpc (All CR es fpc))]
theorem sh_end {C : Cx} {fp : List Nat} {w w' : World} {fr : List (Nat × SV)} {hp : List (Nat × Blk)} {nx : Nat} {ρ : Env} {a : Act} {g : Nat} (s : ShS) (hw : C.w0 = w) (hM : C.M = (· ∈ fp)) (hs : Sat C ⟨fr, hp, nx⟩ ρ a w') (hg : (ρ 0).blk = g) (hb : (ρ 0).base = 0) {gl m : Nat} {es : List Ent3} {fpl fpc : List Nat} (hR : Rel es s.l) (hW : WfL s.l)
    (h0 : hget hp 0 = some (shO gl m s.ap)) (h1 : hget hp 1 = some (.pred fpl (On gl (LnSh s.room s.w) fpl))) (h2 : hget hp 2 = some (.pred [m] (MapAt kenc m (emap es)))) (h3 : hget hp 3 = some (.pred fpc (All CR es fpc))) : ∃ fp', On g (ShSh s) fp' w' ∧ Chg fp fp' w w' :=
  on_ends (Sh := ShSh s) (g := g) hw hM hs id (nx' := 4) (hp' := [(0, shO gl m s.ap), (1, .pred fpl (On gl (LnSh s.room s.w) fpl)), (2, .pred [m] (MapAt kenc m (emap es))), (3, .pred fpc (All CR es fpc))])
    ⟨⟨by omega, by simp [Blk.bl, CV.blL, CV.bl], h0⟩, ⟨by omega, trivial, h1⟩, ⟨by omega, trivial, h2⟩, ⟨by omega, trivial, h3⟩, trivial⟩ (by simp) rfl ⟨rfl, gl, m, es, fpl, fpc, ⟨hR, hW⟩, rfl⟩ hg hb (by omega)
def ShS.new (room : Nat) : ShS := ⟨room, [], [], ⟨0, 0, 0, 0⟩⟩
set_option maxHeartbeats 1000000 in
set_option maxRecDepth 100000 in
theorem shnew_c (room : Int) (w : World) : Calls Try.prog 9 #[.int .i64 room] w fun e w' =>
    if roomOk room then ∃ g fp', e = .returned (.tuple #[gptr g, .int .i64 0]) ∧ On g (ShSh (ShS.new room.toNat)) fp' w' ∧ Chg [] fp' w w' else e = .returned (.tuple #[.pointer none, .int .i64 1]) ∧ Below w.heap.size w w' := by
  refine calls_pure 18 _ Try.func9 rfl Try.ntmps9 Try.results9 [.c (.v (.int .i64 room))] (by simp) (fun _ => rfl) ?_
  cases hok : roomOk room
  · simp only [Bool.false_eq_true, if_false]
    simp (disch := omega) only [go_sem, wrapI64, wrapu64, wrapu32, wrapu8, ltT, ltF, leT, leF, eqF, eqT, nltT, nleT, neqFn]
    refine lnew_bad hok ?_
    simp (disch := omega) only [go_sem, wrapI64, wrapu64, wrapu32, wrapu8, ltT, ltF, leT, leF, eqF, eqT, nltT, nleT, neqFn]
    exact fun ρ a w hs _ => ⟨rfl, hs.grown⟩
  · simp only [if_true]
    simp (disch := omega) only [go_sem, wrapI64, wrapu64, wrapu32, wrapu8, ltT, ltF, leT, leF, eqF, eqT, nltT, nleT, neqFn]
    refine lnew_s hok rfl fun gl fpl => ?_
    simp (disch := omega) only [go_sem, wrapI64, wrapu64, wrapu32, wrapu8, ltT, ltF, leT, leF, eqF, eqT, nltT, nleT, neqFn]
    refine smakeMap kenc ⟨Nat.le_of_ble_eq_true rfl, fun m => ?_⟩
    simp (disch := omega) only [go_sem, wrapI64, wrapu64, wrapu32, wrapu8, ltT, ltF, leT, leF, eqF, eqT, nltT, nleT, neqFn]
    refine fun ρ a w' hs _ => ?_
    have hb := (hs.now.hp 2 _ (mem_hget rfl)).1
    have hs2 := hs.addNone (R := CR)
    have hb2 := (hs2.now.hp 2 _ (mem_hget rfl)).1
    obtain ⟨fp', hon, hch⟩ := on_ends (fp := []) (Sh := ShSh (ShS.new room.toNat)) (g := (ρ 2).blk) rfl (by funext k; simp) hs2 (fun k => if k = 0 then 2 else if k = 1 then 0 else if k = 2 then 1 else 3) (nx' := 4)
      (hp' := [(0, shO gl m ⟨0, 0, 0, 0⟩), (1, .pred fpl (On gl (LnSh room.toNat []) fpl)), (2, .pred [m] (MapAt kenc m [])), (3, .pred [] (All CR [] []))])
      ⟨⟨by omega, by simp [Blk.bl, CV.blL, CV.bl], rfl⟩, ⟨by omega, trivial, rfl⟩, ⟨by omega, trivial, rfl⟩, ⟨by omega, trivial, rfl⟩, trivial⟩ (by simp) rfl ⟨rfl, gl, m, [], fpl, [], ⟨Rel.nil, WfL.nil⟩, rfl⟩ (by simp [envSet]) hb2 (by omega)
    exact ⟨(ρ 2).blk, fp', by simp [SV.den, SV.denL, CV.den, gptr, hb], hon, hch⟩
theorem shwait_c (g : Nat) (s : ShS) (fp : List Nat) (w : World) (h : On g (ShSh s) fp w) : Calls Try.prog 26 #[gptr g] w (TurnK g fp (.int .i64 s.w.length) (ShSh s) w) := by
  refine on_calls2 h 8 _ Try.func26 rfl Try.ntmps26 Try.results26 [.c (.p 0 0 0)] (by simp) (fun ρ' h1 h2 => by simp [SV.denL, SV.den, CV.den, gptr, h1, h2]) (fun ρ nx hp hsh hg hb hh => ?_)
  have hsh0 := hsh
  obtain ⟨rfl, gl, m, es, fpl, fpc, hR, rfl⟩ := hsh
  simp (disch := omega) only [go_sem, wrapI64, wrapu64, wrapu32, wrapu8, ltT, ltF, leT, leF, eqF, eqT, nltT, nleT, neqFn]
  refine llen_s 1 rfl rfl ?_
  simp (disch := omega) only [go_sem, wrapI64, wrapu64, wrapu32, wrapu8, ltT, ltF, leT, leF, eqF, eqT, nltT, nleT, neqFn]
  exact fun ρ' a w' hs' hag => ⟨rfl, on_same rfl rfl hs' hag hh rfl hsh0 hg hb⟩
set_option maxRecDepth 100000 in
theorem shroom_c (g : Nat) (s : ShS) (hr : s.room ≤ 1000 ∧ s.w.length ≤ 1000) (fp : List Nat) (w : World) (h : On g (ShSh s) fp w) : Calls Try.prog 27 #[gptr g] w (TurnK g fp (.int .i64 ((s.room : Int) - s.w.length)) (ShSh s) w) := by
  refine on_calls2 h 14 _ Try.func27 rfl Try.ntmps27 Try.results27 [.c (.p 0 0 0)] (by simp) (fun ρ' h1 h2 => by simp [SV.denL, SV.den, CV.den, gptr, h1, h2]) (fun ρ nx hp hsh hg hb hh => ?_)
  have hsh0 := hsh
  obtain ⟨rfl, gl, m, es, fpl, fpc, hR, rfl⟩ := hsh
  simp (disch := omega) only [go_sem, wrapI64, wrapu64, wrapu32, wrapu8, ltT, ltF, leT, leF, eqF, eqT, nltT, nleT, neqFn]
  refine sdraw0 [.t 0, .t 1, .t 2, .t 3, .t 5, .t 6, .t 7, .t 8, .r 4, .r 9, .t 10, .t 11] 12 rfl (by kernel_rfl) ?_
  simp (disch := omega) only [go_sem, wrapI64, wrapu64, wrapu32, wrapu8, ltT, ltF, leT, leF, eqF, eqT, nltT, nleT, neqFn]
  refine lroom_s 1 rfl rfl ?_
  simp (disch := omega) only [go_sem, wrapI64, wrapu64, wrapu32, wrapu8, ltT, ltF, leT, leF, eqF, eqT, nltT, nleT, neqFn]
  refine llen_s 1 rfl rfl ?_
  simp (disch := omega) only [go_sem, wrapI64, wrapu64, wrapu32, wrapu8, ltT, ltF, leT, leF, eqF, eqT, nltT, nleT, neqFn]
  exact fun ρ' a w' hs' hag => ⟨rfl, on_same rfl rfl hs' hag hh rfl hsh0 hg hb⟩
theorem shappl_c (g : Nat) (s : ShS) (fp : List Nat) (w : World) (h : On g (ShSh s) fp w) : Calls Try.prog 28 #[gptr g] w (TurnK g fp s.ap.v (ShSh s) w) := by
  refine on_calls2 h 7 _ Try.func28 rfl Try.ntmps28 Try.results28 [.c (.p 0 0 0)] (by simp) (fun ρ' h1 h2 => by simp [SV.denL, SV.den, CV.den, gptr, h1, h2]) (fun ρ nx hp hsh hg hb hh => ?_)
  have hsh0 := hsh
  obtain ⟨rfl, gl, m, es, fpl, fpc, hR, rfl⟩ := hsh
  simp (disch := omega) only [go_sem, wrapI64, wrapu64, wrapu32, wrapu8, ltT, ltF, leT, leF, eqF, eqT, nltT, nleT, neqFn]
  exact fun ρ' a w' hs' hag => ⟨rfl, on_same rfl rfl (hs'.sub (hp' := [(0, shO gl m s.ap), (1, .pred fpl (On gl (LnSh s.room s.w) fpl)), (2, .pred [m] (MapAt kenc m (emap es))), (3, .pred fpc (All CR es fpc))]) ⟨rfl, rfl, rfl, rfl, trivial⟩ (by simp)) hag hh rfl hsh0 hg hb⟩
theorem push1_c (x : Wr) (w : World) : Calls Try.prog 48 #[x.val] w fun e w' => e = .returned (.bool !x.right) ∧ Below w.heap.size w w' := by
  refine calls_pure 6 _ Try.func48 rfl Try.ntmps48 Try.results48 [.agg x.c] (by simp) (fun _ => rfl) ?_
  simp (disch := omega) only [go_sem, wrapI64, wrapu64, wrapu32, wrapu8, ltT, ltF, leT, leF, eqF, eqT, nltT, nleT, neqFn]
  refine scall_pure [x.val] (.c (.v (.bool x.right))) (.bool x.right) Try.call49 (wright_c x) rfl (fun _ => rfl) (fun _ => rfl) ?_
  simp (disch := omega) only [go_sem, wrapI64, wrapu64, wrapu32, wrapu8, ltT, ltF, leT, leF, eqF, eqT, nltT, nleT, neqFn]
  exact fun ρ a w hs _ => ⟨rfl, hs.grown⟩
def ShS.pushB (s : ShS) (st : Stp) (ws : List Wr) : Bool := st.right && (!(ws.any fun x => !x.right) && decide (s.w.length < s.room))
def ShS.push (s : ShS) (st : Stp) (ws : List Wr) : ShS := if s.pushB st ws then { s with w := s.w ++ [(st, ws)] } else s
def wslv (n b o c : Nat) : Value := if n = 0 then .slice none 0 0 else .slice (some ⟨b, o, none⟩) n c
end Go.Proofs.Ytagjblkfgjcmnaa
namespace Go.Proofs.Ytagjblkfgjcmnaa
open Go.RowKit Go.Sx CW
attribute [local go_sem ↓] reduceIte
attribute [local go_sem] Nat.reduceEqDiff Nat.reduceLT Nat.reduceLeDiff Nat.reduceAdd Nat.reduceMul Nat.reduceSub Nat.reduceDiv Nat.reduceMod Int.reduceToNat Int.reduceLT Int.reduceLE Int.reduceAdd Int.reduceSub Int.reduceMul Int.reduceEq Int.reduceNeg reduceCtorEq or_false false_or decide_true decide_false Int.cast_ofNat_Int Nat.zero_add Nat.add_zero Int.toNat_natCast Option.isNone_none Option.isNone_some Bool.not_true Bool.not_false Bool.xor_true Bool.xor_false Bool.true_xor Bool.false_xor Bool.and_true Bool.true_and Bool.and_false Bool.false_and eq_self ne_eq not_false_eq_true not_true_eq_false true_and and_true and_self
theorem push_no {s : ShS} {st : Stp} {ws : List Wr} (h : s.pushB st ws = false) : s.push st ws = s := by unfold ShS.push; rw [h]; rfl
theorem push_l (s : ShS) (st : Stp) (ws : List Wr) : (s.push st ws).l = s.l := by unfold ShS.push; split <;> rfl
theorem push_ap (s : ShS) (st : Stp) (ws : List Wr) : (s.push st ws).ap = s.ap := by unfold ShS.push; split <;> rfl
theorem push_room (s : ShS) (st : Stp) (ws : List Wr) : (s.push st ws).room = s.room := by unfold ShS.push; split <;> rfl
theorem push_w (s : ShS) (st : Stp) (ws : List Wr) : (s.push st ws).w = if s.pushB st ws then s.w ++ [(st, ws)] else s.w := by unfold ShS.push; split <;> rfl
theorem push1_s (hp : List (Nat × Blk)) (nx : Nat) (x : Wr) (d : Option Tmp) (K : St → Prop) (C : Cx) (fr : List (Nat × SV)) (nx' : Nat) (_ : nx ≤ nx') (h : dOk C.N d ∧ kput K ⟨fr, hp, nx'⟩ d (.c (.v (.bool (!x.right))))) : SCall Try.prog C 48 ([.agg x.c] ++ List.map .c []) d K ⟨fr, hp, nx'⟩ :=
  scall_pure [x.val] _ (.bool (!x.right)) Try.call48 (push1_c x) rfl (fun _ => rfl) (fun _ => rfl) h
set_option maxHeartbeats 4000000 in
set_option maxRecDepth 100000 in
theorem shpush_c (g : Nat) (s : ShS) (st : Stp) (ws : List Wr) (hlen : ws.length ≤ 1000000) (fp : List Nat) (w : World) (h : On g (ShSh s) fp w) (b o c : Nat) (hi : ImmAt w b o 4 ws.length (wrw ws)) (hb : 0 < ws.length → b ∉ fp) :
    Calls Try.prog 18 #[gptr g, st.val, wslv ws.length b o c] w (Turn g fp (.bool (s.pushB st ws)) (ShSh (s.push st ws)) w) := by
  have z0 : 0 < 4 := by decide
  have z1 : 0 < 5 := by decide
  by_cases hw0 : ws = []
  · subst hw0
    refine on_calls h 27 _ Try.func18 rfl Try.ntmps18 Try.results18 [.c (.p 0 0 0), sst st.v.a st.v.b st.v.c st.v.d st.dc, .c (.v (.slice none 0 0))] (by simp) (fun ρ' h1 h2 => by simp [SV.denL, SV.den, CV.den, CV.denL, gptr, h1, h2, wslv, Stp.val, Stp.l]) (fun ρ nx hp hsh hg hb => ?_)
    obtain ⟨rfl, gl, m, es, fpl, fpc, hR, rfl⟩ := hsh
    simp (disch := omega) only [go_sem, wrapI64, wrapu64, wrapu32, wrapu8, ltT, ltF, leT, leF, eqF, eqT, nltT, nleT, neqFn]
    refine sdraw [.t 0, .r 1, .t 2, .t 3, .t 4, .r 5, .t 6, .t 7, .t 8, .t 9, .t 10, .t 11, .t 12, .t 13, .t 14, .r 15, .t 16, .r 17, .t 18, .t 19] 20 [(0, _), (4, _)] rfl (by kernel_rfl) ⟨rfl, rfl, trivial⟩ ?_
    simp (disch := omega) only [go_sem, wrapI64, wrapu64, wrapu32, wrapu8, ltT, ltF, leT, leF, eqF, eqT, nltT, nleT, neqFn]
    refine sright_s ?_
    cases hr : Stp.right ⟨⟨st.v.a, st.v.b, st.v.c, st.v.d⟩, st.dc⟩
    · simp (disch := omega) only [go_sem, wrapI64, wrapu64, wrapu32, wrapu8, ltT, ltF, leT, leF, eqF, eqT, nltT, nleT, neqFn]
      have hpb : s.pushB st [] = false := by unfold ShS.pushB; rw [show st.right = false from hr]; rfl
      refine fun ρ' a w' hs' hag => ?_
      obtain ⟨fp', hon, hch⟩ := sh_end s rfl rfl hs' ((congrArg Nm.blk (hag 0 z0)).trans hg) ((congrArg Nm.base (hag 0 z0)).trans hb) hR.1 hR.2 rfl rfl rfl rfl
      exact ⟨fp', by rw [hpb]; rfl, by rw [push_no hpb]; exact hon, hch⟩
    · simp (disch := omega) only [go_sem, wrapI64, wrapu64, wrapu32, wrapu8, ltT, ltF, leT, leF, eqF, eqT, nltT, nleT, neqFn]
      refine contains_s (ws := []) (.nil rfl) (by simp) (fun x => !x.right) 48 [] (push1_s _ _) (Nat.le_of_ble_eq_true rfl) rfl ?_
      simp (disch := omega) only [go_sem, wrapI64, wrapu64, wrapu32, wrapu8, ltT, ltF, leT, leF, eqF, eqT, nltT, nleT, neqFn, List.any_nil]
      refine clone_s (ws := []) (.nil rfl) (by simp) (Nat.le_of_ble_eq_true rfl) rfl (fun _ => ?_) (fun h => absurd h (by simp))
      simp (disch := omega) only [go_sem, wrapI64, wrapu64, wrapu32, wrapu8, ltT, ltF, leT, leF, eqF, eqT, nltT, nleT, neqFn]
      refine lput_s0 1 st rfl rfl fun fp' => ?_
      simp (disch := omega) only [go_sem, wrapI64, wrapu64, wrapu32, wrapu8, ltT, ltF, leT, leF, eqF, eqT, nltT, nleT, neqFn]
      have hpb : s.pushB st [] = decide (s.w.length < s.room) := by unfold ShS.pushB; rw [show st.right = true from hr]; simp
      refine fun ρ' a w' hs' hag => ?_
      obtain ⟨fp', hon, hch⟩ := sh_end (s.push st []) rfl rfl hs' ((congrArg Nm.blk (hag 0 z0)).trans hg) ((congrArg Nm.base (hag 0 z0)).trans hb) (es := es) (m := m) (gl := gl) (fpl := fp') (by rw [push_l]; exact hR.1) (by rw [push_l]; exact hR.2) (by rw [push_ap]; rfl) (by rw [push_room, push_w, hpb]; rfl) rfl rfl
      exact ⟨fp', by rw [hpb]; rfl, hon, hch⟩
  · have hpos : 0 < ws.length := List.length_pos_iff.2 hw0
    refine on_callsI h hi hb 27 _ Try.func18 rfl Try.ntmps18 Try.results18 (fun k => [.c (.p 0 0 0), sst st.v.a st.v.b st.v.c st.v.d st.dc, .c (.s k 0 ws.length c)]) (by simp) (fun k ρ' h1 h2 h3 => by simp [SV.denL, SV.den, CV.den, CV.denL, gptr, h1, h2, h3, wslv, Stp.val, Stp.l, Nat.ne_of_gt hpos]) (fun ρ nx hp hsh hg hb hat => ?_)
    obtain ⟨rfl, gl, m, es, fpl, fpc, hR, rfl⟩ := hsh
    simp (disch := omega) only [go_sem, wrapI64, wrapu64, wrapu32, wrapu8, ltT, ltF, leT, leF, eqF, eqT, nltT, nleT, neqFn]
    refine sdraw [.t 0, .r 1, .t 2, .t 3, .t 4, .r 5, .t 6, .t 7, .t 8, .t 9, .t 10, .t 11, .t 12, .t 13, .t 14, .r 15, .t 16, .r 17, .t 18, .t 19] 20 [(0, _), (5, _)] rfl (by kernel_rfl) ⟨rfl, rfl, trivial⟩ ?_
    simp (disch := omega) only [go_sem, wrapI64, wrapu64, wrapu32, wrapu8, ltT, ltF, leT, leF, eqF, eqT, nltT, nleT, neqFn]
    refine sright_s ?_
    cases hr : Stp.right ⟨⟨st.v.a, st.v.b, st.v.c, st.v.d⟩, st.dc⟩
    · simp (disch := omega) only [go_sem, wrapI64, wrapu64, wrapu32, wrapu8, ltT, ltF, leT, leF, eqF, eqT, nltT, nleT, neqFn]
      have hpb : s.pushB st ws = false := by unfold ShS.pushB; rw [show st.right = false from hr]; rfl
      refine fun ρ' a w' hs' hag => ?_
      obtain ⟨fp', hon, hch⟩ := sh_end s rfl rfl hs' ((congrArg Nm.blk (hag 0 z1)).trans hg) ((congrArg Nm.base (hag 0 z1)).trans hb) hR.1 hR.2 rfl rfl rfl rfl
      exact ⟨fp', by rw [hpb]; rfl, by rw [push_no hpb]; exact hon, hch⟩
    · simp (disch := omega) only [go_sem, wrapI64, wrapu64, wrapu32, wrapu8, ltT, ltF, leT, leF, eqF, eqT, nltT, nleT, neqFn]
      refine contains_s (ws := ws) (.imm 4 0 c ws.length _ rfl ⟨hpos, by omega⟩ (fun i hi => by rw [Nat.zero_add])) (by omega) (fun x => !x.right) 48 [] (push1_s _ _) (Nat.le_of_ble_eq_true rfl) rfl ?_
      cases hany : ws.any fun x => !x.right
      · simp (disch := omega) only [go_sem, wrapI64, wrapu64, wrapu32, wrapu8, ltT, ltF, leT, leF, eqF, eqT, nltT, nleT, neqFn]
        refine clone_s (ws := ws) (.imm 4 0 c ws.length _ rfl ⟨hpos, by omega⟩ (fun i hi => by rw [Nat.zero_add])) (by omega) (Nat.le_of_ble_eq_true rfl) rfl (fun h => absurd h hw0) (fun _ c' hc' => ?_)
        simp (disch := omega) only [go_sem, wrapI64, wrapu64, wrapu32, wrapu8, ltT, ltF, leT, leF, eqF, eqT, nltT, nleT, neqFn]
        refine lput_s 1 7 (by decide) st ws ⟨hpos, hc'⟩ (fun i hi => rfl) rfl rfl rfl fun fp' => ?_
        simp (disch := omega) only [go_sem, wrapI64, wrapu64, wrapu32, wrapu8, ltT, ltF, leT, leF, eqF, eqT, nltT, nleT, neqFn]
        have hpb : s.pushB st ws = decide (s.w.length < s.room) := by unfold ShS.pushB; rw [show st.right = true from hr, hany]; simp
        refine fun ρ' a w' hs' hag => ?_
        obtain ⟨fp', hon, hch⟩ := sh_end (s.push st ws) rfl rfl hs' ((congrArg Nm.blk (hag 0 z1)).trans hg) ((congrArg Nm.base (hag 0 z1)).trans hb) (es := es) (m := m) (gl := gl) (fpl := fp') (by rw [push_l]; exact hR.1) (by rw [push_l]; exact hR.2) (by rw [push_ap]; rfl) (by rw [push_room, push_w, hpb]; rfl) rfl rfl
        exact ⟨fp', by rw [hpb]; rfl, hon, hch⟩
      · simp (disch := omega) only [go_sem, wrapI64, wrapu64, wrapu32, wrapu8, ltT, ltF, leT, leF, eqF, eqT, nltT, nleT, neqFn]
        have hpb : s.pushB st ws = false := by unfold ShS.pushB; rw [show st.right = true from hr, hany]; rfl
        refine fun ρ' a w' hs' hag => ?_
        obtain ⟨fp', hon, hch⟩ := sh_end s rfl rfl hs' ((congrArg Nm.blk (hag 0 z1)).trans hg) ((congrArg Nm.base (hag 0 z1)).trans hb) hR.1 hR.2 rfl rfl rfl rfl
        exact ⟨fp', by rw [hpb]; rfl, by rw [push_no hpb]; exact hon, hch⟩
end Go.Proofs.Ytagjblkfgjcmnaa
namespace Go.Proofs.Ytagjblkfgjcmnaa
open Go.RowKit Go.Sx CW
attribute [local go_sem ↓] reduceIte
attribute [local go_sem] Nat.reduceEqDiff Nat.reduceLT Nat.reduceLeDiff Nat.reduceAdd Nat.reduceMul Nat.reduceSub Nat.reduceDiv Nat.reduceMod Int.reduceToNat Int.reduceLT Int.reduceLE Int.reduceAdd Int.reduceSub Int.reduceMul Int.reduceEq Int.reduceNeg reduceCtorEq or_false false_or decide_true decide_false Int.cast_ofNat_Int Nat.zero_add Nat.add_zero Int.toNat_natCast Option.isNone_none Option.isNone_some Bool.not_true Bool.not_false Bool.xor_true Bool.xor_false Bool.true_xor Bool.false_xor Bool.and_true Bool.true_and Bool.and_false Bool.false_and eq_self ne_eq not_false_eq_true not_true_eq_false true_and and_true and_self
def ShS.rd (s : ShS) (k : Ky) (at' : V4) : Ver := rdV (chn s.l k) fun x => x.st.seen at'
def ShS.rdO (s : ShS) (k : Ky) (at' : V4) : Bool := rdB (chn s.l k) fun x => x.st.seen at'
def ShS.la (s : ShS) (k : Ky) : Ver := rdV (chn s.l k) fun _ => true
def ShS.laO (s : ShS) (k : Ky) : Bool := rdB (chn s.l k) fun _ => true
set_option maxHeartbeats 4000000 in
set_option maxRecDepth 100000 in
theorem shread_c (g : Nat) (s : ShS) (hl : s.l.length ≤ 100000) (k : Ky) (at' : V4) (fp : List Nat) (w : World) (h : On g (ShSh s) fp w) :
    Calls Try.prog 22 #[gptr g, .string k.1, .string k.2, at'.v] w (Turn g fp (.tuple #[.string (s.rd k at').x.x, (s.rd k at').st.val, .bool (s.rdO k at' && !(s.rd k at').x.g)]) (ShSh s) w) := by
  have z0 : 0 < 4 := by decide
  refine on_calls h 34 _ Try.func22 rfl Try.ntmps22 Try.results22 [.c (.p 0 0 0), .c (.v (.string k.1)), .c (.v (.string k.2)), at'.sv] (by simp) (fun ρ' h1 h2 => by simp [SV.denL, SV.den, CV.den, CV.denL, gptr, h1, h2]) (fun ρ nx hp hsh hg hb => ?_)
  obtain ⟨rfl, gl, m, es, fpl, fpc, hR, rfl⟩ := hsh
  simp (disch := omega) only [go_sem, wrapI64, wrapu64, wrapu32, wrapu8, ltT, ltF, leT, leF, eqF, eqT, nltT, nleT, neqFn]
  refine sdraw [.t 0, .t 1, .t 2, .t 4, .c 3 [.c 5 [.t 6, .t 7, .t 8, .r 9, .r 10, .t 11] 9 [.r 5, .t 6, .t 7, .t 8, .r 10, .t 11]] 9 [.r 3, .r 5, .t 6, .t 7, .t 8, .r 10, .t 11]] 12 [(4, _)] rfl (by kernel_rfl) ⟨rfl, trivial⟩ ?_
  simp (disch := omega) only [go_sem, wrapI64, wrapu64, wrapu32, wrapu8, ltT, ltF, leT, leF, eqF, eqT, nltT, nleT, neqFn]
  refine ⟨?_, ?_⟩
  · refine of_s 0 2 3 k rfl rfl rfl (by decide) (Nat.le_of_ble_eq_true rfl) fun a g0 c b fp1 ha ht => ?_
    simp (disch := omega) only [go_sem, wrapI64, wrapu64, wrapu32, wrapu8, ltT, ltF, leT, leF, eqF, eqT, nltT, nleT, neqFn]
    have hR' := hR.1.touch ht
    have hc := hR'.chn
    refine ⟨?_, ?_⟩
    · refine all_same_s 3 a b (k, g0, c) CR.stable [gptr g0, at'.v] (.tuple #[(s.rd k at').val, .bool (s.rdO k at')]) (.tup [.agg (Ver.c (s.rd k at')), .c (.v (.bool (s.rdO k at')))]) Try.call56 (fun f1 w h => by
        have := cread_c g0 c (by rw [hc]; exact Nat.le_trans (chn_le hR.2 k) (by omega)) at' f1 w h
        rw [hc] at this
        subst hc
        exact this) rfl rfl (fun _ => rfl) (fun _ => rfl) rfl ?_
      simp (disch := omega) only [go_sem, wrapI64, wrapu64, wrapu32, wrapu8, ltT, ltF, leT, leF, eqF, eqT, nltT, nleT, neqFn, Ver.c]
      refine sdraw [.t 0, .t 1, .t 2, .t 3, .t 4, .t 5, .t 6, .t 7, .t 8, .t 9, .t 10, .t 11, .t 12, .r 13, .t 14] 15 [(7, _)] rfl (by kernel_rfl) ⟨rfl, trivial⟩ ?_
      simp (disch := omega) only [go_sem, wrapI64, wrapu64, wrapu32, wrapu8, ltT, ltF, leT, leF, eqF, eqT, nltT, nleT, neqFn, Ver.c]
      cases ho : s.rdO k at'
      · simp (disch := omega) only [go_sem, wrapI64, wrapu64, wrapu32, wrapu8, ltT, ltF, leT, leF, eqF, eqT, nltT, nleT, neqFn, Ver.c]
        refine fun ρ' a w' hs' hag => ?_
        obtain ⟨fp', hon, hch⟩ := sh_end s rfl rfl hs' ((congrArg Nm.blk (hag 0 z0)).trans hg) ((congrArg Nm.base (hag 0 z0)).trans hb) hR' hR.2 rfl rfl rfl rfl
        exact ⟨fp', by simp [SV.den, SV.denL, CV.den, CV.denL, Stp.val, Stp.l], hon, hch⟩
      · simp (disch := omega) only [go_sem, wrapI64, wrapu64, wrapu32, wrapu8, ltT, ltF, leT, leF, eqF, eqT, nltT, nleT, neqFn, Ver.c]
        refine fun ρ' a w' hs' hag => ?_
        obtain ⟨fp', hon, hch⟩ := sh_end s rfl rfl hs' ((congrArg Nm.blk (hag 0 z0)).trans hg) ((congrArg Nm.base (hag 0 z0)).trans hb) hR' hR.2 rfl rfl rfl rfl
        exact ⟨fp', by simp [SV.den, SV.denL, CV.den, CV.denL, Stp.val, Stp.l], hon, hch⟩
    · refine all_same_s 3 a b (k, g0, c) CR.stable [gptr g0, at'.v] (.tuple #[(s.rd k at').val, .bool (s.rdO k at')]) (.tup [.agg (Ver.c (s.rd k at')), .c (.v (.bool (s.rdO k at')))]) Try.call56 (fun f1 w h => by
        have := cread_c g0 c (by rw [hc]; exact Nat.le_trans (chn_le hR.2 k) (by omega)) at' f1 w h
        rw [hc] at this
        subst hc
        exact this) rfl rfl (fun _ => rfl) (fun _ => rfl) rfl ?_
      simp (disch := omega) only [go_sem, wrapI64, wrapu64, wrapu32, wrapu8, ltT, ltF, leT, leF, eqF, eqT, nltT, nleT, neqFn, Ver.c]
      refine sdraw [.t 0, .t 1, .t 2, .t 3, .t 4, .t 5, .t 6, .t 7, .t 8, .t 9, .t 10, .t 11, .t 12, .r 13, .t 14] 15 [(7, _)] rfl (by kernel_rfl) ⟨rfl, trivial⟩ ?_
      simp (disch := omega) only [go_sem, wrapI64, wrapu64, wrapu32, wrapu8, ltT, ltF, leT, leF, eqF, eqT, nltT, nleT, neqFn, Ver.c]
      cases ho : s.rdO k at'
      · simp (disch := omega) only [go_sem, wrapI64, wrapu64, wrapu32, wrapu8, ltT, ltF, leT, leF, eqF, eqT, nltT, nleT, neqFn, Ver.c]
        refine fun ρ' a w' hs' hag => ?_
        obtain ⟨fp', hon, hch⟩ := sh_end s rfl rfl hs' ((congrArg Nm.blk (hag 0 z0)).trans hg) ((congrArg Nm.base (hag 0 z0)).trans hb) hR' hR.2 rfl rfl rfl rfl
        exact ⟨fp', by simp [SV.den, SV.denL, CV.den, CV.denL, Stp.val, Stp.l], hon, hch⟩
      · simp (disch := omega) only [go_sem, wrapI64, wrapu64, wrapu32, wrapu8, ltT, ltF, leT, leF, eqF, eqT, nltT, nleT, neqFn, Ver.c]
        refine fun ρ' a w' hs' hag => ?_
        obtain ⟨fp', hon, hch⟩ := sh_end s rfl rfl hs' ((congrArg Nm.blk (hag 0 z0)).trans hg) ((congrArg Nm.base (hag 0 z0)).trans hb) hR' hR.2 rfl rfl rfl rfl
        exact ⟨fp', by simp [SV.den, SV.denL, CV.den, CV.denL, Stp.val, Stp.l], hon, hch⟩
  · refine of_s 0 2 3 k rfl rfl rfl (by decide) (Nat.le_of_ble_eq_true rfl) fun a g0 c b fp1 ha ht => ?_
    simp (disch := omega) only [go_sem, wrapI64, wrapu64, wrapu32, wrapu8, ltT, ltF, leT, leF, eqF, eqT, nltT, nleT, neqFn]
    have hR' := hR.1.touch ht
    have hc := hR'.chn
    refine all_same_s 3 a b (k, g0, c) CR.stable [gptr g0, at'.v] (.tuple #[(s.rd k at').val, .bool (s.rdO k at')]) (.tup [.agg (Ver.c (s.rd k at')), .c (.v (.bool (s.rdO k at')))]) Try.call56 (fun f1 w h => by
      have := cread_c g0 c (by rw [hc]; exact Nat.le_trans (chn_le hR.2 k) (by omega)) at' f1 w h
      rw [hc] at this
      subst hc
      exact this) rfl rfl (fun _ => rfl) (fun _ => rfl) rfl ?_
    simp (disch := omega) only [go_sem, wrapI64, wrapu64, wrapu32, wrapu8, ltT, ltF, leT, leF, eqF, eqT, nltT, nleT, neqFn, Ver.c]
    refine sdraw [.t 0, .t 1, .t 2, .t 3, .t 4, .t 5, .t 6, .t 7, .t 8, .t 9, .t 10, .t 11, .t 12, .r 13, .t 14] 15 [(6, _)] rfl (by kernel_rfl) ⟨rfl, trivial⟩ ?_
    simp (disch := omega) only [go_sem, wrapI64, wrapu64, wrapu32, wrapu8, ltT, ltF, leT, leF, eqF, eqT, nltT, nleT, neqFn, Ver.c]
    cases ho : s.rdO k at'
    · simp (disch := omega) only [go_sem, wrapI64, wrapu64, wrapu32, wrapu8, ltT, ltF, leT, leF, eqF, eqT, nltT, nleT, neqFn, Ver.c]
      refine fun ρ' a w' hs' hag => ?_
      obtain ⟨fp', hon, hch⟩ := sh_end s rfl rfl hs' ((congrArg Nm.blk (hag 0 z0)).trans hg) ((congrArg Nm.base (hag 0 z0)).trans hb) hR' hR.2 rfl rfl rfl rfl
      exact ⟨fp', by simp [SV.den, SV.denL, CV.den, CV.denL, Stp.val, Stp.l], hon, hch⟩
    · simp (disch := omega) only [go_sem, wrapI64, wrapu64, wrapu32, wrapu8, ltT, ltF, leT, leF, eqF, eqT, nltT, nleT, neqFn, Ver.c]
      refine fun ρ' a w' hs' hag => ?_
      obtain ⟨fp', hon, hch⟩ := sh_end s rfl rfl hs' ((congrArg Nm.blk (hag 0 z0)).trans hg) ((congrArg Nm.base (hag 0 z0)).trans hb) hR' hR.2 rfl rfl rfl rfl
      exact ⟨fp', by simp [SV.den, SV.denL, CV.den, CV.denL, Stp.val, Stp.l], hon, hch⟩
set_option maxHeartbeats 4000000 in
set_option maxRecDepth 100000 in
theorem shlast_c (g : Nat) (s : ShS) (hl : s.l.length ≤ 100000) (k : Ky) (fp : List Nat) (w : World) (h : On g (ShSh s) fp w) :
    Calls Try.prog 24 #[gptr g, .string k.1, .string k.2] w (Turn g fp (.tuple #[(s.la k).x.val, (s.la k).st.val, .bool (s.laO k)]) (ShSh s) w) := by
  have z0 : 0 < 4 := by decide
  refine on_calls h 24 _ Try.func24 rfl Try.ntmps24 Try.results24 [.c (.p 0 0 0), .c (.v (.string k.1)), .c (.v (.string k.2))] (by simp) (fun ρ' h1 h2 => by simp [SV.denL, SV.den, CV.den, CV.denL, gptr, h1, h2]) (fun ρ nx hp hsh hg hb => ?_)
  obtain ⟨rfl, gl, m, es, fpl, fpc, hR, rfl⟩ := hsh
  simp (disch := omega) only [go_sem, wrapI64, wrapu64, wrapu32, wrapu8, ltT, ltF, leT, leF, eqF, eqT, nltT, nleT, neqFn]
  refine of_s 0 2 3 k rfl rfl rfl (by decide) (Nat.le_of_ble_eq_true rfl) fun a g0 c b fp1 ha ht => ?_
  simp (disch := omega) only [go_sem, wrapI64, wrapu64, wrapu32, wrapu8, ltT, ltF, leT, leF, eqF, eqT, nltT, nleT, neqFn]
  have hR' := hR.1.touch ht
  have hc := hR'.chn
  refine all_same_s 3 a b (k, g0, c) CR.stable [gptr g0] (.tuple #[(s.la k).val, .bool (s.laO k)]) (.tup [.agg (Ver.c (s.la k)), .c (.v (.bool (s.laO k)))]) Try.call57 (fun f1 w h => by
    have := clast_c g0 c (by rw [hc]; exact Nat.le_trans (chn_le hR.2 k) (by omega)) f1 w h
    rw [hc] at this
    subst hc
    exact this) rfl rfl (fun _ => rfl) (fun _ => rfl) rfl ?_
  simp (disch := omega) only [go_sem, wrapI64, wrapu64, wrapu32, wrapu8, ltT, ltF, leT, leF, eqF, eqT, nltT, nleT, neqFn, Ver.c]
  refine sdraw [.t 0, .t 1, .t 2, .t 3, .t 4, .r 5, .r 6, .t 7] 8 [(7, _)] rfl (by kernel_rfl) ⟨rfl, trivial⟩ ?_
  simp (disch := omega) only [go_sem, wrapI64, wrapu64, wrapu32, wrapu8, ltT, ltF, leT, leF, eqF, eqT, nltT, nleT, neqFn, Ver.c]
  refine fun ρ' a w' hs' hag => ?_
  obtain ⟨fp', hon, hch⟩ := sh_end s rfl rfl hs' ((congrArg Nm.blk (hag 0 z0)).trans hg) ((congrArg Nm.base (hag 0 z0)).trans hb) hR' hR.2 rfl rfl rfl rfl
  exact ⟨fp', by simp [SV.den, SV.denL, CV.den, CV.denL, Stp.val, Stp.l, Wr.val, Wr.l], hon, hch⟩
end Go.Proofs.Ytagjblkfgjcmnaa
namespace Go.Proofs.Ytagjblkfgjcmnaa
open Go.RowKit Go.Sx CW
attribute [local go_sem ↓] reduceIte
attribute [local go_sem] Nat.reduceEqDiff Nat.reduceLT Nat.reduceLeDiff Nat.reduceAdd Nat.reduceMul Nat.reduceSub Nat.reduceDiv Nat.reduceMod Int.reduceToNat Int.reduceLT Int.reduceLE Int.reduceAdd Int.reduceSub Int.reduceMul Int.reduceEq Int.reduceNeg reduceCtorEq or_false false_or decide_true decide_false Int.cast_ofNat_Int Nat.zero_add Nat.add_zero Int.toNat_natCast Option.isNone_none Option.isNone_some Bool.not_true Bool.not_false Bool.xor_true Bool.xor_false Bool.true_xor Bool.false_xor Bool.and_true Bool.true_and Bool.and_false Bool.false_and eq_self ne_eq not_false_eq_true not_true_eq_false true_and and_true and_self
def foldV (st : Stp) (ws : List Wr) (l : List Ver) (j : Nat) : List Ver := (ws.take j).foldl (addV st) l
theorem foldV_s {st : Stp} {ws : List Wr} {l : List Ver} {j : Nat} {x : Wr} (h : ws[j]? = some x) : foldV st ws l (j + 1) = addV st (foldV st ws l j) x := by
  obtain ⟨h1, rfl⟩ := List.getElem?_eq_some_iff.1 h
  unfold foldV
  rw [List.take_add_one, List.getElem?_eq_getElem h1, Option.toList_some, List.foldl_append]; rfl
theorem foldV_wf {st : Stp} {ws : List Wr} {l : List Ver} (h : WfL l) : ∀ j, WfL (foldV st ws l j) := fun j => by
  unfold foldV
  generalize ws.take j = m
  induction m generalizing l with
  | nil => exact h
  | cons x r ih => exact ih (h.add st x)
theorem foldV_len {st : Stp} {ws : List Wr} {l : List Ver} : ∀ j, (foldV st ws l j).length ≤ l.length + j := fun j => by
  have : ∀ (m : List Wr) (l : List Ver), (m.foldl (addV st) l).length ≤ l.length + m.length := fun m => by
    induction m with
    | nil => intro l; simp
    | cons x r ih =>
      intro l
      have := ih (addV st l x)
      have := addV_len l st x
      simp only [List.foldl_cons, List.length_cons]; omega
  have h := this (ws.take j) l
  have : (ws.take j).length ≤ j := List.length_take_le _ _
  unfold foldV; omega
abbrev stpFr (st : Stp) (n c j m4 : Nat) : List (Nat × SV) := [(20, .c (ci j)), (19, .c (ci n)), (18, .c (.s 4 0 n c)), (3, .c (.p m4 0 0)), (0, .c (.p 0 0 0))]
set_option maxHeartbeats 8000000 in
set_option maxRecDepth 100000 in
theorem shstep_c (g : Nat) (s : ShS) (hl : s.l.length ≤ 90000) (hw : ∀ x, x ∈ s.w → x.2.length ≤ 1000) (fp : List Nat) (w : World) (h : On g (ShSh s) fp w) :
    Calls Try.prog 14 #[gptr g] w (Turn g fp (.bool (!s.w.isEmpty)) (ShSh s.step) w) := by
  have z0 : 0 < 4 := by decide
  refine on_calls h 58 _ Try.func14 rfl Try.ntmps14 Try.results14 [.c (.p 0 0 0)] (by simp) (fun ρ' h1 h2 => by simp [SV.denL, SV.den, CV.den, CV.denL, gptr, h1, h2]) (fun ρ nx hp hsh hg hb => ?_)
  obtain ⟨rfl, gl, m, es, fpl, fpc, hR, rfl⟩ := hsh
  rcases hsw : s.w with _ | ⟨⟨st, ws⟩, rest⟩
  · simp (disch := omega) only [go_sem, wrapI64, wrapu64, wrapu32, wrapu8, ltT, ltF, leT, leF, eqF, eqT, nltT, nleT, neqFn]
    refine ltake_s0 1 rfl rfl ?_
    simp (disch := omega) only [go_sem, wrapI64, wrapu64, wrapu32, wrapu8, ltT, ltF, leT, leF, eqF, eqT, nltT, nleT, neqFn]
    refine fun ρ' a w' hs' hag => ?_
    obtain ⟨fp', hon, hch⟩ := sh_end s.step rfl rfl hs' ((congrArg Nm.blk (hag 0 z0)).trans hg) ((congrArg Nm.base (hag 0 z0)).trans hb) (es := es) (m := m) (gl := gl) (by simp [ShS.step, hsw, hR.1]) (by simp [ShS.step, hsw, hR.2]) (by simp [ShS.step, hsw]; rfl) (by simp [ShS.step, hsw]; rfl) rfl rfl
    exact ⟨fp', rfl, hon, hch⟩
  · rcases Nat.eq_zero_or_pos ws.length with h0 | hpos
    · have : ws = [] := List.length_eq_zero_iff.1 h0
      subst this
      have hst : s.step = ⟨s.room, rest, s.l, s.ap.wth st.dc (max st.n (s.ap.at st.dc))⟩ := by simp [ShS.step, hsw]
      simp (disch := omega) only [go_sem, wrapI64, wrapu64, wrapu32, wrapu8, ltT, ltF, leT, leF, eqF, eqT, nltT, nleT, neqFn]
      refine ltake_s1 1 rfl rfl fun fpl' => ?_
      simp (disch := omega) only [go_sem, wrapI64, wrapu64, wrapu32, wrapu8, ltT, ltF, leT, leF, eqF, eqT, nltT, nleT, neqFn]
      refine sloop_rounds 1 ?_
      simp (disch := omega) only [go_sem, wrapI64, wrapu64, wrapu32, wrapu8, ltT, ltF, leT, leF, eqF, eqT, nltT, nleT, neqFn]
      refine sdraw0 [.t 0, .t 1, .t 2, .t 3, .t 4, .t 5, .t 6, .t 7, .t 8, .t 9, .t 11, .t 12, .t 13, .t 14, .t 15, .t 16, .t 17, .r 10, .r 18, .t 19, .r 20, .t 21, .t 22, .r 23] 23 rfl (by kernel_rfl) ?_
      simp (disch := omega) only [go_sem, wrapI64, wrapu64, wrapu32, wrapu8, ltT, ltF, leT, leF, eqF, eqT, nltT, nleT, neqFn]
      refine n_s ?_
      simp (disch := omega) only [go_sem, wrapI64, wrapu64, wrapu32, wrapu8, ltT, ltF, leT, leF, eqF, eqT, nltT, nleT, neqFn]
      refine at_s ?_
      simp (disch := omega) only [go_sem, wrapI64, wrapu64, wrapu32, wrapu8, ltT, ltF, leT, leF, eqF, eqT, nltT, nleT, neqFn]
      refine with_s ?_
      simp (disch := omega) only [go_sem, wrapI64, wrapu64, wrapu32, wrapu8, ltT, ltF, leT, leF, eqF, eqT, nltT, nleT, neqFn]
      refine fun ρ' a w' hs' hag => ?_
      obtain ⟨fp', hon, hch⟩ := sh_end s.step rfl rfl hs' ((congrArg Nm.blk (hag 0 z0)).trans hg) ((congrArg Nm.base (hag 0 z0)).trans hb) (es := es) (m := m) (gl := gl) (by rw [hst]; exact hR.1) (by rw [hst]; exact hR.2) (by rw [hst]; rfl) (by rw [hst]; rfl) rfl rfl
      exact ⟨fp', rfl, hon, hch⟩
    · simp (disch := omega) only [go_sem, wrapI64, wrapu64, wrapu32, wrapu8, ltT, ltF, leT, leF, eqF, eqT, nltT, nleT, neqFn]
      refine ltake_s 1 hpos rfl rfl fun c fpl' hc => ?_
      simp (disch := omega) only [go_sem, wrapI64, wrapu64, wrapu32, wrapu8, ltT, ltF, leT, leF, eqF, eqT, nltT, nleT, neqFn]
      have hlw : ws.length ≤ 1000 := hw (st, ws) (by rw [hsw]; simp)
      refine sloop (fun p : Nat × List Ent3 × List Nat => ⟨stpFr st ws.length c p.1 5, [(5, .cells 95 [cu st.v.a, cu st.v.b, cu st.v.c, cu st.v.d, ci st.dc, .s 4 0 ws.length c]), (4, .rows 42 4 ws.length c fun j => (wrw ws j).map .v), (0, shO gl m s.ap), (1, .pred fpl' (On gl (LnSh s.room rest) fpl')), (2, .pred [m] (MapAt kenc m (emap p.2.1))), (3, .pred p.2.2 (All CR p.2.1 p.2.2))], 6⟩) (fun p => p.1 ≤ ws.length ∧ Rel p.2.1 (foldV st ws s.l p.1)) (fun p => ws.length - p.1) (0, es, fpc)
        ⟨by omega, hR.1⟩ (ent_drop ⟨rfl, rfl, rfl, rfl, rfl, trivial⟩ ⟨rfl, rfl, rfl, rfl, rfl, rfl, trivial⟩ (by simp)) (fun p hp => ?_)
      obtain ⟨j, es1, fpc1⟩ := p
      obtain ⟨hj, hR1⟩ : j ≤ ws.length ∧ Rel es1 (foldV st ws s.l j) := hp
      dsimp only
      by_cases hjl : j < ws.length
      · obtain ⟨x, hx⟩ : ∃ x, ws[j]? = some x := ⟨_, List.getElem?_eq_getElem hjl⟩
        have hrow : (wrw ws j).map CV.v = x.c := by rw [wrw_eq hx]; rfl
        simp (disch := omega) only [go_sem, wrapI64, wrapu64, wrapu32, wrapu8, ltT, ltF, leT, leF, eqF, eqT, nltT, nleT, neqFn, hrow]
        refine sdraw [.t 0, .t 1, .t 2, .t 3, .t 4, .t 6, .t 7, .t 8, .r 5, .r 9] 10 [(5, _), (6, _)] rfl (by kernel_rfl) ⟨rfl, rfl, trivial⟩ ?_
        simp (disch := omega) only [go_sem, wrapI64, wrapu64, wrapu32, wrapu8, ltT, ltF, leT, leF, eqF, eqT, nltT, nleT, neqFn]
        refine of_s 0 2 3 x.kk rfl rfl rfl (by decide) (Nat.le_of_ble_eq_true rfl) fun a g0 c0 b fp1 ha ht => ?_
        simp (disch := omega) only [go_sem, wrapI64, wrapu64, wrapu32, wrapu8, ltT, ltF, leT, leF, eqF, eqT, nltT, nleT, neqFn]
        have hR2 := hR1.touch ht
        have hc0 := hR2.chn
        have hwf := foldV_wf (st := st) (ws := ws) hR.2 j
        have hfl := foldV_len (st := st) (ws := ws) (l := s.l) j
        refine all_call_s (β := Unit) 3 a b (x.kk, g0, c0) (fun _ => (x.kk, g0, ins c0 st x)) CR.stable [gptr g0, st.val, x.val] (fun _ => .bool (insB c0 st)) (fun _ => .c (.v (.bool (insB c0 st)))) (fun _ => True) Try.call40 (fun f1 w h => by
          have := cadd_c g0 c0 (by rw [hc0]; exact chn_srt _ _) (by rw [hc0]; exact Nat.le_trans (chn_le hwf _) (by omega)) st x f1 w h
          exact this.mono fun e w' ⟨f1', h1, h2, h3⟩ => ⟨(), f1', ⟨trivial, h1⟩, h2, h3⟩) rfl rfl (fun _ => rfl) (fun _ _ => rfl) rfl fun _ fp2 _ => ?_
        simp (disch := omega) only [go_sem, wrapI64, wrapu64, wrapu32, wrapu8, ltT, ltF, leT, leF, eqF, eqT, nltT, nleT, neqFn]
        refine ⟨(j + 1, a ++ (x.kk, g0, ins c0 st x) :: b, fp2), ⟨hjl, ?_⟩, by simp only; omega, ent_low ⟨rfl, rfl, rfl, rfl, rfl, trivial⟩ ⟨rfl, rfl, rfl, rfl, ?_, rfl, trivial⟩ (by simp) ?_ ?_ (by show (4 : Nat) ≤ 6; omega)⟩
        · rw [foldV_s hx]; exact hR2.add
        · have : emap (a ++ (x.kk, g0, ins c0 st x) :: b) = emap (a ++ (x.kk, g0, c0) :: b) := by simp [emap]
          rw [this]; rfl
        · simp [frBl, SV.bl, CV.bl]
        · simp [hpBl, Blk.bl, CV.blL, CV.bl, blL_v]
      · have hje : j = ws.length := by omega
        subst hje
        have hst : s.step = ⟨s.room, rest, foldV st ws s.l ws.length, s.ap.wth st.dc (max st.n (s.ap.at st.dc))⟩ := by simp [ShS.step, hsw, foldV]
        simp (disch := omega) only [go_sem, wrapI64, wrapu64, wrapu32, wrapu8, ltT, ltF, leT, leF, eqF, eqT, nltT, nleT, neqFn]
        refine sdraw0 [.t 0, .t 1, .t 2, .t 3, .t 4, .t 5, .t 6, .t 7, .t 8, .t 9, .t 11, .t 12, .t 13, .t 14, .t 15, .t 16, .t 17, .r 10, .r 18, .t 19, .r 20, .t 21, .t 22, .r 23] 23 rfl (by kernel_rfl) ?_
        simp (disch := omega) only [go_sem, wrapI64, wrapu64, wrapu32, wrapu8, ltT, ltF, leT, leF, eqF, eqT, nltT, nleT, neqFn]
        refine n_s ?_
        simp (disch := omega) only [go_sem, wrapI64, wrapu64, wrapu32, wrapu8, ltT, ltF, leT, leF, eqF, eqT, nltT, nleT, neqFn]
        refine at_s ?_
        simp (disch := omega) only [go_sem, wrapI64, wrapu64, wrapu32, wrapu8, ltT, ltF, leT, leF, eqF, eqT, nltT, nleT, neqFn]
        refine with_s ?_
        simp (disch := omega) only [go_sem, wrapI64, wrapu64, wrapu32, wrapu8, ltT, ltF, leT, leF, eqF, eqT, nltT, nleT, neqFn]
        refine fun ρ' a w' hs' hag => ?_
        obtain ⟨fp', hon, hch⟩ := sh_end s.step rfl rfl hs' ((congrArg Nm.blk (hag 0 z0)).trans hg) ((congrArg Nm.base (hag 0 z0)).trans hb) (es := es1) (m := m) (gl := gl) (by rw [hst]; exact hR1) (by rw [hst]; exact foldV_wf hR.2 _) (by rw [hst]; rfl) (by rw [hst]; rfl) rfl rfl
        exact ⟨fp', rfl, hon, hch⟩
end Go.Proofs.Ytagjblkfgjcmnaa
namespace Go.Proofs.Ytagjblkfgjcmnaa
open Go.RowKit Go.Sx CW
attribute [local go_sem ↓] reduceIte
attribute [local go_sem] Nat.reduceEqDiff Nat.reduceLT Nat.reduceLeDiff Nat.reduceAdd Nat.reduceMul Nat.reduceSub Nat.reduceDiv Nat.reduceMod Int.reduceToNat Int.reduceLT Int.reduceLE Int.reduceAdd Int.reduceSub Int.reduceMul Int.reduceEq Int.reduceNeg reduceCtorEq or_false false_or decide_true decide_false Int.cast_ofNat_Int Nat.zero_add Nat.add_zero Int.toNat_natCast Option.isNone_none Option.isNone_some Bool.not_true Bool.not_false Bool.xor_true Bool.xor_false Bool.true_xor Bool.false_xor Bool.and_true Bool.true_and Bool.and_false Bool.false_and eq_self ne_eq not_false_eq_true not_true_eq_false true_and and_true and_self
theorem undone_bd {f : Nat → Int} (hf : ∀ i, 0 ≤ f i) {seen : List Nat} : ∀ {n : Nat}, 0 ≤ undone f n seen ∧ undone f n seen ≤ undone f n []
  | 0 => ⟨Int.le_refl _, Int.le_refl _⟩
  | n + 1 => by
    have ih := undone_bd hf (seen := seen) (n := n)
    have := hf n
    simp only [undone, List.not_mem_nil, if_false]
    split <;> omega
theorem undone_sum {α : Type} (f : α → Int) : ∀ l : List α, undone (fun i => ((l[i]?).map f).getD 0) l.length [] = (l.map f).sum := fun l => by
  rw [undone_none]
  congr 1
  refine List.ext_getElem? fun i => ?_
  by_cases h : i < l.length
  · simp [h]
  · simp [List.getElem?_eq_none (Nat.le_of_not_lt h)]; omega
theorem undone_le {f : Nat → Int} {i : Nat} (hf : ∀ i, 0 ≤ f i) {seen : List Nat} (hi : i ∉ seen) : ∀ {n : Nat}, i < n → f i ≤ undone f n seen
  | 0, h => by omega
  | n + 1, h => by
    have hb := undone_bd hf (seen := seen) (n := n)
    have := hf n
    by_cases e : i = n
    · subst e; simp only [undone, if_neg hi]; omega
    · have := undone_le hf hi (n := n) (by omega)
      simp only [undone]; split <;> omega
theorem emap_get {es : List Ent3} {i : Nat} {k : Ky} {v : Value} (h : (emap es)[i]? = some (k, v)) : ∃ g c, es[i]? = some (k, g, c) ∧ v = gptr g := by
  unfold emap at h
  rw [List.getElem?_map] at h
  cases hx : es[i]? with
  | none => rw [hx] at h; cases h
  | some x =>
    obtain ⟨k', g, c⟩ := x
    rw [hx] at h
    simp at h
    exact ⟨g, c, by rw [h.1], h.2.symm⟩
theorem split_at {α : Type} {l : List α} {i : Nat} {x : α} (h : l[i]? = some x) : l = l.take i ++ x :: l.drop (i + 1) := by
  obtain ⟨h1, rfl⟩ := List.getElem?_eq_some_iff.1 h
  rw [← List.drop_eq_getElem_cons h1, List.take_append_drop]
theorem emap_len (es : List Ent3) : (emap es).length = es.length := by simp [emap]
abbrev lenE (es : List Ent3) (i : Nat) : Int := ((es[i]?).map fun x => (x.2.2.length : Int)).getD 0
theorem lenE_nn (es : List Ent3) (i : Nat) : 0 ≤ lenE es i := by
  unfold lenE
  cases es[i]? <;> simp
set_option maxHeartbeats 4000000 in
set_option maxRecDepth 100000 in
theorem shvers_c (g : Nat) (s : ShS) (hl : s.l.length ≤ 100000) (fp : List Nat) (w : World) (h : On g (ShSh s) fp w) :
    Calls Try.prog 29 #[gptr g] w (TurnK g fp (.int .i64 s.l.length) (ShSh s) w) := by
  have z0 : 0 < 4 := by decide
  refine on_calls2 h 20 _ Try.func29 rfl Try.ntmps29 Try.results29 [.c (.p 0 0 0)] (by simp) (fun ρ' h1 h2 => by simp [SV.denL, SV.den, CV.den, gptr, h1, h2]) (fun ρ nx hp hsh hg hb hh => ?_)
  have hsh0 := hsh
  obtain ⟨rfl, gl, m, es, fpl, fpc, hR, rfl⟩ := hsh
  have hT : undone (lenE es) es.length [] = s.l.length := by
    rw [← hR.1.cnt hR.2]; exact undone_sum (fun x : Ent3 => (x.2.2.length : Int)) es
  simp (disch := omega) only [go_sem, wrapI64, wrapu64, wrapu32, wrapu8, ltT, ltF, leT, leF, eqF, eqT, nltT, nleT, neqFn]
  refine srange 2 Try.underlying96 rfl rfl ⟨Nat.le_of_ble_eq_true rfl, fun r => ?_⟩
  simp (disch := omega) only [go_sem, wrapI64, wrapu64, wrapu32, wrapu8, ltT, ltF, leT, leF, eqF, eqT, nltT, nleT, neqFn]
  refine sloop (fun seen : List Nat => ⟨[(3, .c (ci (s.l.length - undone (lenE es) es.length seen))), (10, .c (.v (gptr r)))], [(4, .pred [r] (ItAt r m (emap es).length seen)), (0, shO gl m s.ap), (1, .pred fpl (On gl (LnSh s.room s.w) fpl)), (2, .pred [m] (MapAt kenc m (emap es))), (3, .pred fpc (All CR es fpc))], 5⟩) (fun _ => True) (fun seen => (undone (fun _ => 1) es.length seen).toNat) []
    trivial (by rw [hT, Int.sub_self]; exact ent_drop ⟨rfl, rfl, trivial⟩ ⟨rfl, rfl, rfl, rfl, rfl, trivial⟩ (by simp)) (fun seen _ => ?_)
  have hb0 := undone_bd (lenE_nn es) (seen := seen) (n := es.length)
  simp (disch := omega) only [go_sem, wrapI64, wrapu64, wrapu32, wrapu8, ltT, ltF, leT, leF, eqF, eqT, nltT, nleT, neqFn]
  refine snext 2 4 rfl rfl rfl (fun hall => ?_) (fun i k v hi hkv => ?_) (Nat.le_of_ble_eq_true rfl)
  · have hz := undone_all (f := lenE es) fun i hi => hall i (by rw [emap_len]; exact hi)
    rw [hz]
    simp (disch := omega) only [go_sem, wrapI64, wrapu64, wrapu32, wrapu8, ltT, ltF, leT, leF, eqF, eqT, nltT, nleT, neqFn]
    refine fun ρ' a w' hs' hag => ⟨by simp [SV.den, CV.den], on_same rfl rfl (hs'.sub (hp' := [(0, shO gl m s.ap), (1, .pred fpl (On gl (LnSh s.room s.w) fpl)), (2, .pred [m] (MapAt kenc m (emap es))), (3, .pred fpc (All CR es fpc))]) ⟨rfl, rfl, rfl, rfl, trivial⟩ (by simp)) hag hh rfl hsh0 hg hb⟩
  · obtain ⟨g0, c, hes, rfl⟩ := emap_get hkv
    have hin : i < es.length := (List.getElem?_eq_some_iff.1 hes).1
    have hle : lenE es i = c.length := by simp [lenE, hes]
    have hu := undone_add (f := lenE es) hi (n := es.length)
    rw [if_pos hin, hle] at hu
    have hu2 := undone_le (lenE_nn es) hi hin
    rw [hle] at hu2
    have hsp := split_at hes
    simp (disch := omega) only [go_sem, wrapI64, wrapu64, wrapu32, wrapu8, ltT, ltF, leT, leF, eqF, eqT, nltT, nleT, neqFn]
    refine sentry 2 4 rfl rfl rfl hkv ⟨Nat.le_of_ble_eq_true rfl, ?_⟩
    simp (disch := omega) only [go_sem, wrapI64, wrapu64, wrapu32, wrapu8, ltT, ltF, leT, leF, eqF, eqT, nltT, nleT, neqFn]
    refine all_same_s 3 (es.take i) (es.drop (i + 1)) (k, g0, c) CR.stable [gptr g0] (.int .i64 c.length) (.c (ci c.length)) Try.call60 (fun f1 w h => clen_c g0 c f1 w h) (by rw [← hsp]; rfl) rfl (fun _ => rfl) (fun _ => rfl) rfl ?_
    simp (disch := omega) only [go_sem, wrapI64, wrapu64, wrapu32, wrapu8, ltT, ltF, leT, leF, eqF, eqT, nltT, nleT, neqFn]
    refine ⟨seen ++ [i], ?_, ?_⟩
    · have h1 := left_less hi hin
      have h2 := undone_nn (seen := seen ++ [i]) (n := es.length)
      omega
    · rw [hu]
      have e : (s.l.length : Int) - (undone (lenE es) es.length seen - c.length) = s.l.length - undone (lenE es) es.length seen + c.length := by omega
      rw [e]
      exact ent_drop ⟨rfl, rfl, trivial⟩ ⟨rfl, rfl, rfl, rfl, rfl, trivial⟩ (by simp)
abbrev difE (h : V4) (es : List Ent3) (i : Nat) : Int := ((es[i]?).map fun x => (x.2.2.length : Int) - (prn x.2.2 h).length).getD 0
theorem difE_nn (h : V4) (es : List Ent3) (i : Nat) : 0 ≤ difE h es i := by
  unfold difE
  cases es[i]? with
  | none => simp
  | some x =>
    have := prn_le x.2.2 h
    simp; omega
theorem dif_sum (h : V4) (es : List Ent3) : (es.map fun x : Ent3 => (x.2.2.length : Int) - (prn x.2.2 h).length).sum = cntE es - cntE (es.map (prnE h)) := by
  unfold cntE
  induction es with
  | nil => rfl
  | cons x r ih => simp only [List.map_cons, List.sum_cons, prnE] at ih ⊢; omega
def ShS.prune (s : ShS) (h : V4) : ShS := { s with l := pruL s.l h }
set_option maxHeartbeats 4000000 in
set_option maxRecDepth 100000 in
theorem shprune_c (g : Nat) (s : ShS) (hl : s.l.length ≤ 100000) (h : V4) (fp : List Nat) (w : World) (ho : On g (ShSh s) fp w) :
    Calls Try.prog 16 #[gptr g, h.v] w (Turn g fp (.int .i64 ((s.l.length : Int) - (pruL s.l h).length)) (ShSh (s.prune h)) w) := by
  have z0 : 0 < 4 := by decide
  refine on_calls ho 23 _ Try.func16 rfl Try.ntmps16 Try.results16 [.c (.p 0 0 0), h.sv] (by simp) (fun ρ' h1 h2 => by simp [SV.denL, SV.den, CV.den, CV.denL, gptr, h1, h2]) (fun ρ nx hp hsh hg hb => ?_)
  obtain ⟨rfl, gl, m, es, fpl, fpc, hR, rfl⟩ := hsh
  have hT : undone (difE h es) es.length [] = s.l.length - (pruL s.l h).length := by
    rw [← hR.1.cnt hR.2, ← (hR.1.prune hR.2 h).cnt (hR.2.filter _), ← dif_sum]; exact undone_sum (fun x : Ent3 => (x.2.2.length : Int) - (prn x.2.2 h).length) es
  have hTb : (s.l.length : Int) - (pruL s.l h).length ≤ 100000 := by omega
  simp (disch := omega) only [go_sem, wrapI64, wrapu64, wrapu32, wrapu8, ltT, ltF, leT, leF, eqF, eqT, nltT, nleT, neqFn]
  refine srange 2 Try.underlying96 rfl rfl ⟨Nat.le_of_ble_eq_true rfl, fun r => ?_⟩
  simp (disch := omega) only [go_sem, wrapI64, wrapu64, wrapu32, wrapu8, ltT, ltF, leT, leF, eqF, eqT, nltT, nleT, neqFn]
  refine sloop (fun p : List Nat × List Ent3 × List Nat => ⟨[(5, .c (ci ((s.l.length : Int) - (pruL s.l h).length - undone (difE h es) es.length p.1))), (12, .c (.v (gptr r))), (3, .c (.p 4 0 0))], [(5, .pred [r] (ItAt r m (emap es).length p.1)), (4, .cells 33 [cu h.a, cu h.b, cu h.c, cu h.d]), (0, shO gl m s.ap), (1, .pred fpl (On gl (LnSh s.room s.w) fpl)), (2, .pred [m] (MapAt kenc m (emap es))), (3, .pred p.2.2 (All CR p.2.1 p.2.2))], 6⟩) (fun p => ∀ i, p.2.1[i]? = if i ∈ p.1 then (es[i]?).map (prnE h) else es[i]?) (fun p => (undone (fun _ => 1) es.length p.1).toNat) ([], es, fpc)
    (fun i => by simp) (by dsimp only; rw [hT, Int.sub_self]; exact ent_drop ⟨rfl, rfl, rfl, trivial⟩ ⟨rfl, rfl, rfl, rfl, rfl, rfl, trivial⟩ (by simp)) (fun p hp => ?_)
  obtain ⟨seen, es1, fpc1⟩ := p
  have hp : ∀ i, es1[i]? = if i ∈ seen then (es[i]?).map (prnE h) else es[i]? := hp
  dsimp only
  have hb0 := undone_bd (difE_nn h es) (seen := seen) (n := es.length)
  simp (disch := omega) only [go_sem, wrapI64, wrapu64, wrapu32, wrapu8, ltT, ltF, leT, leF, eqF, eqT, nltT, nleT, neqFn]
  refine snext 2 5 rfl rfl rfl (fun hall => ?_) (fun i k v hi hkv => ?_) (Nat.le_of_ble_eq_true rfl)
  · have hall' : ∀ i, i < es.length → i ∈ seen := fun i hi => hall i (by rw [emap_len]; exact hi)
    have hz := undone_all (f := difE h es) hall'
    rw [hz]
    have hes1 : es1 = es.map (prnE h) := List.ext_getElem? fun i => by
      rw [hp i, List.getElem?_map]
      by_cases hi : i < es.length
      · rw [if_pos (hall' i hi)]
      · rw [List.getElem?_eq_none (Nat.le_of_not_lt hi)]; simp
    have hem : emap es = emap es1 := by rw [hes1]; simp [emap, prnE]
    simp (disch := omega) only [go_sem, wrapI64, wrapu64, wrapu32, wrapu8, ltT, ltF, leT, leF, eqF, eqT, nltT, nleT, neqFn]
    refine fun ρ' a w' hs' hag => ?_
    obtain ⟨fp', hon, hch⟩ := sh_end (s.prune h) rfl rfl hs' ((congrArg Nm.blk (hag 0 z0)).trans hg) ((congrArg Nm.base (hag 0 z0)).trans hb) (es := es1) (m := m) (gl := gl) (by rw [hes1]; exact hR.1.prune hR.2 h) (hR.2.filter _) rfl rfl (by rw [← hem]; rfl) rfl
    exact ⟨fp', by simp [SV.den, CV.den], hon, hch⟩
  · obtain ⟨g0, c, hes, rfl⟩ := emap_get hkv
    have hin : i < es.length := (List.getElem?_eq_some_iff.1 hes).1
    have hle : difE h es i = (c.length : Int) - (prn c h).length := by simp [difE, hes]
    have hu := undone_add (f := difE h es) hi (n := es.length)
    rw [if_pos hin, hle] at hu
    have hu2 := undone_le (difE_nn h es) hi hin
    rw [hle] at hu2
    have hpl := prn_le c h
    have hes1 : es1[i]? = some (k, g0, c) := by rw [hp i, if_neg hi]; exact hes
    have hsp := split_at hes1
    have hcl : c.length ≤ 100000 := by
      have := hR.1.2.2 _ (List.mem_of_getElem? hes)
      have e : c = chn s.l k := this
      rw [e]; exact Nat.le_trans (chn_le hR.2 k) hl
    simp (disch := omega) only [go_sem, wrapI64, wrapu64, wrapu32, wrapu8, ltT, ltF, leT, leF, eqF, eqT, nltT, nleT, neqFn]
    refine sentry 2 5 rfl rfl rfl hkv ⟨Nat.le_of_ble_eq_true rfl, ?_⟩
    simp (disch := omega) only [go_sem, wrapI64, wrapu64, wrapu32, wrapu8, ltT, ltF, leT, leF, eqF, eqT, nltT, nleT, neqFn]
    refine all_call_s (β := Unit) 3 (es1.take i) (es1.drop (i + 1)) (k, g0, c) (fun _ => (k, g0, prn c h)) CR.stable [gptr g0, h.v] (fun _ => .int .i64 ((c.length : Int) - (prn c h).length)) (fun _ => .c (ci ((c.length : Int) - (prn c h).length))) (fun _ => True) Try.call45 (fun f1 w ho => (cprune_c g0 c hcl h f1 w ho).mono fun e w' ⟨f1', h1, h2, h3⟩ => ⟨(), f1', ⟨trivial, h1⟩, h2, h3⟩) (by rw [← hsp]; rfl) rfl (fun _ => rfl) (fun _ _ => rfl) rfl fun _ fp2 _ => ?_
    simp (disch := omega) only [go_sem, wrapI64, wrapu64, wrapu32, wrapu8, ltT, ltF, leT, leF, eqF, eqT, nltT, nleT, neqFn]
    refine ⟨(seen ++ [i], es1.take i ++ (k, g0, prn c h) :: es1.drop (i + 1), fp2), fun q => ?_, ?_, ?_⟩
    · have hil : i < es1.length := (List.getElem?_eq_some_iff.1 hes1).1
      have e : es1.take i ++ (k, g0, prn c h) :: es1.drop (i + 1) = es1.set i (k, g0, prn c h) := (List.set_eq_take_append_cons_drop ..).symm ▸ by simp [hil]
      dsimp only
      rw [e]
      by_cases hq : q = i
      · subst hq
        rw [List.getElem?_set_self hil, if_pos (by simp), hes]; rfl
      · rw [List.getElem?_set_ne (Ne.symm hq), hp q]
        simp [hq]
    · have h1 := left_less hi hin
      have h2 := undone_nn (seen := seen ++ [i]) (n := es.length)
      dsimp only
      omega
    · dsimp only
      rw [hu]
      have e : (s.l.length : Int) - (pruL s.l h).length - (undone (difE h es) es.length seen - ((c.length : Int) - (prn c h).length)) = (s.l.length : Int) - (pruL s.l h).length - undone (difE h es) es.length seen + ((c.length : Int) - (prn c h).length) := by omega
      rw [e]
      exact ent_drop ⟨rfl, rfl, rfl, trivial⟩ ⟨rfl, rfl, rfl, rfl, rfl, rfl, trivial⟩ (by simp)
end Go.Proofs.Ytagjblkfgjcmnaa
namespace Go.Proofs.Ytagjblkfgjcmnaa
open Go.RowKit Go.Sx CW
abbrev Stp.sv (s : Stp) : SV := sst s.v.a s.v.b s.v.c s.v.d s.dc
section
variable {C : Cx} {fr : List (Nat × SV)} {hp : List (Nat × Blk)} {nx : Nat} {d : Option Tmp} {K : St → Prop}
theorem shnew_s {room : Int} (hr : roomOk room = true) (hd : dkB C.N d = true) (hK : ∀ g fp', kput K ⟨fr, (nx, .pred fp' (On g (ShSh (ShS.new room.toNat)) fp')) :: hp, nx + 1⟩ d (.tup [.c (.v (gptr g)), .c (ci 0)])) : SCall Try.prog C 9 [.c (ci room)] d K ⟨fr, hp, nx⟩ :=
  on_new (Sh := ShSh (ShS.new room.toNat)) [.int .i64 room] (fun g => .tuple #[gptr g, .int .i64 0]) (fun g => .tup [.c (.v (gptr g)), .c (ci 0)]) Try.call9 (fun w => (shnew_c room w).mono fun e w' h => by rw [if_pos hr] at h; exact h) rfl (fun _ => rfl) (fun _ _ => rfl) hd hK
theorem shnew_bad {room : Int} (hr : roomOk room = false) (h : dOk C.N d ∧ kput K ⟨fr, hp, nx⟩ d (.tup [.c (.v (.pointer none)), .c (ci 1)])) : SCall Try.prog C 9 [.c (ci room)] d K ⟨fr, hp, nx⟩ :=
  scall_pure [.int .i64 room] (.tup [.c (.v (.pointer none)), .c (ci 1)]) (.tuple #[.pointer none, .int .i64 1]) Try.call9 (fun w => (shnew_c room w).mono fun e w' h => by rw [hr] at h; exact h) rfl (fun _ => rfl) (fun _ => rfl) h
theorem shwait_s (n : Nat) {g : Nat} {s : ShS} {fp : List Nat} (hg : hget hp n = some (.pred fp (On g (ShSh s) fp))) (hd : dkB C.N d = true) (hK : kput K ⟨fr, hset hp n (.pred fp (On g (ShSh s) fp)), nx⟩ d (.c (ci s.w.length))) : SCall Try.prog C 26 [.c (.v (gptr g))] d K ⟨fr, hp, nx⟩ :=
  on_callk n [gptr g] (.c (ci s.w.length)) Try.call26 (fun w h => shwait_c g s fp w h) hg rfl (fun _ => rfl) (fun _ => rfl) hd hK
theorem shroom_s (n : Nat) {g : Nat} {s : ShS} {fp : List Nat} (hr : s.room ≤ 1000 ∧ s.w.length ≤ 1000) (hg : hget hp n = some (.pred fp (On g (ShSh s) fp))) (hd : dkB C.N d = true) (hK : kput K ⟨fr, hset hp n (.pred fp (On g (ShSh s) fp)), nx⟩ d (.c (ci ((s.room : Int) - s.w.length)))) : SCall Try.prog C 27 [.c (.v (gptr g))] d K ⟨fr, hp, nx⟩ :=
  on_callk n [gptr g] (.c (ci ((s.room : Int) - s.w.length))) Try.call27 (fun w h => shroom_c g s hr fp w h) hg rfl (fun _ => rfl) (fun _ => rfl) hd hK
theorem shappl_s (n : Nat) {g : Nat} {s : ShS} {fp : List Nat} (hg : hget hp n = some (.pred fp (On g (ShSh s) fp))) (hd : dkB C.N d = true) (hK : kput K ⟨fr, hset hp n (.pred fp (On g (ShSh s) fp)), nx⟩ d s.ap.sv) : SCall Try.prog C 28 [.c (.v (gptr g))] d K ⟨fr, hp, nx⟩ :=
  on_callk n [gptr g] s.ap.sv Try.call28 (fun w h => shappl_c g s fp w h) hg rfl (fun _ => rfl) (fun _ => rfl) hd hK
theorem shstep_s (n : Nat) {g : Nat} {s : ShS} {fp : List Nat} (hl : s.l.length ≤ 90000) (hw : ∀ x, x ∈ s.w → x.2.length ≤ 1000) (hg : hget hp n = some (.pred fp (On g (ShSh s) fp))) (hd : dkB C.N d = true) (hK : ∀ fp', kput K ⟨fr, hset hp n (.pred fp' (On g (ShSh s.step) fp')), nx⟩ d (.c (.v (.bool (!s.w.isEmpty))))) : SCall Try.prog C 14 [.c (.v (gptr g))] d K ⟨fr, hp, nx⟩ :=
  on_call n [gptr g] (.c (.v (.bool (!s.w.isEmpty)))) Try.call14 (fun w h => shstep_c g s hl hw fp w h) hg rfl (fun _ => rfl) (fun _ => rfl) hd hK
theorem shread_s (n : Nat) {g : Nat} {s : ShS} {fp : List Nat} (hl : s.l.length ≤ 100000) (k : Ky) (at' : V4) (hg : hget hp n = some (.pred fp (On g (ShSh s) fp))) (hd : dkB C.N d = true)
    (hK : ∀ fp', kput K ⟨fr, hset hp n (.pred fp' (On g (ShSh s) fp')), nx⟩ d (.tup [.c (.v (.string (s.rd k at').x.x)), (s.rd k at').st.sv, .c (.v (.bool (s.rdO k at' && !(s.rd k at').x.g)))])) : SCall Try.prog C 22 [.c (.v (gptr g)), .c (.v (.string k.1)), .c (.v (.string k.2)), sv4 at'.a at'.b at'.c at'.d] d K ⟨fr, hp, nx⟩ :=
  on_call n [gptr g, .string k.1, .string k.2, at'.v] (.tup [.c (.v (.string (s.rd k at').x.x)), (s.rd k at').st.sv, .c (.v (.bool (s.rdO k at' && !(s.rd k at').x.g)))]) Try.call22 (fun w h => shread_c g s hl k at' fp w h) hg rfl (fun _ => rfl) (fun _ => rfl) hd hK
theorem shlast_s (n : Nat) {g : Nat} {s : ShS} {fp : List Nat} (hl : s.l.length ≤ 100000) (k : Ky) (hg : hget hp n = some (.pred fp (On g (ShSh s) fp))) (hd : dkB C.N d = true)
    (hK : ∀ fp', kput K ⟨fr, hset hp n (.pred fp' (On g (ShSh s) fp')), nx⟩ d (.tup [.agg (s.la k).x.c, (s.la k).st.sv, .c (.v (.bool (s.laO k)))])) : SCall Try.prog C 24 [.c (.v (gptr g)), .c (.v (.string k.1)), .c (.v (.string k.2))] d K ⟨fr, hp, nx⟩ :=
  on_call n [gptr g, .string k.1, .string k.2] (.tup [.agg (s.la k).x.c, (s.la k).st.sv, .c (.v (.bool (s.laO k)))]) Try.call24 (fun w h => shlast_c g s hl k fp w h) hg rfl (fun _ => rfl) (fun _ => rfl) hd hK
theorem shprune_s (n : Nat) {g : Nat} {s : ShS} {fp : List Nat} (hl : s.l.length ≤ 100000) (h : V4) (hg : hget hp n = some (.pred fp (On g (ShSh s) fp))) (hd : dkB C.N d = true) (hK : ∀ fp', kput K ⟨fr, hset hp n (.pred fp' (On g (ShSh (s.prune h)) fp')), nx⟩ d (.c (ci ((s.l.length : Int) - (pruL s.l h).length)))) : SCall Try.prog C 16 [.c (.v (gptr g)), sv4 h.a h.b h.c h.d] d K ⟨fr, hp, nx⟩ :=
  on_call n [gptr g, h.v] (.c (ci ((s.l.length : Int) - (pruL s.l h).length))) Try.call16 (fun w ho => shprune_c g s hl h fp w ho) hg rfl (fun _ => rfl) (fun _ => rfl) hd hK
theorem shvers_s (n : Nat) {g : Nat} {s : ShS} {fp : List Nat} (hl : s.l.length ≤ 100000) (hg : hget hp n = some (.pred fp (On g (ShSh s) fp))) (hd : dkB C.N d = true) (hK : kput K ⟨fr, hset hp n (.pred fp (On g (ShSh s) fp)), nx⟩ d (.c (ci s.l.length))) : SCall Try.prog C 29 [.c (.v (gptr g))] d K ⟨fr, hp, nx⟩ :=
  on_callk n [gptr g] (.c (ci s.l.length)) Try.call29 (fun w h => shvers_c g s hl fp w h) hg rfl (fun _ => rfl) (fun _ => rfl) hd hK
theorem shpush_s (n : Nat) {g : Nat} {s : ShS} {fp : List Nat} (st : Stp) (ws : List Wr) {x : CV} (hx : WArg hp ws x) (hlen : ws.length ≤ 1000000) (hg : hget hp n = some (.pred fp (On g (ShSh s) fp))) (hd : dkB C.N d = true)
    (hK : ∀ fp', kput K ⟨fr, hset hp n (.pred fp' (On g (ShSh (s.push st ws)) fp')), nx⟩ d (.c (.v (.bool (s.pushB st ws))))) : SCall Try.prog C 18 [.c (.v (gptr g)), sst st.v.a st.v.b st.v.c st.v.d st.dc, .c x] d K ⟨fr, hp, nx⟩ := by
  have hrv : ∀ (b o c : Nat), (vs : List Value) → True := fun _ _ _ _ => trivial
  cases hx with
  | nil h =>
    subst h
    exact scall_predI (α := Unit) n fp _ (fun _ fp' => On g (ShSh (s.push st [])) fp') (k := 0) (e := 4) (rv := wrw []) (fun _ => (0, 0)) (fun b o => [gptr g, st.val, .slice none 0 0]) (fun _ => .c (.v (.bool (s.pushB st [])))) (fun _ => .bool (s.pushB st [])) (fun _ => True) Try.call18
      (fun w b o h hi hb => (shpush_c g s st [] (by simp) fp w h b o 0 hi hb).mono fun e w' ⟨fp', h1, h2, h3⟩ => ⟨(), fp', trivial, h1, h2, h3⟩) (fun _ _ => On.stable) hg rfl
      (fun ρ a w hs => ⟨⟨fun h => absurd h (by simp), fun i hi => absurd hi (by simp), fun i hi => absurd hi (by simp)⟩, fun h => absurd h (by simp)⟩) (fun ρ => rfl) (fun _ _ => rfl) ⟨dk_of hd, fun _ fp' _ => hK fp'⟩
  | rows m c k cb r h hk hr =>
    exact scall_predI (α := Unit) n fp _ (fun _ fp' => On g (ShSh (s.push st ws)) fp') (k := ws.length) (e := 4) (rv := wrw ws) (fun ρ => ((ρ m).blk, (ρ m).base + 0 * (ρ m).esz)) (fun b o => [gptr g, st.val, .slice (some ⟨b, o, none⟩) ws.length c]) (fun _ => .c (.v (.bool (s.pushB st ws)))) (fun _ => .bool (s.pushB st ws)) (fun _ => True) Try.call18
      (fun w b o h hi hb => by
        have := shpush_c g s st ws hlen fp w h b o c hi hb
        rw [show wslv ws.length b o c = .slice (some ⟨b, o, none⟩) ws.length c from if_neg (by omega)] at this
        exact this.mono fun e w' ⟨fp', h1, h2, h3⟩ => ⟨(), fp', trivial, h1, h2, h3⟩) (fun _ _ => On.stable) hg rfl
      (fun ρ a w hs => by
        obtain ⟨q1, q2, ⟨arr, q3, q4, q5⟩, q6⟩ := hs.now.hp _ _ (mem_hget h)
        have hne : n ≠ m := fun e => by rw [e, h] at hg; cases hg
        refine ⟨⟨fun _ => q3.lt, fun i hi => ?_, fun i hi u hu => ?_⟩, fun _ hm => foot_disj hs.now.nodup (mem_hget h) (mem_hget hg) (Ne.symm hne) (by simp [Blk.foot]) hm⟩
        · have := (q5 i (by omega)).1
          rw [hr i hi] at this; simpa using this
        · have := (q5 i (by omega)).2 u hu
          rw [hr i hi, ← List.getElem?_map, map_v] at this
          rw [q1, q3.cell]; simp only [Nat.zero_mul, Nat.zero_add]
          exact this) (fun ρ => rfl) (fun _ _ => rfl) ⟨dk_of hd, fun _ fp' _ => hK fp'⟩
  | imm m o c k r h hk hr =>
    exact scall_predI (α := Unit) n fp _ (fun _ fp' => On g (ShSh (s.push st ws)) fp') (k := ws.length) (e := 4) (rv := wrw ws) (fun ρ => ((ρ m).blk, (ρ m).base + o * (ρ m).esz)) (fun b o => [gptr g, st.val, .slice (some ⟨b, o, none⟩) ws.length c]) (fun _ => .c (.v (.bool (s.pushB st ws)))) (fun _ => .bool (s.pushB st ws)) (fun _ => True) Try.call18
      (fun w b o h hi hb => by
        have := shpush_c g s st ws hlen fp w h b o c hi hb
        rw [show wslv ws.length b o c = .slice (some ⟨b, o, none⟩) ws.length c from if_neg (by omega)] at this
        exact this.mono fun e w' ⟨fp', h1, h2, h3⟩ => ⟨(), fp', trivial, h1, h2, h3⟩) (fun _ _ => On.stable) hg rfl
      (fun ρ a w hs => hs.imm_imm hg h hk.2 hr) (fun ρ => rfl) (fun _ _ => rfl) ⟨dk_of hd, fun _ fp' _ => hK fp'⟩
end
end Go.Proofs.Ytagjblkfgjcmnaa
namespace Go.Proofs.Ytagjblkfgjcmnaa
open Go.RowKit Go.Sx
attribute [local go_sem ↓] reduceIte
attribute [local go_sem] Nat.reduceEqDiff Nat.reduceLT Nat.reduceLeDiff Nat.reduceAdd Nat.reduceMul Nat.reduceSub Nat.reduceDiv Nat.reduceMod Int.reduceToNat Int.reduceLT Int.reduceLE Int.reduceAdd Int.reduceSub Int.reduceMul Int.reduceEq Int.reduceNeg reduceCtorEq or_false false_or decide_true decide_false Int.cast_ofNat_Int Nat.zero_add Nat.add_zero Int.toNat_natCast Option.isNone_none Option.isNone_some Bool.not_true Bool.not_false Bool.xor_true Bool.xor_false Bool.true_xor Bool.false_xor Bool.and_true Bool.true_and Bool.and_false Bool.false_and eq_self ne_eq not_false_eq_true not_true_eq_false true_and and_true and_self

def hit (b k : ByteArray) (w : Wr) : Bool := decide (w.b = b) && decide (w.k = k)
def slv (s : Option (Nat × Nat)) (n : Nat) : Value := match s with | none => .slice none 0 0 | some (b, c) => .slice (some ⟨b, 0, none⟩) n c
def pwr (x : Wr) (own : Bool) (k : Nat) : Wr :=
  if own then ⟨strB [98, 48 + ((k % 2 : Nat) : Int)], strB [97 + ((k / 2 % 4 : Nat) : Int)], if decide ((224 : Int) ≤ k) then ByteArray.empty else x.x.extract 0 (min x.x.size 8), decide ((224 : Int) ≤ k)⟩ else x
set_option maxRecDepth 100000 in
theorem pwrite_c (x : Wr) (own : Bool) (k : Nat) (hk : k < 256) (w : World) :
    Calls Try.prog 13 #[.agg #[.string x.b, .string x.k, .string x.x, .bool x.g, .bool own, .int .u8 k]] w fun e w' => e = .returned (pwr x own k).val ∧ Below w.heap.size w w' := by
  refine calls_pure 39 _ Try.func13 rfl Try.ntmps13 Try.results13 [.agg [.v (.string x.b), .v (.string x.k), .v (.string x.x), .v (.bool x.g), .v (.bool own), .v (.int .u8 k)]] (by simp) (fun _ => rfl) ?_
  cases own
  · simp only [go_sem]
    exact fun ρ a w hs _ => ⟨rfl, hs.grown⟩
  · have a1 : (k : Int).tmod 2 = ((k % 2 : Nat) : Int) := rfl
    have a2 : IntKind.u8.wrap (48 + ((k % 2 : Nat) : Int)) = 48 + ((k % 2 : Nat) : Int) := wrap_u8 _ (by omega) (by omega)
    have a3 : IntKind.u8.wrap ((k : Int).tdiv 2) = ((k / 2 : Nat) : Int) := by rw [show (k : Int).tdiv 2 = ((k / 2 : Nat) : Int) from rfl]; exact wrap_u8 _ (by omega) (by omega)
    have a4 : (((k / 2 : Nat) : Int)).tmod 4 = ((k / 2 % 4 : Nat) : Int) := rfl
    have a5 : IntKind.u8.wrap (97 + ((k / 2 % 4 : Nat) : Int)) = 97 + ((k / 2 % 4 : Nat) : Int) := wrap_u8 _ (by omega) (by omega)
    obtain ⟨q, hq, hq2, hq3⟩ : ∃ q : Nat, min (x.x.size : Int) 8 = (q : Int) ∧ q = min x.x.size 8 ∧ q ≤ x.x.size := ⟨min x.x.size 8, by omega, by omega, by omega⟩
    have c5 : (0 : Int) ≤ q ∧ (q : Int) ≤ x.x.size := by omega
    have c6 : (0 : Int) ≤ 0 ∧ (0 : Int) ≤ q := by omega
    simp only [go_sem]
    refine sdraw_ent0 [.t 0, .t 1, .t 2, .t 3, .t 6, .t 7, .t 8, .t 9, .t 10, .t 13, .t 14, .t 15, .t 16, .t 17, .t 18, .t 19, .t 20, .t 21, .t 22, .t 23, .t 24, .d 4 [.d 5 [.c 11 [.c 12 [.t 25, .r 26, .r 27] 26 [.r 12, .t 25, .r 27]] 26 [.r 11, .r 12, .t 25, .r 27]] 11 [.d 5 [.c 12 [.t 25, .r 26, .r 27] 26 [.r 12, .t 25, .r 27]] 12 [.c 5 [.t 25, .r 26, .r 27] 26 [.r 5, .t 25, .r 27]] 26 [.c 5 [.r 12, .t 25, .r 27] 12 [.r 5, .t 25, .r 27]]] 26 [.c 5 [.r 11, .r 12, .t 25, .r 27] 11 [.c 5 [.r 12, .t 25, .r 27] 12 [.r 5, .t 25, .r 27]]]] 11 [.d 4 [.d 5 [.c 12 [.t 25, .r 26, .r 27] 26 [.r 12, .t 25, .r 27]] 12 [.c 5 [.t 25, .r 26, .r 27] 26 [.r 5, .t 25, .r 27]] 26 [.c 5 [.r 12, .t 25, .r 27] 12 [.r 5, .t 25, .r 27]]] 12 [.c 4 [.c 5 [.t 25, .r 26, .r 27] 26 [.r 5, .t 25, .r 27]] 26 [.r 4, .r 5, .t 25, .r 27]] 26 [.c 4 [.c 5 [.r 12, .t 25, .r 27] 12 [.r 5, .t 25, .r 27]] 12 [.r 4, .r 5, .t 25, .r 27]]] 26 [.c 4 [.c 5 [.r 11, .r 12, .t 25, .r 27] 11 [.c 5 [.r 12, .t 25, .r 27] 12 [.r 5, .t 25, .r 27]]] 11 [.c 4 [.c 5 [.r 12, .t 25, .r 27] 12 [.r 5, .t 25, .r 27]] 12 [.r 4, .r 5, .t 25, .r 27]]]] 27 rfl (by kernel_rfl) ⟨[(3, .c (.p 2 0 0)), (2, .c (.p 1 0 0))], [(2, .cells 42 [.v (.string (strB [98, 48 + ((k % 2 : Nat) : Int)])), .v (.string (strB [97 + ((k / 2 % 4 : Nat) : Int)])), .v (.string (x.x.extract 0 q)), .v (.bool (decide ((224 : Int) ≤ k)))]), (1, .cells 42 [.v (.string .empty), .v (.string .empty), .v (.string .empty), .v (.bool false)])], 3⟩ ?h ?h1
    · simp only [go_sem, a1, a2, a3, a4, a5, hq, c5, c6]
      have E : ∀ (n : Nat) {fr : List (Nat × SV)} {hp : List (Nat × Blk)} {nx : Nat} {C : Cx}, C.n0 = 0 → n = 2 ∨ n = 3 ∨ n = 4 → lk fr 3 = .c (.p n 0 0) → lk fr 2 = .c (.p 1 0 0) → hget hp n = some (.cells 42 [.v (.string (strB [98, 48 + ((k % 2 : Nat) : Int)])), .v (.string (strB [97 + ((k / 2 % 4 : Nat) : Int)])), .v (.string (x.x.extract 0 q)), .v (.bool (decide ((224 : Int) ≤ k)))]) → hget hp 1 = some (.cells 42 [.v (.string .empty), .v (.string .empty), .v (.string .empty), .v (.bool false)]) →
          Ent C ⟨fr, hp, nx⟩ ⟨[(3, .c (.p 2 0 0)), (2, .c (.p 1 0 0))], [(2, .cells 42 [.v (.string (strB [98, 48 + ((k % 2 : Nat) : Int)])), .v (.string (strB [97 + ((k / 2 % 4 : Nat) : Int)])), .v (.string (x.x.extract 0 q)), .v (.bool (decide ((224 : Int) ≤ k)))]), (1, .cells 42 [.v (.string .empty), .v (.string .empty), .v (.string .empty), .v (.bool false)])], 3⟩ := fun n fr hp nx C h0 hn e1 e2 e3 e4 => by
        refine ent_of (fun k => if k = 2 then n else k) ⟨⟨by simp [SV.bl, CV.bl], ?_⟩, ⟨by simp [SV.bl, CV.bl], ?_⟩, trivial⟩ ⟨⟨by simp, by simp [Blk.bl, CV.blL, CV.bl], ?_⟩, ⟨by simp, by simp [Blk.bl, CV.blL, CV.bl], ?_⟩, trivial⟩ (by simp; omega) (by omega) (fun k hk => by omega)
        · rw [e1]; rfl
        · rw [e2]; rfl
        · show hget hp n = _
          rw [e3]; rfl
        · show hget hp 1 = _
          rw [e4]; rfl
      repeat' apply And.intro
      all_goals first | exact E 2 rfl (by omega) rfl rfl rfl rfl | exact E 3 rfl (by omega) rfl rfl rfl rfl | exact E 4 rfl (by omega) rfl rfl rfl rfl
    · cases hg : decide ((224 : Int) ≤ k)
      all_goals
        simp only [go_sem]
        exact fun ρ a w hs _ => ⟨by simp [SV.den, CV.den, CV.denL, pwr, hg, hq2] <;> rfl, hs.grown⟩
structure Pt where
  x : Wr
  own : Bool
  k : Nat
def Pt.row (p : Pt) : List CV := [.v (.string p.x.b), .v (.string p.x.k), .v (.string p.x.x), .v (.bool p.x.g), .v (.bool p.own), .v (.int .u8 p.k)]
theorem row_put {l : List Value} (h : FOk [.s, .s, .s, .b, .b, .i .u8] l) : ∃ p : Pt, p.k < 256 ∧ l.map CV.v = p.row := by
  match l, h with
  | [_, _, _, _, _, _], ⟨⟨b, rfl, _⟩, ⟨k, rfl, _⟩, ⟨x, rfl, _⟩, ⟨g, rfl⟩, ⟨o, rfl⟩, ⟨n, rfl, hw⟩, _⟩ =>
    obtain ⟨m, rfl, hm⟩ := u8_nat hw
    exact ⟨⟨⟨b, k, x, g⟩, o, m⟩, hm, rfl⟩
def wone (whole : Bool) (p : Pt) : Wr := pwr p.x (whole || p.own) p.k
def wstep (whole : Bool) (out : List Wr) (p : Pt) : List Wr := if whole && out.any (hit (wone whole p).b (wone whole p).k) then out else out ++ [wone whole p]
def wouts (whole : Bool) (ps : Nat → Pt) : Nat → List Wr
  | 0 => []
  | n + 1 => wstep whole (wouts whole ps n) (ps n)
theorem wstep_len (whole : Bool) (out : List Wr) (p : Pt) : (wstep whole out p).length ≤ out.length + 1 := by
  unfold wstep; split <;> simp
theorem wouts_len (whole : Bool) (ps : Nat → Pt) : ∀ n, (wouts whole ps n).length ≤ n
  | 0 => by simp [wouts]
  | n + 1 => by
    have := wouts_len whole ps n
    have := wstep_len whole (wouts whole ps n) (ps n)
    simp only [wouts]; omega
def WlAt (s : Option (Nat × Nat)) (ws : List Wr) (w : World) : Prop := match s with
  | none => ws = []
  | some (b, c) => (ws.length ≤ c ∧ 0 < ws.length) ∧ RowsAt w b 42 4 ws.length c fun j => wrw ws j
def outF (ws : List Wr) : Option Nat → CV
  | none => .v (.slice none 0 0)
  | some c => .s 1 0 ws.length c
def outH (ws : List Wr) : Option Nat → List (Nat × Blk)
  | none => []
  | some c => [(1, .rows 42 4 ws.length c fun j => (wrw ws j).map .v)]
def outN : Option Nat → Nat
  | none => 1
  | some _ => 2
def outI (x0 : CV) (most : Int) (whole : Bool) (m : Nat) (r : Nat → List Value) (i : Nat) (ws : List Wr) (c : Option Nat) : St :=
  ⟨[(8, .c (.v (.int .i64 i))), (7, .c (outF ws c)), (0, .c x0), (1, .c (.v (.int .i64 most))), (2, .c (.v (.bool whole)))], outH ws c ++ [(0, .imm 6 m fun i => (r i).map .v)], outN c⟩
def outOk (ws : List Wr) : Option Nat → Prop
  | none => ws = []
  | some c => ws.length ≤ c ∧ 0 < ws.length

theorem ent_out (n : Nat) {fr : List (Nat × SV)} {hp : List (Nat × Blk)} {nx : Nat} {C : Cx} {most : Int} {whole : Bool} {m c0 i len c : Nat} {r0 : Nat → List Value} {ws : List Wr} {r : Nat → List CV} (hC : C.n0 = 1) (hn : n ≠ 0) (f8 : lk fr 8 = .c (.v (.int .i64 i))) (f7 : lk fr 7 = .c (.s n 0 len c)) (f0 : lk fr 0 = .c (.s 0 0 m c0)) (f1 : lk fr 1 = .c (.v (.int .i64 most))) (f2 : lk fr 2 = .c (.v (.bool whole)))
    (hg : hget hp n = some (.rows 42 4 len c r)) (hlen : len = ws.length) (hr : ∀ j, j < len → (wrw ws j).map .v = r j) (hi : hget hp 0 = some (.imm 6 m fun i => (r0 i).map .v)) : Ent C ⟨fr, hp, nx⟩ (outI (.s 0 0 m c0) most whole m r0 i ws (some c)) := by
  subst hlen
  refine Ent.trans (ent_rows n hg hr) ?_
  have g1 : ∀ (hp : List (Nat × Blk)) (b : Blk), hget hp n = some (.rows 42 4 ws.length c r) → hget (hset hp n b) n = some b := fun hp b h => by
    induction hp with
    | nil => simp [hget] at h
    | cons x y ih =>
      obtain ⟨q, v⟩ := x
      rw [hget_cons] at h
      rw [hset_cons]
      by_cases hq : q = n
      · rw [if_pos hq, hget_cons, if_pos hq]
      · rw [if_neg hq, hget_cons, if_neg hq]; rw [if_neg hq] at h; exact ih h
  have g2 : ∀ (hp : List (Nat × Blk)) (b : Blk), hget (hset hp n b) 0 = hget hp 0 := fun hp b => by
    induction hp with
    | nil => rfl
    | cons x y ih =>
      obtain ⟨q, v⟩ := x
      rw [hset_cons]
      by_cases hq : q = n
      · rw [if_pos hq, hget_cons, hget_cons, if_neg (by omega), if_neg (by omega)]
      · rw [if_neg hq, hget_cons, hget_cons, ih]
  refine ent_of (fun k => if k = 1 then n else k) ⟨⟨trivial, ?_⟩, ⟨?_, ?_⟩, ⟨?_, ?_⟩, ⟨trivial, ?_⟩, ⟨trivial, ?_⟩, trivial⟩ ⟨⟨?_, ?_, ?_⟩, ⟨?_, ?_, ?_⟩, trivial⟩ ?_ ?_ fun k hk => ?_
  · rw [f8]; rfl
  · show 1 < 2; omega
  · rw [f7]; rfl
  · show 0 < 2; omega
  · rw [f0]; rfl
  · rw [f1]; rfl
  · rw [f2]; rfl
  · show 1 < 2; omega
  · intro j _; exact blL_v _ _
  · show hget _ n = _
    rw [g1 hp _ hg]
    simp [Blk.rn, CV.rnL_eq, Function.comp_def, CV.rn]
  · show 0 < 2; omega
  · intro j _; exact blL_v _ _
  · show hget _ 0 = _
    rw [g2, hi]
    simp [Blk.rn, CV.rnL_eq, Function.comp_def, CV.rn]
  · simp [outH]; omega
  · rw [hC]; simp [outN]
  · rw [hC] at hk
    show (if k = 1 then n else k) = k
    rw [if_neg (by omega)]

set_option maxRecDepth 100000 in
theorem writesL_c (w : World) {b0 o0 m0 : Nat} {r0 : Nat → List Value} {x0 : CV} {v0 : Value} (i0 : ImmAt w b0 o0 6 m0 r0) (l0 : LArg2 0 m0 x0)
    (e0 : ∀ ρ : Env, ρ 0 = ⟨b0, o0, 6⟩ → x0.den ρ = v0) (ps : Nat → Pt) (f0 : ∀ i, i < m0 → (r0 i).map CV.v = (ps i).row ∧ (ps i).k < 256) (most : Nat) (hmost : most ≤ 100) (hm0 : m0 ≤ maxLen) (whole : Bool) :
    Calls Try.prog 37 #[v0, .int .i64 most, .bool whole] w fun e w' => ∃ i s, i ≤ m0 ∧ (i = m0 ∨ most ≤ (wouts whole ps i).length) ∧ (wouts whole ps i).length ≤ most ∧
      e = .returned (slv s (wouts whole ps i).length) ∧ WlAt s (wouts whole ps i) w' ∧ Below w.heap.size w w' ∧ ∀ b c, s = some (b, c) → w.heap.size ≤ b := by
  refine calls_imm [⟨b0, o0, 6, m0, r0⟩] (by simp; exact i0) 71 _ Try.func37 rfl Try.ntmps37 Try.results37 [.c x0, .c (.v (.int .i64 most)), .c (.v (.bool whole))] (by simp) (fun ρ h => by simp [SV.denL, SV.den, CV.den, e0 ρ (h 0 (by simp))]) ?_
  have n0 := l0.len
  unfold maxLen at hm0
  simp only [immL, List.length_cons, List.length_nil, Nat.zero_add, Nat.reduceAdd]
  simp only [go_sem]
  refine sloop (fun p : Nat × Option Nat => outI x0 most whole m0 r0 p.1 (wouts whole ps p.1) p.2) (fun p => p.1 ≤ m0 ∧ outOk (wouts whole ps p.1) p.2 ∧ (wouts whole ps p.1).length ≤ most) (fun p => m0 - p.1) (0, none) ⟨by simp, rfl, by simp [wouts]⟩ (ent_drop ⟨rfl, rfl, rfl, rfl, rfl, trivial⟩ ⟨rfl, trivial⟩ (by simp [outH])) (fun p hp => ?_)
  obtain ⟨i, c⟩ := p
  obtain ⟨hi, hok, hle⟩ : i ≤ m0 ∧ outOk (wouts whole ps i) c ∧ (wouts whole ps i).length ≤ most := hp
  have hnext : wouts whole ps (i + 1) = wstep whole (wouts whole ps i) (ps i) := rfl
  obtain ⟨ws, hws⟩ : ∃ ws, wouts whole ps i = ws := ⟨_, rfl⟩
  rw [hws] at hok hle hnext
  show X _ _ _ _ (outI x0 most whole m0 r0 i (wouts whole ps i) c)
  rw [hws]
  have hlen : ∀ (e : TypeId) (F : SV → Prop), XLen (.slc e) (.c (outF ws c)) F = F (.c (.v (.int .i64 ws.length))) := fun e F => by
    cases c with
    | none => have h : ws = [] := hok; subst h; rfl
    | some c => rfl
  by_cases h : i < m0 ∧ ws.length < most
  · obtain ⟨h0, h1⟩ := h
    have d0 : decide ((i : Int) < m0) = true := by simp; omega
    have d1 : decide ((ws.length : Int) < most) = true := by simp; omega
    have d3 : (0 : Int) ≤ i ∧ (i : Int) < m0 := by omega
    have w1 : IntKind.i64.wrap ((i : Int) + 1) = ((i + 1 : Nat) : Int) := wrap_i64 _ (by omega) (by omega)
    obtain ⟨c0, rfl⟩ := l0.pos (by omega)
    obtain ⟨hrow0, hk⟩ := f0 i h0
    obtain ⟨W, hW⟩ : ∃ W, wone whole (ps i) = W := ⟨_, rfl⟩
    have hcall : ∀ w, Calls Try.prog 13 #[.agg #[.string (ps i).x.b, .string (ps i).x.k, .string (ps i).x.x, .bool (ps i).x.g, .bool (whole || (ps i).own), .int .u8 (ps i).k]] w fun e w' => e = .returned W.val ∧ Below w.heap.size w w' := fun w => by
      have := pwrite_c (ps i).x (whole || (ps i).own) (ps i).k hk w
      rw [show pwr (ps i).x (whole || (ps i).own) (ps i).k = W from hW] at this; exact this
    have hstep : wstep whole ws (ps i) = if whole && ws.any (hit W.b W.k) then ws else ws ++ [W] := by unfold wstep; rw [hW]
    clear hW
    cases c with
    | none =>
      have hw0 : ws = [] := hok
      subst hw0
      have d7 : decide ((0 : Int) < most) = true := by simp at h1 ⊢; omega
      have hstep : wouts whole ps (i + 1) = [W] := by rw [hnext, hstep]; simp
      simp only [outI, outF, outH, outN, List.nil_append]
      cases whole
      all_goals
        simp only [Bool.false_or, Bool.true_or] at hcall
        simp only [go_sem, d0, d7, d3, hrow0, h0, n0, Pt.row]
        refine scall_pure [.agg #[.string (ps i).x.b, .string (ps i).x.k, .string (ps i).x.x, .bool (ps i).x.g, .bool _, .int .u8 (ps i).k]] (.agg [.v (.string W.b), .v (.string W.k), .v (.string W.x), .v (.bool W.g)]) W.val Try.call13 hcall rfl (fun _ => rfl) (fun _ => rfl) ?_
        simp only [go_sem]
        refine sloop_rounds 1 ?_
        simp only [go_sem]
        refine sappend_nil rfl rfl tkind49 tsz42 tby42 tz42 rfl ⟨⟨rfl, by decide, by decide⟩, by decide, by decide, by decide⟩ ?_
        refine ⟨(by show 69 < 71; decide), fun c' hc' => ?_⟩
        simp only [go_sem, w1]
        refine ⟨(i + 1, some c'), ⟨by show i + 1 ≤ m0; omega, by show outOk (wouts _ ps (i + 1)) _; rw [hstep]; exact ⟨by simpa using hc', by simp⟩, by show (wouts _ ps (i + 1)).length ≤ most; rw [hstep]; simp at h1 ⊢; omega⟩, by show m0 - (i + 1) < m0 - i; omega, ?_⟩
        show Ent _ _ (outI _ _ _ _ _ (i + 1) (wouts _ ps (i + 1)) (some c'))
        rw [hstep]
        exact ent_out 4 rfl (by omega) rfl rfl rfl rfl rfl rfl rfl (fun j hj => by
          have : j = 0 := by omega
          subst this; rfl) rfl
    | some c =>
      obtain ⟨hc1, hc2⟩ : ws.length ≤ c ∧ 0 < ws.length := hok
      simp only [outI, outF, outH, outN, List.cons_append, List.nil_append]
      have app : ∀ (st : St) (C : Cx) (d1 d2 : Nat), True := fun _ _ _ _ => trivial
      cases whole
      all_goals
        simp only [Bool.false_or, Bool.true_or] at hcall
        simp only [go_sem, d0, d1, d3, hrow0, h0, n0, Pt.row]
        refine scall_pure [.agg #[.string (ps i).x.b, .string (ps i).x.k, .string (ps i).x.x, .bool (ps i).x.g, .bool _, .int .u8 (ps i).k]] (.agg [.v (.string W.b), .v (.string W.k), .v (.string W.x), .v (.bool W.g)]) W.val Try.call13 hcall rfl (fun _ => rfl) (fun _ => rfl) ?_
        simp only [go_sem]
        refine sloop (fun p : Nat × Bool => ⟨[(12, .c (.v (.int .i64 (p.1 : Nat)))), (11, .c (.v (.bool p.2))), (10, .c (.p 3 0 0)), (8, .c (.v (.int .i64 i))), (7, .c (.s 1 0 ws.length c)), (0, .c (.s 0 0 m0 c0)), (1, .c (.v (.int .i64 most))), (2, .c (.v (.bool _)))], [(3, .cells 42 [.v (.string W.b), .v (.string W.k), .v (.string W.x), .v (.bool W.g)]), (1, .rows 42 4 ws.length c fun j => (wrw ws j).map .v), (0, .imm 6 m0 fun i => (r0 i).map .v)], 4⟩)
          (fun p => p.1 ≤ ws.length ∧ p.2 = (ws.take p.1).any (hit W.b W.k)) (fun p => ws.length - p.1) (0, false) ⟨by simp, by simp⟩ (ent_drop ⟨rfl, rfl, rfl, rfl, rfl, rfl, rfl, rfl, trivial⟩ ⟨rfl, rfl, rfl, trivial⟩ (by simp)) (fun p hp => ?_)
        obtain ⟨k, tw⟩ := p
        obtain ⟨hk1, htw⟩ : k ≤ ws.length ∧ tw = (ws.take k).any (hit W.b W.k) := hp
        by_cases hkl : k < ws.length
        · have d4 : decide ((k : Int) < ws.length) = true := by simp; omega
          have d5 : (0 : Int) ≤ k ∧ (k : Int) < ws.length := by omega
          have w2 : IntKind.i64.wrap ((k : Int) + 1) = ((k + 1 : Nat) : Int) := wrap_i64 _ (by omega) (by omega)
          obtain ⟨x, hx⟩ : ∃ x, ws[k]? = some x := ⟨_, List.getElem?_eq_getElem hkl⟩
          have hr2 : (wrw ws k).map CV.v = x.c := by rw [wrw_eq hx]; rfl
          have htk : (ws.take (k + 1)).any (hit W.b W.k) = (tw || hit W.b W.k x) := by rw [List.take_add_one, hx, htw]; simp
          simp only [go_sem, d4]
          refine sdraw0 [.t 0, .t 1, .t 2, .t 3, .t 4, .t 5, .t 6, .t 7, .t 8, .t 9, .t 10, .t 11, .t 12, .t 13, .t 14, .t 15, .t 16, .t 17, .t 18, .t 19, .t 20, .t 21] 22 rfl (by kernel_rfl) ?_
          cases tw
          · cases e1 : decide (x.b = W.b)
            · simp only [go_sem, d5, hkl, hr2, e1, w2]
              exact ⟨(k + 1, false), ⟨by show k + 1 ≤ ws.length; omega, by rw [htk]; simp [hit, e1]⟩, by show ws.length - (k + 1) < ws.length - k; omega, ent_drop ⟨rfl, rfl, rfl, rfl, rfl, rfl, rfl, rfl, trivial⟩ ⟨rfl, rfl, rfl, trivial⟩ (by simp)⟩
            · cases e2 : decide (x.k = W.k)
              · simp only [go_sem, d5, hkl, hr2, e1, e2, w2]
                exact ⟨(k + 1, false), ⟨by show k + 1 ≤ ws.length; omega, by rw [htk]; simp [hit, e1, e2]⟩, by show ws.length - (k + 1) < ws.length - k; omega, ent_drop ⟨rfl, rfl, rfl, rfl, rfl, rfl, rfl, rfl, trivial⟩ ⟨rfl, rfl, rfl, trivial⟩ (by simp)⟩
              · simp only [go_sem, d5, hkl, hr2, e1, e2, w2]
                exact ⟨(k + 1, true), ⟨by show k + 1 ≤ ws.length; omega, by rw [htk]; simp [hit, e1, e2]⟩, by show ws.length - (k + 1) < ws.length - k; omega, ent_drop ⟨rfl, rfl, rfl, rfl, rfl, rfl, rfl, rfl, trivial⟩ ⟨rfl, rfl, rfl, trivial⟩ (by simp)⟩
          · simp only [go_sem, d5, hkl, hr2, w2]
            exact ⟨(k + 1, true), ⟨by show k + 1 ≤ ws.length; omega, by rw [htk]; simp⟩, by show ws.length - (k + 1) < ws.length - k; omega, ent_drop ⟨rfl, rfl, rfl, rfl, rfl, rfl, rfl, rfl, trivial⟩ ⟨rfl, rfl, rfl, trivial⟩ (by simp)⟩
        · obtain rfl : k = ws.length := by omega
          have d4 : decide ((ws.length : Int) < ws.length) = false := by simp
          rw [List.take_length] at htw
          rw [← htw] at hstep
          cases tw
          all_goals
            have hstep : wouts _ ps (i + 1) = _ := hnext.trans hstep
            simp only [Bool.false_and, Bool.true_and, Bool.and_false, Bool.and_true, if_true, if_false, Bool.false_eq_true] at hstep
            simp only [go_sem, d4]
            first
              | (refine sappend rfl rfl tkind49 tsz42 tby42 tz42 rfl rfl ⟨⟨rfl, by decide, by decide, Nat.le_refl _⟩, by decide, by omega, by omega⟩ (fun i hi => by
                   have : i = 0 := by omega
                   subst this; rfl) ?_
                 refine ⟨(by show 69 < 71; decide), fun c' hc' => ?_⟩
                 simp only [go_sem, w1]
                 refine ⟨(i + 1, some c'), ⟨by show i + 1 ≤ m0; omega, by show outOk (wouts _ ps (i + 1)) _; rw [hstep]; exact ⟨by simp; omega, by simp⟩, by show (wouts _ ps (i + 1)).length ≤ most; rw [hstep]; simp; omega⟩, by show m0 - (i + 1) < m0 - i; omega, ?_⟩
                 show Ent _ _ (outI _ _ _ _ _ (i + 1) (wouts _ ps (i + 1)) (some c'))
                 rw [hstep]
                 refine ent_out 5 rfl (by omega) rfl rfl rfl rfl rfl rfl (by simp) (fun j hj => ?_) rfl
                 by_cases hjl : j < ws.length
                 · simp only [rapp, hjl, if_true, wrw, List.getElem?_append_left hjl]
                 · have hjl2 : j = ws.length := by omega
                   subst hjl2
                   simp [rapp, wrw, rowsOf, Wr.l])
              | (simp only [go_sem, w1]
                 refine ⟨(i + 1, some c), ⟨by show i + 1 ≤ m0; omega, by show outOk (wouts _ ps (i + 1)) _; rw [hstep]; exact ⟨hc1, hc2⟩, by show (wouts _ ps (i + 1)).length ≤ most; rw [hstep]; omega⟩, by show m0 - (i + 1) < m0 - i; omega, ?_⟩
                 show Ent _ _ (outI _ _ _ _ _ (i + 1) (wouts _ ps (i + 1)) (some c))
                 rw [hstep]
                 exact ent_out 1 rfl (by omega) rfl rfl rfl rfl rfl rfl rfl (fun j hj => rfl) rfl)
  · obtain ⟨c0, c2, d0, d2⟩ : ∃ c0 c2, decide ((i : Int) < m0) = c0 ∧ decide ((ws.length : Int) < most) = c2 := ⟨_, _, rfl, rfl⟩
    have hc : (c0 && c2) = false := by
      rw [← d0, ← d2]; simp; omega
    have hend : i = m0 ∨ most ≤ ws.length := by omega
    cases c with
    | none =>
      have hw0 : ws = [] := hok
      subst hw0
      simp only [List.length_nil, Int.natCast_zero, Int.ofNat_zero] at d2
      simp only [outI, outF, outH, outN, List.nil_append]
      cases c0 <;> cases c2 <;> first | cases hc | skip
      all_goals
        simp only [go_sem, d0, d2, n0]
        exact fun ρ a w' hs _ => ⟨i, none, hi, by rw [hws]; exact hend, by rw [hws]; exact hle, by simp [SV.den, CV.den, slv], by rw [hws]; rfl, hs.grown, fun b c h => by cases h⟩
    | some c =>
      obtain ⟨hc1, hc2⟩ : ws.length ≤ c ∧ 0 < ws.length := hok
      simp only [outI, outF, outH, outN, List.cons_append, List.nil_append]
      cases c0 <;> cases c2 <;> first | cases hc | skip
      all_goals
        simp only [go_sem, d0, d2, n0]
        refine fun ρ a w' hs _ => ⟨i, some ((ρ 1).blk, c), hi, by rw [hws]; exact hend, by rw [hws]; exact hle, ?_, ?_, hs.grown, fun b c h => ?_⟩
        · rw [hws]; simp [SV.den, CV.den, slv, (hs.now.hp _ _ (mem_hget (n := 1) rfl)).1]
        · rw [hws]; exact ⟨⟨hc1, hc2⟩, rowsAt_of (hs.now.hp _ _ (mem_hget (n := 1) rfl)) rfl fun j _ => map_v _ _⟩
        · injection h with h; injection h with h _
          have := (hs.now.hp _ _ (mem_hget (n := 1) rfl)).2.2.2
          rw [← h]
          exact this.elim id fun h => h.elim
theorem writes_list {C : Cx} {fr : List (Nat × SV)} {hp : List (Nat × Blk)} {nx m0 : Nat} {r0 : Nat → List Value} {x0 : CV} {d : Option Tmp} {K : St → Prop} (q : Nat) (hg : hget hp q = some (.imm 6 m0 fun i => (r0 i).map .v)) (l0 : LArg2 q m0 x0) (ps : Nat → Pt) (f0 : ∀ i, i < m0 → (r0 i).map CV.v = (ps i).row ∧ (ps i).k < 256) (most : Nat) (hmost : most ≤ 100) (hm0 : m0 ≤ maxLen) (whole : Bool) (hd : dkB C.N d = true)
    (hK : ∀ i, i ≤ m0 → (i = m0 ∨ most ≤ (wouts whole ps i).length) → (wouts whole ps i).length ≤ most →
      (wouts whole ps i = [] → kput K ⟨fr, hp, nx⟩ d (.c (.v (.slice none 0 0)))) ∧
      ∀ c, (wouts whole ps i).length ≤ c ∧ 0 < (wouts whole ps i).length → kput K ⟨fr, (nx, .rows 42 4 (wouts whole ps i).length c fun j => (wrw (wouts whole ps i) j).map .v) :: hp, nx + 1⟩ d (.c (.s nx 0 (wouts whole ps i).length c))) :
    SCall Try.prog C 37 [.c x0, .c (.v (.int .i64 most)), .c (.v (.bool whole))] d K ⟨fr, hp, nx⟩ := by
  refine ⟨by simp only [SV.okL, l0.ok]; rfl, fun ρ w a hs _ => .inl ⟨fun v w => Try.call37 _ w, ?_⟩⟩
  obtain ⟨g1, g2, g3⟩ := hs.now.hp _ _ (mem_hget hg)
  have him : ImmAt w (ρ q).blk (ρ q).base 6 m0 r0 := by
    refine ⟨fun h => Nat.lt_of_lt_of_le (g3 h).1 hs.now.keeps.size, fun i hi => by simpa using (g2 i hi).1, fun i hi u hu => ?_⟩
    rw [(g2 i hi).2 u hu, ← List.getElem?_map, map_v]
  have l0' : ∃ y0, LArg2 0 m0 y0 ∧ ∀ ρ' : Env, ρ' 0 = ⟨(ρ q).blk, (ρ q).base, 6⟩ → y0.den ρ' = x0.den ρ := by
    rcases l0 with ⟨a, c, rfl, rfl⟩ | ⟨cap, rfl⟩
    · exact ⟨_, .inl ⟨a, c, rfl, rfl⟩, fun _ _ => rfl⟩
    · exact ⟨.s 0 0 m0 cap, .inr ⟨cap, rfl⟩, fun ρ' h => by simp [CV.den, h]⟩
  obtain ⟨y0, l0', e0⟩ := l0'
  refine (writesL_c w him l0' e0 ps f0 most hmost hm0 whole).mono fun e w' ⟨i, s, h1, h2, h3, he, hw, hb, hf⟩ => ⟨_, he, ?_⟩
  obtain ⟨k0, k1⟩ := hK i h1 h2 h3
  have hs' := hs.below hb
  rcases s with _ | ⟨b, c⟩
  · have hws : wouts whole ps i = [] := hw
    refine ⟨_, ρ, k0 hws, hs'.put (dk_of hd) fun _ ρ' _ => ?_, by cases d <;> simp [St.put], fun _ _ => rfl⟩
    rw [hws]; simp [slv, SV.den, CV.den]
  · have hlt := hf b c rfl
    have h1 := hs'.add (.rows 42 4 (wouts whole ps i).length c fun j => (wrw (wouts whole ps i) j).map .v) ⟨b, 0, 4⟩ [b] (fun ρ' hρ hn => hw.2.holds hn (.inl (Nat.le_trans hs.now.keeps.size hlt)) fun i _ => map_v _ _)
      (fun ρ' hn => by simp [Blk.foot, hn]) (fun k hk hm => by
        have := (hs.now.foot_lt hm).1
        simp at hk; omega) (by simp)
    refine ⟨_, _, k1 c hw.1, h1.put (dk_of hd) fun _ ρ' hρ' => ?_, by cases d <;> simp [St.put], fun k hk => by simp [envSet, Nat.ne_of_lt hk]⟩
    have := hρ' nx (by simp)
    simp [envSet] at this
    simp [slv, SV.den, CV.den, this]
end Go.Proofs.Ytagjblkfgjcmnaa
namespace Go.Proofs.Ytagjblkfgjcmnaa
open Go.RowKit Go.Sx
attribute [local go_sem ↓] reduceIte
attribute [local go_sem] Nat.reduceEqDiff Nat.reduceLT Nat.reduceLeDiff Nat.reduceAdd Nat.reduceMul Nat.reduceSub Nat.reduceDiv Nat.reduceMod Int.reduceToNat Int.reduceLT Int.reduceLE Int.reduceAdd Int.reduceSub Int.reduceMul Int.reduceEq Int.reduceNeg reduceCtorEq or_false false_or decide_true decide_false Int.cast_ofNat_Int Nat.zero_add Nat.add_zero Int.toNat_natCast Option.isNone_none Option.isNone_some Bool.not_true Bool.not_false Bool.xor_true Bool.xor_false Bool.true_xor Bool.false_xor Bool.and_true Bool.true_and Bool.and_false Bool.false_and eq_self ne_eq not_false_eq_true not_true_eq_false true_and and_true and_self
def dfl : Wr := ⟨⟨#[98, 48]⟩, ⟨#[97]⟩, ⟨#[118]⟩, false⟩
def wkey (x : Wr) : ByteArray × ByteArray := (x.b, x.k)
structure DealP (own : Bool) (ws : List Wr) : Prop where
  len : ws.length ≤ 10
  whole : own = true → (0 < ws.length ∧ ws.length ≤ 8) ∧ (∀ x, x ∈ ws → x.right = true) ∧ (ws.map wkey).Nodup
theorem strB_size (l : List Int) : (strB l).size = l.length := by simp [strB, ByteArray.size]
theorem nmd_of {s : ByteArray} (h0 : 0 < s.size) (h1 : s.size ≤ 16) : nmd s = true := by
  have : s ≠ ⟨#[]⟩ := fun e => by rw [e] at h0; exact absurd h0 (by decide)
  unfold nmd
  simp [this]; omega
theorem extract_le (s : ByteArray) : (s.extract 0 (min s.size 8)).size ≤ 8 := by simp; omega
theorem pwr_right (x : Wr) (k : Nat) : (pwr x true k).right = true := by
  have h1 : nmd (strB [98, 48 + ((k % 2 : Nat) : Int)]) = true := nmd_of (by rw [strB_size]; simp) (by rw [strB_size]; simp)
  have h2 : nmd (strB [97 + ((k / 2 % 4 : Nat) : Int)]) = true := nmd_of (by rw [strB_size]; simp) (by rw [strB_size]; simp)
  have h3 := extract_le x.x
  unfold pwr
  rw [if_pos rfl]
  unfold Wr.right
  dsimp only
  rw [h1, h2]
  by_cases hg : (224 : Int) ≤ (k : Int)
  · rw [decide_eq_true hg]
    simp only [if_true]
    decide
  · rw [decide_eq_false hg]
    generalize x.x.extract 0 (min x.x.size 8) = y at h3
    simp; omega
theorem wouts_right (ps : Nat → Pt) : ∀ i x, x ∈ wouts true ps i → x.right = true
  | 0, x, h => by simp [wouts] at h
  | i + 1, x, h => by
    simp only [wouts, wstep] at h
    split at h
    · exact wouts_right ps i x h
    · rcases List.mem_append.1 h with h | h
      · exact wouts_right ps i x h
      · have : x = wone true (ps i) := by simpa using h
        rw [this]; exact pwr_right _ _
theorem wouts_nodup (ps : Nat → Pt) : ∀ i, ((wouts true ps i).map wkey).Nodup
  | 0 => by simp [wouts]
  | i + 1 => by
    simp only [wouts, wstep, Bool.true_and]
    split
    · exact wouts_nodup ps i
    · next h =>
      rw [List.map_append, List.nodup_append]
      refine ⟨wouts_nodup ps i, by simp, fun a ha b hb he => h ?_⟩
      obtain ⟨y, hy, rfl⟩ := List.mem_map.1 ha
      have hb : b = wkey (wone true (ps i)) := by simpa using hb
      rw [List.any_eq_true]
      refine ⟨y, hy, ?_⟩
      rw [hb] at he
      simp only [wkey, Prod.mk.injEq] at he
      simp [hit, he.1, he.2]
theorem dfl_right : dfl.right = true := by decide
theorem dealP_f {ps : Nat → Pt} {i : Nat} (h : (wouts false ps i).length ≤ 10) : DealP false (wouts false ps i) := ⟨h, fun h => by cases h⟩
theorem dealP_t {ps : Nat → Pt} {i : Nat} (h : (wouts true ps i).length ≤ 8) (h0 : 0 < (wouts true ps i).length) : DealP true (wouts true ps i) := ⟨by omega, fun _ => ⟨⟨h0, h⟩, wouts_right ps i, wouts_nodup ps i⟩⟩
theorem dealP_d : DealP true [dfl] := ⟨by simp, fun _ => ⟨by simp, fun x hx => by rw [List.mem_singleton.1 hx]; exact dfl_right, by simp⟩⟩
abbrev putK : List FK := [.s, .s, .s, .b, .b, .i .u8]
set_option maxHeartbeats 4000000 in
set_option maxRecDepth 100000 in
theorem deal_c (w : World) (m : Stp) (mo own : Bool) (s : SlD) (hs : s.ok w putK) :
    Calls Try.prog 11 #[.agg #[vu m.v.a, vu m.v.b, vu m.v.c, vu m.v.d, .int .i64 m.dc, .bool mo, s.val, .bool own]] w fun e w' => ∃ ws t, DealP own ws ∧
      e = .returned (.agg #[vu (mk m (own || mo)).v.a, vu (mk m (own || mo)).v.b, vu (mk m (own || mo)).v.c, vu (mk m (own || mo)).v.d, .int .i64 (mk m (own || mo)).dc, slv t ws.length]) ∧ WlAt t ws w' ∧ Below w.heap.size w w' ∧ ∀ b c, t = some (b, c) → w.heap.size ≤ b := by
  obtain ⟨h1, h2, h3, h4⟩ := hs
  obtain ⟨x0, l0, e0⟩ : ∃ x0, LArg2 0 s.len x0 ∧ ∀ ρ : Env, ρ 0 = ⟨s.b, s.off, 6⟩ → x0.den ρ = s.val := by
    rcases Nat.eq_zero_or_pos s.len with h0 | h0
    · exact ⟨.v s.val, .inl ⟨s.a, s.cap, by simp [SlD.val, h0], h0⟩, fun _ _ => rfl⟩
    · exact ⟨.s 0 0 s.len s.cap, .inr ⟨s.cap, rfl⟩, fun ρ h => by simp [CV.den, h, SlD.val, h2 h0]⟩
  have hone : one1 x0 = true := by rcases l0 with ⟨a, c, rfl, _⟩ | ⟨c, rfl⟩ <;> rfl
  have f0 : ∃ ps : Nat → Pt, ∀ i, i < s.len → (s.r i).map CV.v = (ps i).row ∧ (ps i).k < 256 := by
    refine ⟨fun i => if h : i < s.len then (row_put (h4 i h)).choose else ⟨dfl, false, 0⟩, fun i hi => ?_⟩
    have := (row_put (h4 i hi)).choose_spec
    simp only [hi, dite_true]
    exact ⟨this.2, this.1⟩
  obtain ⟨ps, f0⟩ := f0
  have hmark := fun own' w => mark_c m own' w
  refine calls_imm [⟨s.b, s.off, 6, s.len, s.r⟩] (by simp; exact h3) 31 _ Try.func11 rfl Try.ntmps11 Try.results11 [.agg [cu m.v.a, cu m.v.b, cu m.v.c, cu m.v.d, ci m.dc, .v (.bool mo), x0, .v (.bool own)]] (by simp) (fun ρ h => by simp [SV.denL, SV.den, CV.den, CV.denL, e0 ρ (h 0 (by simp))]) ?_
  simp only [immL, List.length_cons, List.length_nil, Nat.zero_add, Nat.reduceAdd]
  cases own
  · simp (disch := omega) only [go_sem, wrapI64, wrapu64, wrapu32, wrapu8, ltT, ltF, leT, leF, eqF, eqT, nltT, nleT, neqFn]
    refine sdraw0 [.t 0, .t 1, .t 3, .t 4, .r 2, .r 5, .t 6, .r 7] 7 rfl (by kernel_rfl) ?_
    simp (disch := omega) only [go_sem, wrapI64, wrapu64, wrapu32, wrapu8, ltT, ltF, leT, leF, eqF, eqT, nltT, nleT, neqFn]
    refine scall_pure [.agg #[vu m.v.a, vu m.v.b, vu m.v.c, vu m.v.d, .int .i64 m.dc, .bool mo]] (sst (mk m mo).v.a (mk m mo).v.b (mk m mo).v.c (mk m mo).v.d (mk m mo).dc) (mk m mo).val Try.call36 (hmark mo) rfl (fun _ => rfl) (fun _ => rfl) ?_
    simp (disch := omega) only [go_sem, wrapI64, wrapu64, wrapu32, wrapu8, ltT, ltF, leT, leF, eqF, eqT, nltT, nleT, neqFn]
    refine writes_list 0 rfl l0 ps f0 10 (by decide) h1 false rfl fun i hi hend hle => ⟨fun hnil => ?_, fun c hc => ?_⟩
    · simp (disch := omega) only [go_sem, wrapI64, wrapu64, wrapu32, wrapu8, ltT, ltF, leT, leF, eqF, eqT, nltT, nleT, neqFn]
      exact fun ρ a w' hs _ => ⟨[], none, ⟨by simp, fun h => by cases h⟩, by simp [SV.den, CV.den, CV.denL, slv], rfl, hs.grown, fun b c h => by cases h⟩
    · simp (disch := omega) only [go_sem, wrapI64, wrapu64, wrapu32, wrapu8, ltT, ltF, leT, leF, eqF, eqT, nltT, nleT, neqFn]
      exact fun ρ a w' hs _ => ⟨wouts false ps i, some ((ρ 3).blk, c), dealP_f hle, by simp [SV.den, CV.den, CV.denL, slv, (hs.now.hp _ _ (mem_hget (n := 3) rfl)).1], ⟨hc, rowsAt_of (hs.now.hp _ _ (mem_hget (n := 3) rfl)) rfl fun j _ => map_v _ _⟩, hs.grown, fun b c h => by
        injection h with h; injection h with h _
        rw [← h]
        exact (hs.now.hp _ _ (mem_hget (n := 3) rfl)).2.2.2.elim id fun h => h.elim⟩
  · simp (disch := omega) only [go_sem, wrapI64, wrapu64, wrapu32, wrapu8, ltT, ltF, leT, leF, eqF, eqT, nltT, nleT, neqFn]
    refine sdraw [.t 0, .t 1, .t 3, .t 4, .c 2 [.c 5 [.t 6, .r 7, .r 8] 7 [.r 5, .t 6, .r 8]] 7 [.r 2, .r 5, .t 6, .r 8]] 9 [(0, _), (1, _)] rfl (by kernel_rfl) ⟨rfl, rfl, trivial⟩ ?_
    simp (disch := omega) only [go_sem, wrapI64, wrapu64, wrapu32, wrapu8, ltT, ltF, leT, leF, eqF, eqT, nltT, nleT, neqFn]
    refine ⟨?_, ?_⟩
    · refine scall_pure [.agg #[vu m.v.a, vu m.v.b, vu m.v.c, vu m.v.d, .int .i64 m.dc, .bool true]] (sst (mk m true).v.a (mk m true).v.b (mk m true).v.c (mk m true).v.d (mk m true).dc) (mk m true).val Try.call36 (hmark true) rfl (fun _ => rfl) (fun _ => rfl) ?_
      simp (disch := omega) only [go_sem, wrapI64, wrapu64, wrapu32, wrapu8, ltT, ltF, leT, leF, eqF, eqT, nltT, nleT, neqFn]
      refine ⟨?_, ?_⟩
      · refine writes_list 0 rfl l0 ps f0 8 (by decide) h1 true rfl fun i hi hend hle => ⟨fun hnil => ?_, fun c hc => ?_⟩
        · simp (disch := omega) only [go_sem, wrapI64, wrapu64, wrapu32, wrapu8, ltT, ltF, leT, leF, eqF, eqT, nltT, nleT, neqFn]
          exact fun ρ a w' hs _ => ⟨[dfl], some ((ρ 4).blk, 1), dealP_d, by simp [SV.den, CV.den, CV.denL, slv, (hs.now.hp _ _ (mem_hget (n := 4) rfl)).1], ⟨by simp, rowsAt_of (hs.now.hp _ _ (mem_hget (n := 4) rfl)) rfl fun j hj => by
            have : j = 0 := by simp at hj; omega
            subst this; rfl⟩, hs.grown, fun b c h => by
            injection h with h; injection h with h _
            rw [← h]
            exact (hs.now.hp _ _ (mem_hget (n := 4) rfl)).2.2.2.elim id fun h => h.elim⟩
        · simp (disch := omega) only [go_sem, wrapI64, wrapu64, wrapu32, wrapu8, ltT, ltF, leT, leF, eqF, eqT, nltT, nleT, neqFn]
          exact fun ρ a w' hs _ => ⟨wouts true ps i, some ((ρ 3).blk, c), dealP_t hle hc.2, by simp [SV.den, CV.den, CV.denL, slv, (hs.now.hp _ _ (mem_hget (n := 3) rfl)).1], ⟨hc, rowsAt_of (hs.now.hp _ _ (mem_hget (n := 3) rfl)) rfl fun j _ => map_v _ _⟩, hs.grown, fun b c h => by
            injection h with h; injection h with h _
            rw [← h]
            exact (hs.now.hp _ _ (mem_hget (n := 3) rfl)).2.2.2.elim id fun h => h.elim⟩
      · refine writes_list 0 rfl l0 ps f0 8 (by decide) h1 true rfl fun i hi hend hle => ⟨fun hnil => ?_, fun c hc => ?_⟩
        · simp (disch := omega) only [go_sem, wrapI64, wrapu64, wrapu32, wrapu8, ltT, ltF, leT, leF, eqF, eqT, nltT, nleT, neqFn]
          exact fun ρ a w' hs _ => ⟨[dfl], some ((ρ 4).blk, 1), dealP_d, by simp [SV.den, CV.den, CV.denL, slv, (hs.now.hp _ _ (mem_hget (n := 4) rfl)).1], ⟨by simp, rowsAt_of (hs.now.hp _ _ (mem_hget (n := 4) rfl)) rfl fun j hj => by
            have : j = 0 := by simp at hj; omega
            subst this; rfl⟩, hs.grown, fun b c h => by
            injection h with h; injection h with h _
            rw [← h]
            exact (hs.now.hp _ _ (mem_hget (n := 4) rfl)).2.2.2.elim id fun h => h.elim⟩
        · simp (disch := omega) only [go_sem, wrapI64, wrapu64, wrapu32, wrapu8, ltT, ltF, leT, leF, eqF, eqT, nltT, nleT, neqFn]
          exact fun ρ a w' hs _ => ⟨wouts true ps i, some ((ρ 4).blk, c), dealP_t hle hc.2, by simp [SV.den, CV.den, CV.denL, slv, (hs.now.hp _ _ (mem_hget (n := 4) rfl)).1], ⟨hc, rowsAt_of (hs.now.hp _ _ (mem_hget (n := 4) rfl)) rfl fun j _ => map_v _ _⟩, hs.grown, fun b c h => by
            injection h with h; injection h with h _
            rw [← h]
            exact (hs.now.hp _ _ (mem_hget (n := 4) rfl)).2.2.2.elim id fun h => h.elim⟩
    · refine scall_pure [.agg #[vu m.v.a, vu m.v.b, vu m.v.c, vu m.v.d, .int .i64 m.dc, .bool true]] (sst (mk m true).v.a (mk m true).v.b (mk m true).v.c (mk m true).v.d (mk m true).dc) (mk m true).val Try.call36 (hmark true) rfl (fun _ => rfl) (fun _ => rfl) ?_
      simp (disch := omega) only [go_sem, wrapI64, wrapu64, wrapu32, wrapu8, ltT, ltF, leT, leF, eqF, eqT, nltT, nleT, neqFn]
      refine writes_list 0 rfl l0 ps f0 8 (by decide) h1 true rfl fun i hi hend hle => ⟨fun hnil => ?_, fun c hc => ?_⟩
      · simp (disch := omega) only [go_sem, wrapI64, wrapu64, wrapu32, wrapu8, ltT, ltF, leT, leF, eqF, eqT, nltT, nleT, neqFn]
        exact fun ρ a w' hs _ => ⟨[dfl], some ((ρ 4).blk, 1), dealP_d, by simp [SV.den, CV.den, CV.denL, slv, (hs.now.hp _ _ (mem_hget (n := 4) rfl)).1], ⟨by simp, rowsAt_of (hs.now.hp _ _ (mem_hget (n := 4) rfl)) rfl fun j hj => by
          have : j = 0 := by simp at hj; omega
          subst this; rfl⟩, hs.grown, fun b c h => by
          injection h with h; injection h with h _
          rw [← h]
          exact (hs.now.hp _ _ (mem_hget (n := 4) rfl)).2.2.2.elim id fun h => h.elim⟩
      · simp (disch := omega) only [go_sem, wrapI64, wrapu64, wrapu32, wrapu8, ltT, ltF, leT, leF, eqF, eqT, nltT, nleT, neqFn]
        exact fun ρ a w' hs _ => ⟨wouts true ps i, some ((ρ 4).blk, c), dealP_t hle hc.2, by simp [SV.den, CV.den, CV.denL, slv, (hs.now.hp _ _ (mem_hget (n := 4) rfl)).1], ⟨hc, rowsAt_of (hs.now.hp _ _ (mem_hget (n := 4) rfl)) rfl fun j _ => map_v _ _⟩, hs.grown, fun b c h => by
          injection h with h; injection h with h _
          rw [← h]
          exact (hs.now.hp _ _ (mem_hget (n := 4) rfl)).2.2.2.elim id fun h => h.elim⟩
end Go.Proofs.Ytagjblkfgjcmnaa
namespace Go.Proofs.Ytagjblkfgjcmnaa
open Go.RowKit Go.Sx
theorem sld_keep {w w' : World} {s : SlD} {ks : List FK} (h : s.ok w ks) (hz : w.heap.size ≤ w'.heap.size) (hb : ∀ k, k < w.heap.size → w'.heap[k]? = w.heap[k]?) : s.ok w' ks := by
  obtain ⟨h1, h2, ⟨i1, i2, i3⟩, h4⟩ := h
  refine ⟨h1, h2, ⟨fun hm => Nat.lt_of_lt_of_le (i1 hm) hz, i2, fun i hi q hq => ?_⟩, h4⟩
  rw [← i3 i hi q hq]
  simp [World.cell?, hb s.b (i1 (by omega))]
section
variable {C : Cx} {fr : List (Nat × SV)} {hp : List (Nat × Blk)} {nx : Nat} {d : Option Tmp} {K : St → Prop}
theorem deal_s (m : Stp) (mo own : Bool) (s : SlD) (hs : s.ok C.w0 putK) (hM : ∀ k, ¬ C.M k) (hd : dkB C.N d = true)
    (hK : ∀ ws, DealP own ws → (ws = [] → kput K ⟨fr, hp, nx⟩ d (.agg [cu (mk m (own || mo)).v.a, cu (mk m (own || mo)).v.b, cu (mk m (own || mo)).v.c, cu (mk m (own || mo)).v.d, ci (mk m (own || mo)).dc, .v (.slice none 0 0)])) ∧
      ∀ c, ws.length ≤ c → 0 < ws.length → kput K ⟨fr, (nx, .rows 42 4 ws.length c fun j => (wrw ws j).map .v) :: hp, nx + 1⟩ d (.agg [cu (mk m (own || mo)).v.a, cu (mk m (own || mo)).v.b, cu (mk m (own || mo)).v.c, cu (mk m (own || mo)).v.d, ci (mk m (own || mo)).dc, .s nx 0 ws.length c])) :
    SCall Try.prog C 11 [.agg [cu m.v.a, cu m.v.b, cu m.v.c, cu m.v.d, ci m.dc, .v (.bool mo), .v s.val, .v (.bool own)]] d K ⟨fr, hp, nx⟩ := by
  refine ⟨rfl, fun ρ w a hsat _ => .inl ⟨fun v w => Try.call11 _ w, ?_⟩⟩
  have hkeep := hsat.now.keeps
  have hs' := sld_keep hs hkeep.size fun k hk => hkeep.block k hk (hM k)
  refine (deal_c w m mo own s hs').mono fun e w' ⟨ws, t, hP, he, hw, hb, hf⟩ => ⟨_, he, ?_⟩
  obtain ⟨k0, k1⟩ := hK ws hP
  have hs2 := hsat.below hb
  rcases t with _ | ⟨b, c⟩
  · have hws : ws = [] := hw
    refine ⟨_, ρ, k0 hws, hs2.put (dk_of hd) fun _ ρ' _ => ?_, by cases d <;> simp [St.put], fun _ _ => rfl⟩
    rw [hws]; simp [slv, SV.den, CV.den, CV.denL]
  · have hlt := hf b c rfl
    have h1 := hs2.add (.rows 42 4 ws.length c fun j => (wrw ws j).map .v) ⟨b, 0, 4⟩ [b] (fun ρ' hρ hn => hw.2.holds hn (.inl (Nat.le_trans hsat.now.keeps.size hlt)) fun i _ => map_v _ _)
      (fun ρ' hn => by simp [Blk.foot, hn]) (fun k hk hm => by
        have := (hsat.now.foot_lt hm).1
        simp at hk; omega) (by simp)
    refine ⟨_, _, k1 c hw.1.1 hw.1.2, h1.put (dk_of hd) fun _ ρ' hρ' => ?_, by cases d <;> simp [St.put], fun k hk => by simp [envSet, Nat.ne_of_lt hk]⟩
    have := hρ' nx (by simp)
    simp [envSet] at this
    simp [slv, SV.den, CV.den, CV.denL, this]
theorem push_all {s : ShS} {st : Stp} {ws : List Wr} (h : st.right = true) (hr : ∀ x, x ∈ ws → x.right = true) (hl : s.w.length < s.room) : s.pushB st ws = true ∧ s.push st ws = { s with w := s.w ++ [(st, ws)] } := by
  have h1 : (ws.any fun x => !x.right) = false := by
    rw [List.any_eq_false]
    intro x hx; rw [hr x hx]; simp
  have h2 : s.pushB st ws = true := by unfold ShS.pushB; rw [h, h1]; simp [hl]
  exact ⟨h2, by unfold ShS.push; rw [h2]; rfl⟩
theorem foldA_len (st : Stp) (ws : List Wr) (L : List CW.Ver) : (ws.foldl (addV st) L).length ≤ L.length + ws.length := by
  have := foldV_len (st := st) (ws := ws) (l := L) ws.length
  unfold foldV at this
  rwa [List.take_length] at this
theorem nst_s {st : Stp} (h : dOk C.N d ∧ kput K ⟨fr, hp, nx⟩ d (.c (cu st.n))) : SCall Try.prog C 31 [sst st.v.a st.v.b st.v.c st.v.d st.dc] d K ⟨fr, hp, nx⟩ := n_s h
theorem pwrite_s (x : Wr) (own : Bool) (k : Nat) (hk : k < 256) (h : dOk C.N d ∧ kput K ⟨fr, hp, nx⟩ d (.agg (pwr x own k).c)) : SCall Try.prog C 13 [.agg [.v (.string x.b), .v (.string x.k), .v (.string x.x), .v (.bool x.g), .v (.bool own), .v (.int .u8 k)]] d K ⟨fr, hp, nx⟩ :=
  scall_pure [.agg #[.string x.b, .string x.k, .string x.x, .bool x.g, .bool own, .int .u8 k]] (.agg (pwr x own k).c) (pwr x own k).val Try.call13 (pwrite_c x own k hk) rfl (fun _ => rfl) (fun _ => rfl) h
theorem vector_s (x : V4) (own : Bool) (h : dOk C.N d ∧ kput K ⟨fr, hp, nx⟩ d (sv4 (few x own).a (few x own).b (few x own).c (few x own).d)) : SCall Try.prog C 12 [.agg [cu x.a, cu x.b, cu x.c, cu x.d, .v (.bool own)]] d K ⟨fr, hp, nx⟩ :=
  scall_pure [.agg #[vu x.a, vu x.b, vu x.c, vu x.d, .bool own]] (sv4 (few x own).a (few x own).b (few x own).c (few x own).d) (few x own).v Try.call12 (vector_c x own) rfl (fun _ => rfl) (fun _ => rfl) h
end
theorem sld_one {s : SlD} : one1 (.v s.val) = true := (rfl)
attribute [go_sem] sld_one
structure DlR where
  m : Stp
  mo : Bool
  s : SlD
  own : Bool
def DlR.row (x : DlR) : List CV := [cu x.m.v.a, cu x.m.v.b, cu x.m.v.c, cu x.m.v.d, ci x.m.dc, .v (.bool x.mo), .v x.s.val, .v (.bool x.own)]
abbrev dlrK : List FL := [.f (.i .u64), .f (.i .u64), .f (.i .u64), .f (.i .u64), .f (.i .i64), .f .b, .l putK, .f .b]
structure DlR.ok (W : World) (x : DlR) : Prop where
  s : x.s.ok W putK
  nn : 0 ≤ x.m.v.a ∧ 0 ≤ x.m.v.b ∧ 0 ≤ x.m.v.c ∧ 0 ≤ x.m.v.d
theorem row_dlr {W : World} {l : List Value} {r : List FL} (h : NOk W (dlrK ++ r) l) : ∃ x : DlR, x.ok W ∧ ∃ l', l.map CV.v = x.row ++ l'.map CV.v ∧ NOk W r l' := by
  have nn : ∀ {a : Int}, (Lit.int .u64 a).wf = true → 0 ≤ a := fun hw => by obtain ⟨n, rfl, _⟩ := u64_nat hw; omega
  obtain ⟨a0, l0, rfl, w0, g0⟩ := nokI h
  obtain ⟨a1, l1, rfl, w1, g1⟩ := nokI g0
  obtain ⟨a2, l2, rfl, w2, g2⟩ := nokI g1
  obtain ⟨a3, l3, rfl, w3, g3⟩ := nokI g2
  obtain ⟨a4, l4, rfl, w4, g4⟩ := nokI g3
  obtain ⟨a5, l5, rfl, g5⟩ := nokB g4
  have g5 : NOk W (.l putK :: .f .b :: r) l5 := g5
  obtain ⟨v, l6, rfl, hv, g6⟩ := nokL g5
  obtain ⟨a7, l7, rfl, g7⟩ := nokB g6
  obtain ⟨s, rfl, hs⟩ := hv.out
  exact ⟨⟨⟨⟨a0, a1, a2, a3⟩, a4⟩, a5, s, a7⟩, ⟨hs, nn w0, nn w1, nn w2, nn w3⟩, l7, rfl, g7⟩
theorem put_flat {l : List Value} (h : FOk putK l) : ∃ p : Pt, p.k < 256 ∧ l = [.string p.x.b, .string p.x.k, .string p.x.x, .bool p.x.g, .bool p.own, .int .u8 p.k] := by
  match l, h with
  | [_, _, _, _, _, _], ⟨⟨b, rfl, _⟩, ⟨k, rfl, _⟩, ⟨x, rfl, _⟩, ⟨g, rfl⟩, ⟨o, rfl⟩, ⟨n, rfl, hw⟩, _⟩ =>
    obtain ⟨m, rfl, hm⟩ := u8_nat hw
    exact ⟨⟨⟨b, k, x, g⟩, o, m⟩, hm, rfl⟩
abbrev vecK : List FK := [.i .u64, .i .u64, .i .u64, .i .u64, .b]
theorem vec_flat {l : List Value} (h : FOk vecK l) : ∃ (x : V4) (o : Bool), (0 ≤ x.a ∧ 0 ≤ x.b ∧ 0 ≤ x.c ∧ 0 ≤ x.d) ∧ l = [vu x.a, vu x.b, vu x.c, vu x.d, .bool o] := by
  match l, h with
  | [_, _, _, _, _], ⟨⟨a, rfl, h1⟩, ⟨b, rfl, h2⟩, ⟨c, rfl, h3⟩, ⟨d, rfl, h4⟩, ⟨o, rfl⟩, _⟩ =>
    obtain ⟨a, rfl, _⟩ := u64_nat h1
    obtain ⟨b, rfl, _⟩ := u64_nat h2
    obtain ⟨c, rfl, _⟩ := u64_nat h3
    obtain ⟨d, rfl, _⟩ := u64_nat h4
    exact ⟨⟨a, b, c, d⟩, o, ⟨by simp only; omega, by simp only; omega, by simp only; omega, by simp only; omega⟩, rfl⟩
theorem dlr_flat {W : World} {l : List Value} (h : NOk W dlrK l) : ∃ x : DlR, x.ok W ∧ l = [vu x.m.v.a, vu x.m.v.b, vu x.m.v.c, vu x.m.v.d, .int .i64 x.m.dc, .bool x.mo, x.s.val, .bool x.own] := by
  have nn : ∀ {a : Int}, (Lit.int .u64 a).wf = true → 0 ≤ a := fun hw => by obtain ⟨n, rfl, _⟩ := u64_nat hw; omega
  obtain ⟨a0, l0, rfl, w0, g0⟩ := nokI h
  obtain ⟨a1, l1, rfl, w1, g1⟩ := nokI g0
  obtain ⟨a2, l2, rfl, w2, g2⟩ := nokI g1
  obtain ⟨a3, l3, rfl, w3, g3⟩ := nokI g2
  obtain ⟨a4, l4, rfl, w4, g4⟩ := nokI g3
  obtain ⟨a5, l5, rfl, g5⟩ := nokB g4
  obtain ⟨v, l6, rfl, hv, g6⟩ := nokL g5
  obtain ⟨a7, l7, rfl, g7⟩ := nokB g6
  obtain rfl := nok0 g7
  obtain ⟨s, rfl, hs⟩ := hv.out
  exact ⟨⟨⟨⟨a0, a1, a2, a3⟩, a4⟩, a5, s, a7⟩, ⟨hs, nn w0, nn w1, nn w2, nn w3⟩, rfl⟩
end Go.Proofs.Ytagjblkfgjcmnaa
namespace Go.Proofs.Ytagjblkfgjcmnaa
open Go.RowKit Go.Sx CW
attribute [local go_sem ↓] reduceIte
attribute [local go_sem] Nat.reduceEqDiff Nat.reduceLT Nat.reduceLeDiff Nat.reduceAdd Nat.reduceMul Nat.reduceSub Nat.reduceDiv Nat.reduceMod Int.reduceToNat Int.reduceLT Int.reduceLE Int.reduceAdd Int.reduceSub Int.reduceMul Int.reduceEq Int.reduceNeg reduceCtorEq or_false false_or decide_true decide_false Int.cast_ofNat_Int Nat.zero_add Nat.add_zero Int.toNat_natCast Option.isNone_none Option.isNone_some Bool.not_true Bool.not_false Bool.xor_true Bool.xor_false Bool.true_xor Bool.false_xor Bool.and_true Bool.true_and Bool.and_false Bool.false_and eq_self ne_eq not_false_eq_true not_true_eq_false true_and and_true and_self
abbrev x10S : Stp := ⟨⟨1, 0, 0, 0⟩, 1⟩
abbrev x10W : Wr := ⟨⟨#[98]⟩, ⟨#[107]⟩, ⟨#[118]⟩, false⟩
abbrev x10A : ShS := ⟨2, [(x10S, [x10W])], [], ⟨0, 0, 0, 0⟩⟩
abbrev x10B : ShS := ⟨2, [], [⟨x10S, x10W⟩], ⟨1, 0, 0, 0⟩⟩
abbrev x10K : Ky := (⟨#[98]⟩, ⟨#[107]⟩)
theorem x10_chn : chn [⟨x10S, x10W⟩] x10K = [⟨x10S, x10W⟩] := by kernel_rfl
theorem x10_1 : (ShS.new 2).pushB x10S [x10W] = true := by decide +kernel
theorem x10_2 : (ShS.new 2).push x10S [x10W] = x10A := by unfold ShS.push; rw [x10_1]; rfl
theorem x10_3 : (x10A.rdO x10K ⟨1, 0, 0, 0⟩ && !(x10A.rd x10K ⟨1, 0, 0, 0⟩).x.g) = false := by decide +kernel
theorem x10_4 : x10A.step = x10B := by
  have : addV x10S [] x10W = [⟨x10S, x10W⟩] := by kernel_rfl
  show (⟨2, [], [x10W].foldl (addV x10S) [], _⟩ : ShS) = _
  simp only [List.foldl_cons, List.foldl_nil, this]
  rfl
theorem x10_5 : x10B.step = x10B := rfl
theorem x10_6 : x10B.rd x10K ⟨1, 0, 0, 0⟩ = ⟨x10S, x10W⟩ := by kernel_rfl
theorem x10_7 : x10B.rdO x10K ⟨1, 0, 0, 0⟩ = true := by decide +kernel
theorem x10_8 : x10B.rdO x10K ⟨0, 0, 0, 0⟩ = false := by decide +kernel
theorem x10_9 : x10B.la x10K = ⟨x10S, x10W⟩ := by kernel_rfl
theorem x10_10 : x10B.laO x10K = true := by decide +kernel
theorem x10_11 : pruL x10B.l ⟨1, 0, 0, 0⟩ = x10B.l := by kernel_rfl
set_option maxHeartbeats 8000000 in
set_option maxRecDepth 100000 in
theorem ex_c (w : World) : Calls Try.prog 8 #[] w fun e w' => e = .returned (.bool true) ∧ Below w.heap.size w w' := by
  refine calls_pure 148 _ Try.func8 rfl Try.ntmps8 Try.results8 [] (by simp) (fun _ => rfl) ?_
  simp (disch := omega) only [go_sem, wrapI64, wrapu64, wrapu32, wrapu8, ltT, ltF, leT, leF, eqF, eqT, nltT, nleT, neqFn]
  refine shnew_bad (by decide) ?_
  simp (disch := omega) only [go_sem, wrapI64, wrapu64, wrapu32, wrapu8, ltT, ltF, leT, leF, eqF, eqT, nltT, nleT, neqFn]
  refine shnew_s (by decide) rfl fun g fp0 => ?_
  simp (disch := omega) only [go_sem, wrapI64, wrapu64, wrapu32, wrapu8, ltT, ltF, leT, leF, eqF, eqT, nltT, nleT, neqFn]
  refine shpush_s 0 x10S [x10W] (.rows 3 1 1 1 _ rfl ⟨by simp, by simp⟩ (fun i hi => by
    have : i = 0 := by simp at hi; omega
    subst this; rfl)) (by simp) rfl rfl fun fp1 => ?_
  simp (disch := omega) only [go_sem, wrapI64, wrapu64, wrapu32, wrapu8, ltT, ltF, leT, leF, eqF, eqT, nltT, nleT, neqFn, x10_1, x10_2]
  refine shwait_s 0 rfl rfl ?_
  simp (disch := omega) only [go_sem, wrapI64, wrapu64, wrapu32, wrapu8, ltT, ltF, leT, leF, eqF, eqT, nltT, nleT, neqFn]
  refine shread_s 0 (by decide) x10K ⟨1, 0, 0, 0⟩ rfl rfl fun fp2 => ?_
  rw [x10_3]
  simp (disch := omega) only [go_sem, wrapI64, wrapu64, wrapu32, wrapu8, ltT, ltF, leT, leF, eqF, eqT, nltT, nleT, neqFn]
  refine shstep_s 0 (by decide) (fun x hx => by
    have : x = (x10S, [x10W]) := by simpa using hx
    subst this; simp) rfl rfl fun fp3 => ?_
  rw [x10_4, show (!x10A.w.isEmpty) = true from rfl]
  simp (disch := omega) only [go_sem, wrapI64, wrapu64, wrapu32, wrapu8, ltT, ltF, leT, leF, eqF, eqT, nltT, nleT, neqFn]
  refine shstep_s 0 (by decide) (fun x hx => by cases hx) rfl rfl fun fp4 => ?_
  rw [x10_5, show (!x10B.w.isEmpty) = false from rfl]
  simp (disch := omega) only [go_sem, wrapI64, wrapu64, wrapu32, wrapu8, ltT, ltF, leT, leF, eqF, eqT, nltT, nleT, neqFn]
  refine shread_s 0 (by decide) x10K ⟨1, 0, 0, 0⟩ rfl rfl fun fp5 => ?_
  rw [x10_6, x10_7]
  simp (disch := omega) only [go_sem, wrapI64, wrapu64, wrapu32, wrapu8, ltT, ltF, leT, leF, eqF, eqT, nltT, nleT, neqFn]
  refine shread_s 0 (by decide) x10K ⟨0, 0, 0, 0⟩ rfl rfl fun fp6 => ?_
  rw [x10_8]
  simp (disch := omega) only [go_sem, wrapI64, wrapu64, wrapu32, wrapu8, ltT, ltF, leT, leF, eqF, eqT, nltT, nleT, neqFn]
  refine shlast_s 0 (by decide) x10K rfl rfl fun fp7 => ?_
  rw [x10_9, x10_10]
  simp (disch := omega) only [go_sem, wrapI64, wrapu64, wrapu32, wrapu8, ltT, ltF, leT, leF, eqF, eqT, nltT, nleT, neqFn]
  dsimp only [List.append]
  refine sdraw [.t 0, .t 1, .t 2, .t 3, .t 4, .t 5, .t 6, .t 7, .t 8, .t 9, .t 10, .t 11, .t 12, .t 13, .t 14, .t 15, .t 16, .t 17, .t 18, .t 19, .t 20, .t 21, .t 22, .t 23, .t 24, .t 25, .t 26, .t 27, .t 28, .t 29, .t 30, .t 31, .t 32, .t 33, .t 34, .t 35, .t 36, .t 37, .t 38, .t 39, .t 40, .t 41, .t 42, .t 43, .t 44, .t 45, .t 46, .t 47, .t 48, .t 49, .t 51, .t 52, .r 50, .t 53, .t 54, .t 55, .t 56, .r 57, .t 58, .t 59, .t 60, .t 61, .r 62, .t 63, .t 64, .t 65, .t 66, .t 67, .t 68, .r 69, .t 70, .t 71, .t 72] 73 [(1, _), (2, _), (5, _), (7, _)] rfl (by kernel_rfl) ⟨rfl, rfl, rfl, rfl, trivial⟩ ?_
  simp (maxSteps := 4000000) only [go_sem]
  refine shappl_s 0 rfl rfl ?_
  simp (maxSteps := 4000000) only [go_sem]
  refine shroom_s 0 (by decide) rfl rfl ?_
  simp (maxSteps := 4000000) only [go_sem]
  refine shvers_s 0 (by decide) rfl rfl ?_
  simp (maxSteps := 4000000) only [go_sem]
  refine shprune_s 0 (by decide) ⟨1, 0, 0, 0⟩ rfl rfl fun fp8 => ?_
  rw [x10_11]
  simp (maxSteps := 4000000) only [go_sem]
  exact fun ρ a w' hs _ => ⟨rfl, hs.grown⟩
end Go.Proofs.Ytagjblkfgjcmnaa
