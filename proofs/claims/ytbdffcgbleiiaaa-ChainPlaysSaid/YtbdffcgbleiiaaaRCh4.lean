/-
  The reference's chain: its calls as rules; a deed of the chains' law. Conditions: none.
-/
import Derived.Test.YtbdffcgbleiiaaaRCh3
import Derived.Test.YtbdffcgbleiiaaaEx09
namespace Go.Proofs.Ytbdffcgbleiiaaa.CS
open Go.RowKit Go.Sx
set_option linter.unusedVariables false
set_option linter.unusedSimpArgs false

theorem rfst_c (s : Stp) (w : World) : Calls Try.prog 19 #[s.val] w fun e w' => e = .returned s.val ∧ Below w.heap.size w w' := by
  obtain ⟨⟨a0, a1, a2, a3⟩, n⟩ := s
  refine calls_pure 8 _ Try.func19 rfl Try.ntmps19 Try.results19 [sst a0 a1 a2 a3 n] (by simp) (fun _ => rfl) ?_
  simp only [go_sem, ↓reduceIte, Nat.reduceEqDiff, Nat.reduceLT, Nat.reduceLeDiff, Nat.reduceAdd, Nat.reduceMul, Nat.reduceSub, Nat.reduceDiv, Nat.reduceMod, Int.reduceToNat, Int.reduceLT, Int.reduceLE, Int.reduceAdd, Int.reduceSub, Int.reduceMul, Int.reduceEq, Int.reduceNeg, reduceCtorEq, or_false, false_or, decide_true, decide_false, Int.cast_ofNat_Int, Nat.zero_add, Nat.add_zero, Int.toNat_natCast, Option.isNone_none, Option.isNone_some, Bool.not_true, Bool.not_false, Bool.xor_true, Bool.xor_false, Bool.true_xor, Bool.false_xor, decide_true, decide_false, Bool.and_true, Bool.true_and, Bool.and_false, Bool.false_and, eq_self, ne_eq, not_false_eq_true, not_true_eq_false, true_and, and_true, and_self]
  exact fun ρ a w hs _ => ⟨rfl, hs.grown⟩
section
variable {C : Cx} {fr : List (Nat × SV)} {hp : List (Nat × Blk)} {nx : Nat} {d : Option Tmp} {K : St → Prop}
theorem rfst_s {x : Stp} (hk : dOk C.N d ∧ kput K ⟨fr, hp, nx⟩ d (sst x.v.a x.v.b x.v.c x.v.d x.dc)) : SCall Try.prog C 19 [sst x.v.a x.v.b x.v.c x.v.d x.dc] d K ⟨fr, hp, nx⟩ :=
  scall_pure [x.val] _ x.val Try.call19 (rfst_c x) rfl (fun _ => rfl) (fun _ => rfl) hk
theorem radd_s (n : Nat) {g : Nat} {l : List Ver} {fp : List Nat} (s : Stp) (x : ByteArray) (hs : Srt l) (hl : l.length ≤ 100000) (hg : hget hp n = some (.pred fp (On g (RSh l) fp))) (hd : dkB C.N d = true)
    (hK : ∀ fp', kput K ⟨fr, hset hp n (.pred fp' (On g (RSh (ins l s x)) fp')), nx⟩ d (.c (.v (.bool (insB l s))))) : SCall Try.prog C 18 [.c (.v (gptr g)), sst s.v.a s.v.b s.v.c s.v.d s.dc, .c (.v (.string x))] d K ⟨fr, hp, nx⟩ :=
  on_call n [gptr g, s.val, .string x] (.c (.v (.bool (insB l s)))) Try.call18 (fun w h => radd_c g l hs hl s x fp w h) hg rfl (fun _ => rfl) (fun _ => rfl) hd hK
theorem rread_s (n : Nat) {g : Nat} {l : List Ver} {fp : List Nat} (at' : V4) (hl : l.length ≤ 100000) (hg : hget hp n = some (.pred fp (On g (RSh l) fp))) (hd : dkB C.N d = true)
    (hK : kput K ⟨fr, hset hp n (.pred fp (On g (RSh l) fp)), nx⟩ d (.tup [.agg (rdV l fun x => x.st.seen at').c, .c (.v (.bool (rdB l fun x => x.st.seen at')))])) : SCall Try.prog C 21 [.c (.v (gptr g)), sv4 at'.a at'.b at'.c at'.d] d K ⟨fr, hp, nx⟩ :=
  on_callk n [gptr g, at'.v] (.tup [.agg (rdV l fun x => x.st.seen at').c, .c (.v (.bool (rdB l fun x => x.st.seen at')))]) Try.call21 (fun w h => rread_c g l hl at' fp w h) hg rfl (fun _ => rfl) (fun _ => rfl) hd hK
theorem rlast_s (n : Nat) {g : Nat} {l : List Ver} {fp : List Nat} (hl : l.length ≤ 100000) (hg : hget hp n = some (.pred fp (On g (RSh l) fp))) (hd : dkB C.N d = true)
    (hK : kput K ⟨fr, hset hp n (.pred fp (On g (RSh l) fp)), nx⟩ d (.tup [.agg (rdV l fun _ => true).c, .c (.v (.bool (rdB l fun _ => true)))])) : SCall Try.prog C 23 [.c (.v (gptr g))] d K ⟨fr, hp, nx⟩ :=
  on_callk n [gptr g] (.tup [.agg (rdV l fun _ => true).c, .c (.v (.bool (rdB l fun _ => true)))]) Try.call23 (fun w h => rlast_c g l hl fp w h) hg rfl (fun _ => rfl) (fun _ => rfl) hd hK
theorem rprune_s (n : Nat) {g : Nat} {l : List Ver} {fp : List Nat} (h : V4) (hl : l.length ≤ 100000) (hg : hget hp n = some (.pred fp (On g (RSh l) fp))) (hd : dkB C.N d = true)
    (hK : ∀ fp', kput K ⟨fr, hset hp n (.pred fp' (On g (RSh (prn l h)) fp')), nx⟩ d (.c (ci ((l.length : Int) - (prn l h).length)))) : SCall Try.prog C 16 [.c (.v (gptr g)), sv4 h.a h.b h.c h.d] d K ⟨fr, hp, nx⟩ :=
  on_call n [gptr g, h.v] (.c (ci ((l.length : Int) - (prn l h).length))) Try.call16 (fun w ho => rprune_c g l hl h fp w ho) hg rfl (fun _ => rfl) (fun _ => rfl) hd hK
end
structure Deed9 where
  kind : Int
  m : Stp
  own : Bool
  s : ByteArray
  at' : V4
  vo : Bool
def Deed9.row (d : Deed9) : List CV := [.v (.int .u8 d.kind), cu d.m.v.a, cu d.m.v.b, cu d.m.v.c, cu d.m.v.d, ci d.m.dc, .v (.bool d.own), .v (.string d.s), cu d.at'.a, cu d.at'.b, cu d.at'.c, cu d.at'.d, .v (.bool d.vo)]
theorem row_deed9 {l : List Value} (h : FOk [.i .u8, .i .u64, .i .u64, .i .u64, .i .u64, .i .i64, .b, .s, .i .u64, .i .u64, .i .u64, .i .u64, .b] l) : ∃ d : Deed9, 0 ≤ d.kind ∧ l.map CV.v = d.row := by
  obtain ⟨q, l1, rfl, hq, h1⟩ := FOk_i h
  obtain ⟨v0, l3, rfl, _, h3⟩ := FOk_i h1
  obtain ⟨v1, l4, rfl, _, h4⟩ := FOk_i h3
  obtain ⟨v2, l5, rfl, _, h5⟩ := FOk_i h4
  obtain ⟨v3, l6, rfl, _, h6⟩ := FOk_i h5
  obtain ⟨dc, l7, rfl, _, h7⟩ := FOk_i h6
  obtain ⟨o, l8, rfl, h8⟩ := FOk_b h7
  obtain ⟨s, l9, rfl, _, h9⟩ := FOk_s h8
  obtain ⟨a0, k0, rfl, _, g0⟩ := FOk_i h9
  obtain ⟨a1, k1, rfl, _, g1⟩ := FOk_i g0
  obtain ⟨a2, k2, rfl, _, g2⟩ := FOk_i g1
  obtain ⟨a3, k3, rfl, _, g3⟩ := FOk_i g2
  obtain ⟨a4, k4, rfl, g4⟩ := FOk_b g3
  obtain rfl := FOk_0 g4
  refine ⟨⟨q, ⟨⟨v0, v1, v2, v3⟩, dc⟩, o, s, ⟨a0, a1, a2, a3⟩, a4⟩, ?_, rfl⟩
  simp [Lit.wf, IntKind.min, IntKind.max, IntKind.signed, IntKind.bits] at hq
  exact hq.1
end Go.Proofs.Ytbdffcgbleiiaaa.CS
