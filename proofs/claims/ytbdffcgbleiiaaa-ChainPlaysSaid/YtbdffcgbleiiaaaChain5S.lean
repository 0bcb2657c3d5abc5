/-
  A chain of versions: its calls. Conditions: none.
-/
import Derived.Test.YtbdffcgbleiiaaaChain4S
import Derived.Test.YtbdffcgbleiiaaaMark
namespace Go.Proofs.Ytbdffcgbleiiaaa.CS
open Go.RowKit Go.Sx
set_option linter.unusedVariables false
set_option linter.unusedSimpArgs false

section
variable {C : Cx} {fr : List (Nat × SV)} {hp : List (Nat × Blk)} {nx : Nat} {d : Option Tmp} {K : St → Prop}
def rdV (l : List Ver) (p : Ver → Bool) : Ver := (rdL l p).getD ver0
def rdB (l : List Ver) (p : Ver → Bool) : Bool := (rdL l p).isSome
theorem new_s (hd : dkB C.N d = true) (hK : ∀ g fp', kput K ⟨fr, (nx, .pred fp' (On g (CSh []) fp')) :: hp, nx + 1⟩ d (.c (.v (gptr g)))) : SCall Try.prog C 12 [] d K ⟨fr, hp, nx⟩ :=
  on_new (Sh := CSh []) [] (fun g => gptr g) (fun g => .c (.v (gptr g))) Try.call12 cnew_c rfl (fun _ => rfl) (fun _ _ => rfl) hd hK
theorem add_s (n : Nat) {g : Nat} {l : List Ver} {fp : List Nat} (s : Stp) (x : ByteArray) (hs : Srt l) (hl : l.length ≤ 100000) (hg : hget hp n = some (.pred fp (On g (CSh l) fp))) (hd : dkB C.N d = true)
    (hK : ∀ fp', kput K ⟨fr, hset hp n (.pred fp' (On g (CSh (ins l s x)) fp')), nx⟩ d (.c (.v (.bool (insB l s))))) : SCall Try.prog C 17 [.c (.v (gptr g)), sst s.v.a s.v.b s.v.c s.v.d s.dc, .c (.v (Value.string x))] d K ⟨fr, hp, nx⟩ :=
  on_call n [gptr g, s.val, Value.string x] (.c (.v (.bool (insB l s)))) Try.call17 (fun w h => cadd_c g l hs hl s x fp w h) hg rfl (fun _ => rfl) (fun _ => rfl) hd hK
theorem read_s (n : Nat) {g : Nat} {l : List Ver} {fp : List Nat} (at' : V4) (hl : l.length ≤ 1000000) (hg : hget hp n = some (.pred fp (On g (CSh l) fp))) (hd : dkB C.N d = true)
    (hK : kput K ⟨fr, hset hp n (.pred fp (On g (CSh l) fp)), nx⟩ d (.tup [.agg (rdV l fun x => x.st.seen at').c, .c (.v (.bool (rdB l fun x => x.st.seen at')))])) : SCall Try.prog C 20 [.c (.v (gptr g)), sv4 at'.a at'.b at'.c at'.d] d K ⟨fr, hp, nx⟩ :=
  on_callk n [gptr g, at'.v] (.tup [.agg (rdV l fun x => x.st.seen at').c, .c (.v (.bool (rdB l fun x => x.st.seen at')))]) Try.call20 (fun w h => cread_c g l hl at' fp w h) hg rfl (fun _ => rfl) (fun _ => rfl) hd hK
theorem last_ss (n : Nat) {g : Nat} {l : List Ver} {fp : List Nat} (hl : l.length ≤ 1000000) (hg : hget hp n = some (.pred fp (On g (CSh l) fp))) (hd : dkB C.N d = true)
    (hK : kput K ⟨fr, hset hp n (.pred fp (On g (CSh l) fp)), nx⟩ d (.tup [.agg (rdV l fun _ => true).c, .c (.v (.bool (rdB l fun _ => true)))])) : SCall Try.prog C 22 [.c (.v (gptr g))] d K ⟨fr, hp, nx⟩ :=
  on_callk n [gptr g] (.tup [.agg (rdV l fun _ => true).c, .c (.v (.bool (rdB l fun _ => true)))]) Try.call22 (fun w h => clast_c g l hl fp w h) hg rfl (fun _ => rfl) (fun _ => rfl) hd hK
theorem len_s (n : Nat) {g : Nat} {l : List Ver} {fp : List Nat} (hg : hget hp n = some (.pred fp (On g (CSh l) fp))) (hd : dkB C.N d = true)
    (hK : kput K ⟨fr, hset hp n (.pred fp (On g (CSh l) fp)), nx⟩ d (.c (ci l.length))) : SCall Try.prog C 25 [.c (.v (gptr g))] d K ⟨fr, hp, nx⟩ :=
  on_callk n [gptr g] (.c (ci l.length)) Try.call25 (fun w h => clen_c g l fp w h) hg rfl (fun _ => rfl) (fun _ => rfl) hd hK
theorem prune_s (n : Nat) {g : Nat} {l : List Ver} {fp : List Nat} (h : V4) (hl : l.length ≤ 100000) (hg : hget hp n = some (.pred fp (On g (CSh l) fp))) (hd : dkB C.N d = true)
    (hK : ∀ fp', kput K ⟨fr, hset hp n (.pred fp' (On g (CSh (prn l h)) fp')), nx⟩ d (.c (ci ((l.length : Int) - (prn l h).length)))) : SCall Try.prog C 15 [.c (.v (gptr g)), sv4 h.a h.b h.c h.d] d K ⟨fr, hp, nx⟩ :=
  on_call n [gptr g, h.v] (.c (ci ((l.length : Int) - (prn l h).length))) Try.call15 (fun w ho => cprune_c g l hl h fp w ho) hg rfl (fun _ => rfl) (fun _ => rfl) hd hK
theorem all_s (n : Nat) {g : Nat} {l : List Ver} {fp : List Nat} (hl : l.length ≤ 1000000) (hg : hget hp n = some (.pred fp (On g (CSh l) fp))) (hd : dkB C.N d = true)
    (hK0 : l.length = 0 → kput K ⟨fr, hset hp n (.pred fp (On g (CSh l) fp)), nx⟩ d (.c (.v (.slice none 0 0))))
    (hK1 : ∀ c, l.length ≤ c → kput K ⟨fr, (nx, .rows 52 6 l.length c fun j => (vrow l j).map .v) :: hset hp n (.pred fp (On g (CSh l) fp)), nx + 1⟩ d (.c (.s nx 0 l.length c))) : SCall Try.prog C 24 [.c (.v (gptr g))] d K ⟨fr, hp, nx⟩ :=
  on_callv n [gptr g] Try.call24 (fun w h => call_c g l hl fp w h) hg rfl (fun _ => rfl) hd hK0 hK1
end
end Go.Proofs.Ytbdffcgbleiiaaa.CS
