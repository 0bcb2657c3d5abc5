/-
  A version: its cells. Conditions: none.
-/
import Derived.Test.YtbdffcgbleiiaaaStamp
namespace Go.Proofs.Ytbdffcgbleiiaaa.CS
open Go.RowKit Go.Sx
set_option linter.unusedVariables false
set_option linter.unusedSimpArgs false
structure Ver where
  st : Stp
  x : ByteArray
def Ver.l (v : Ver) : List Value := [vu v.st.v.a, vu v.st.v.b, vu v.st.v.c, vu v.st.v.d, .int .i64 v.st.dc, Value.string v.x]
def Ver.val (v : Ver) : Value := .agg v.l.toArray
def Ver.c (v : Ver) : List CV := [cu v.st.v.a, cu v.st.v.b, cu v.st.v.c, cu v.st.v.d, ci v.st.dc, .v (Value.string v.x)]
theorem Ver.map_l (v : Ver) : v.l.map CV.v = v.c := rfl
end Go.Proofs.Ytbdffcgbleiiaaa.CS
