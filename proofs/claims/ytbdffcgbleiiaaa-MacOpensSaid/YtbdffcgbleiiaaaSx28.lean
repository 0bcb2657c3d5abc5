/-
  Bytes as lists of numbers: texts, slices of bytes, what is read of them and written. Conditions: none.
-/
import Derived.Test.YtbdffcgbleiiaaaSx27
set_option linter.unusedVariables false
set_option linter.unusedSimpArgs false
namespace Go.Sx
open Go.RowKit

/-- A text's bytes; the text of bytes. -/
def bl (s : ByteArray) : List Nat := s.data.toList.map (·.toNat)
def strN (l : List Nat) : ByteArray := ⟨(l.map UInt8.ofNat).toArray⟩
abbrev c8 (n : Nat) : CV := .v (.int .u8 n)
/-- Bytes as rows. -/
def brL (L : List Nat) (i : Nat) : List CV := ((L.drop i).take 1).map c8

theorem bl_len (s : ByteArray) : (bl s).length = s.size := by simp [bl]
theorem bl_lt (s : ByteArray) : ∀ x, x ∈ bl s → x < 256 := fun x hx => by
  obtain ⟨b, _, rfl⟩ := List.mem_map.1 hx
  exact b.toNat_lt
theorem bl_app (a b : ByteArray) : bl (a ++ b) = bl a ++ bl b := by simp [bl, ByteArray.data_append]
theorem bl_extract (s : ByteArray) (i j : Nat) : bl (s.extract i j) = ((bl s).take j).drop i := by
  simp only [bl, ByteArray.data_extract, Array.toList_extract, List.extract_eq_take_drop, List.map_take, List.map_drop]
  rw [List.drop_take]
theorem bl_strN {l : List Nat} (h : ∀ x, x ∈ l → x < 256) : bl (strN l) = l := by
  unfold bl strN
  rw [List.toList_toArray, List.map_map]
  conv => rhs; rw [← List.map_id l]
  refine List.map_congr_left fun x hx => ?_
  have := h x hx
  simp [Nat.mod_eq_of_lt this]
theorem strN_bl (s : ByteArray) : strN (bl s) = s := by
  unfold bl strN
  rw [List.map_map]
  have : (UInt8.ofNat ∘ fun x : UInt8 => x.toNat) = id := by funext x; simp
  rw [this, List.map_id]
theorem strN_size (l : List Nat) : (strN l).size = l.length := by
  show (strN l).data.size = _
  simp [strN]
theorem strN_app (a b : List Nat) : strN (a ++ b) = strN a ++ strN b := by
  apply ByteArray.ext
  simp [strN, ByteArray.data_append]
theorem bl_inj {a b : ByteArray} (h : bl a = bl b) : a = b := by rw [← strN_bl a, ← strN_bl b, h]
theorem strN_nil : strN [] = ByteArray.empty := rfl
theorem bt_get {s : ByteArray} {i x : Nat} (h : (bl s)[i]? = some x) : bt s (i : Int) = (x : Int) := by
  unfold bl at h
  rw [List.getElem?_map] at h
  unfold bt
  rw [Int.toNat_natCast, List.getD_eq_getElem?_getD]
  cases hq : s.data.toList[i]? with
  | none => rw [hq] at h; cases h
  | some b => rw [hq] at h; injection h with h; rw [← h]; rfl
theorem brL_get {L : List Nat} {i x : Nat} (h : L[i]? = some x) : brL L i = [c8 x] := by
  unfold brL
  obtain ⟨h1, rfl⟩ := List.getElem?_eq_some_iff.1 h
  rw [List.drop_eq_getElem_cons h1]; rfl
theorem brL_one (L : List Nat) (i : Nat) : (brL L i).all one1 = true := by
  unfold brL
  rw [List.all_map, List.all_eq_true]
  intro x _; rfl
theorem brow_br {s : ByteArray} {i : Nat} (h : i < s.size) : brow s i = brL (bl s) i := by
  have h1 : i < (bl s).length := by rw [bl_len]; exact h
  rw [brL_get (List.getElem?_eq_getElem h1)]
  unfold brow c8
  rw [bt_get (List.getElem?_eq_getElem h1)]
theorem rapp_br {L M : List Nat} {n j : Nat} (h : n = L.length) : rapp (brL L) n (fun i => brL M (j + i)) = brL (L ++ M.drop j) := by
  subst h
  funext i
  unfold rapp brL
  by_cases hi : i < L.length
  · rw [if_pos hi, List.drop_append_of_le_length (by omega), List.take_append_of_le_length (by simp; omega)]
  · rw [if_neg hi, List.drop_append, List.drop_eq_nil_of_le (by omega), List.nil_append, List.drop_drop]
theorem rupd_br {L : List Nat} {i x : Nat} (h : i < L.length) : rupd (brL L) i [c8 x] = brL (L.set i x) := by
  funext k
  unfold rupd
  by_cases hk : k = i
  · subst hk
    rw [if_pos rfl, brL_get (by rw [List.getElem?_set_self h])]
  · rw [if_neg hk]
    have : (L.set i x)[k]? = L[k]? := by rw [List.getElem?_set_ne (Ne.symm hk)]
    cases hq : L[k]? with
    | some y => rw [brL_get hq, brL_get (by rw [this, hq])]
    | none =>
      have h1 := List.getElem?_eq_none_iff.1 hq
      unfold brL
      rw [List.drop_eq_nil_of_le h1, List.drop_eq_nil_of_le (by simpa using h1)]
theorem byL_br {L : List Nat} : ∀ {n i : Nat}, i + n ≤ L.length → byL (brL L) i n = some (((L.drop i).take n).map fun x : Nat => (x : Int))
  | 0, i, _ => by simp [byL]
  | n + 1, i, h => by
    have h1 : i < L.length := by omega
    rw [byL, brL_get (List.getElem?_eq_getElem h1), byL_br (by omega), List.drop_eq_getElem_cons h1]
    rfl
theorem strB_map (l : List Nat) : strB (l.map fun x : Nat => (x : Int)) = strN l := by
  unfold strB strN
  rw [List.map_map]
  congr 2
theorem rowsOf_br (L : List Nat) : rowsOf 1 (L.map c8) = brL L := by
  funext i
  unfold rowsOf brL
  rw [Nat.mul_one, ← List.map_drop, ← List.map_take]
section
variable {P : Program} {C : Cx} {fr : List (Nat × SV)} {hp : List (Nat × Blk)} {nx : Nat}
/-- A text's bytes. -/
theorem sbytes2 {d : Tmp} {x : Operand} {t1 t E ty : TypeId} {pos : String} {af : Array Edge} {g : Option (Nat × Bool)} {K : St → Prop} {s : ByteArray} {tk : TK}
    (hx : St.ev ⟨fr, hp, nx⟩ x = .c (.v (.string s))) (h1 : tkind P t1 = some tk) (hk : tkind P t = some (.slc E)) (hE : tint P E = some (some .u8))
    (hK : d < C.N ∧ ∀ c', s.size ≤ c' → K ⟨(d, .c (.s nx 0 s.size c')) :: fr, (nx, .rows E 1 s.size c' (brL (bl s))) :: hp, nx + 1⟩) :
    SOp P C ⟨some d, .convert t1 t x, ty, pos, af, g⟩ K ⟨fr, hp, nx⟩ := fun ρ a w hs => by
  obtain ⟨hd, hK⟩ := hK
  have := sbytes (P := P) (C := C) (ty := ty) (pos := pos) (af := af) (g := g) (K := fun st => ∃ c', s.size ≤ c' ∧ st = ⟨(d, .c (.s nx 0 s.size c')) :: fr, (nx, .rows E 1 s.size c' (brow s)) :: hp, nx + 1⟩) hx h1 hk hE ⟨hd, fun c' hc' => ⟨c', hc', rfl⟩⟩ ρ a w hs
  refine Oper.wp_to this fun a' w' hk => ?_
  obtain ⟨st1, ρ1, ⟨c', hc', rfl⟩, h5, h6, h7⟩ := hk
  refine ⟨_, ρ1, hK c' hc', ?_, h6, h7⟩
  have := h5.set (b := nx) (old := .rows E 1 s.size c' (brow s)) (new := .rows E 1 s.size c' (brL (bl s))) (w' := w') (by simp [hget]) h5.now.keeps (Nat.le_refl _) (fun _ _ _ _ => rfl) (fun ρ' hρ => ⟨rfl, by
    obtain ⟨g0, g1, ⟨arr, g2, gc, g3⟩, g4⟩ := (h5 ρ' hρ).hp nx (.rows E 1 s.size c' (brow s)) (by simp)
    exact ⟨g0, g1, ⟨arr, g2, gc, fun i hi => by rw [← brow_br hi]; exact g3 i hi⟩, g4⟩⟩)
  simpa [hset] using this
end
end Go.Sx
