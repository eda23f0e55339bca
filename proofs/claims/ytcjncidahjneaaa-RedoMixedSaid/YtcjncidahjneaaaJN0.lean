/-
  Laws that the claims of this seat use, of several texts in one: RdH, RdQ. No condition of their own.
-/
import Derived.Test.YtcjncidahjneaaaJM0

namespace Go.Proofs.Ytcjncidahjneaaa
open Go.ChangeShapes Go.WideShapes Go.ChangeAt Go.RowKit
attribute [local irreducible] wpList wpListIn Oper.quietAt wpM
attribute [local irreducible] tagL
end Go.Proofs.Ytcjncidahjneaaa

namespace Go.Proofs.Ytcjncidahjneaaa
open Go.ChangeShapes Go.WideShapes Go.ChangeAt Go.RowKit
open Go.ChangeShapes Go.WideShapes Go.ChangeAt Go.RowKit
theorem trod_rws {H : Type} {enc : TypeId × Value → H} {w : World} {base fuel : Nat} {sp : Nat → Bool} {held : Bool} {cs : List Value} {x : DataW H × List MemPlace}
    (hf : DataW.trod enc Try.prog w base sp held fuel 42 cs = some x) : ∃ v l, cs = [v] ∧ RwAt w v l ∧ l.length ≤ maxLen := by
  have hv : ∃ a n c, cs = [.slice a n c] := by
    rcases Go.Deep.open_slice Try.underlying42 hf with ⟨hcs, _⟩ | ⟨a, len, cap, m, n2, D, Pl, hcs, _⟩
    · exact ⟨_, _, _, hcs⟩
    · exact ⟨_, _, _, hcs⟩
  obtain ⟨a, n, c, rfl⟩ := hv
  obtain ⟨l, h1, h2⟩ := open_rws (v := .slice a n c) (d := x.1) (p := x.2) ⟨_, _, _, rfl⟩ ⟨fuel, hf⟩
  exact ⟨_, l, rfl, h1, h2⟩
set_option maxRecDepth 100000
theorem cells_entry : Try.prog.cellsOf 66 = 4 := by kernel_rfl
theorem open_entry {H : Type} {enc : TypeId × Value → H} {w W : World} {r : Reach} {b0 base : Nat} {sp : Nat → Bool} {held : Bool} {v : Value} {d : DataW H} {p : List MemPlace}
    (hv : Value.okWide Try.prog W r b0 66 v) (ht : DataW.Trod enc Try.prog w base sp held 66 v d p) :
    ∃ kv rv : Value, ∃ key : List UInt8, ∃ n more : Int, ∃ l : List Rw, BytesAt w kv key ∧ (-9223372036854775808 ≤ n ∧ n ≤ 9223372036854775807) ∧ (-9223372036854775808 ≤ more ∧ more ≤ 9223372036854775807) ∧ RwAt w rv l ∧ v = .agg #[kv, .int .i64 n, rv, .int .i64 more] := by
  have hu := Try.underlying66
  obtain ⟨cs, rfl, hsz⟩ := okWide_struct hu hv
  rw [cells_entry] at hsz
  obtain ⟨fuel, hf⟩ := ht
  obtain ⟨xs, n, rfl, hx, hl, hxl, hi⟩ := DataW.trod_struct hu hf
  have hxl5 : xs.length = 4 := hxl
  have g (i : Nat) (h : i < 4) : xs[i]? = some xs[i] := List.getElem?_eq_getElem (by omega)
  have h0 := (hi 0 _ rfl).trans (g 0 (by omega))
  have h1 := (hi 1 _ rfl).trans (g 1 (by omega))
  have h2 := (hi 2 _ rfl).trans (g 2 (by omega))
  have h3 := (hi 3 _ rfl).trans (g 3 (by omega))
  obtain ⟨kv, key, e0, B0, _⟩ := trod_bytes8 Try.underlying22 Try.underlying5 (by kernel_rfl) h0
  obtain ⟨m, e1, wf⟩ := trod_int1 Try.underlying3 h1
  obtain ⟨rv, l, e2, B2, _⟩ := trod_rws h2
  obtain ⟨k, e3, wk⟩ := trod_int1 Try.underlying3 h3
  refine ⟨kv, rv, key, m, k, l, B0, int_range wf, int_range wk, B2, ?_⟩
  have hL := four_parts (L := cs.toList) (by simpa using hsz) e0 e1 e2 e3
  rw [← Array.toArray_toList (xs := cs), hL]
end Go.Proofs.Ytcjncidahjneaaa
