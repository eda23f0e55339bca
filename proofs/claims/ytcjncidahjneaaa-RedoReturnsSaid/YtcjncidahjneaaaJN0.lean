/-
  Laws that the claims of this seat use, of several texts in one: RdH, RdQ. No condition of their own.
-/
import Derived.Test.YtcjncidahjneaaaJM0

namespace Go.Proofs.Ytcjncidahjneaaa
open Go.ChangeShapes Go.WideShapes Go.ChangeAt Go.RowKit
attribute [local irreducible] wpList wpListIn Oper.quietAt wpM
attribute [local irreducible] tagL
theorem u64W_small {a : Int} (h0 : 0 ≤ a) (h : a ≤ 65535) : ((u64W a : Nat) : Int) = a := by unfold u64W; omega
theorem beN_two_of {a : Int} (h0 : 0 ≤ a) (h : a ≤ 65535) : (beN (beB (u64W a) 2) : Int) = a := by
  have h1 := u64W_small h0 h
  have e : (256 : Nat) ^ 2 = 65536 := by decide +kernel
  rw [beN_beB, e, Nat.mod_eq_of_lt (by omega), h1]
theorem beN_eight_of {n : Int} (h0 : -9223372036854775808 ≤ n) (h : n ≤ 9223372036854775807) : wrap64 (beN (beB (u64W n) 8) : Int) = n := by
  have e : (256 : Nat) ^ 8 = 18446744073709551616 := by decide +kernel
  rw [beN_beB, e]
  unfold u64W wrap64
  omega
theorem numR_8 (n : Int) (l : List Pt) (h : l.length ≤ 56) : numR (firstC n l) 8 = l.length := by
  have e : (256 : Nat) ^ 2 = 65536 := by decide +kernel
  unfold numR firstC firstT
  rw [List.append_assoc, List.drop_left' (beB_len _ _), List.append_assoc, List.take_left' (beB_len _ _), beN_beB, e, Nat.mod_eq_of_lt (by omega)]
theorem nums_at (tl : List UInt8) : ∀ {l : List Pt} {i : Nat} {x : Pt}, l[i]? = some x → (((l.flatMap fun x => beB (u64W x.1) 2) ++ tl).drop (2 * i)).take 2 = beB (u64W x.1) 2
  | [], i, x, h => by simp at h
  | y :: l, 0, x, h => by
    simp at h; subst h
    rw [Nat.mul_zero, List.drop_zero, List.flatMap_cons, List.append_assoc, List.take_left' (beB_len _ _)]
  | y :: l, i + 1, x, h => by
    have ih := nums_at tl (l := l) (i := i) (x := x) (by simpa using h)
    rw [List.flatMap_cons, List.append_assoc, show 2 * (i + 1) = 2 + 2 * i by omega, ← List.drop_drop, List.drop_left' (beB_len _ _)]
    exact ih
theorem numR_at (n : Int) {l : List Pt} {i : Nat} {x : Pt} (h : l[i]? = some x) (h0 : 0 ≤ x.1) (h1 : x.1 ≤ 65535) : (numR (firstC n l) (10 + 2 * i) : Int) = x.1 := by
  unfold numR firstC firstT
  rw [List.append_assoc, List.append_assoc, show 10 + 2 * i = 8 + (2 + 2 * i) by omega, ← List.drop_drop, List.drop_left' (beB_len _ _), ← List.drop_drop, List.drop_left' (beB_len _ _), nums_at _ h]
  exact beN_two_of h0 h1
theorem cntR_of {n : Int} (l : List Pt) (h0 : -9223372036854775808 ≤ n) (h : n ≤ 9223372036854775807) : cntR (firstC n l) = n := by
  unfold cntR firstC firstT
  rw [List.append_assoc, List.append_assoc, List.take_left' (beB_len _ _)]
  exact beN_eight_of h0 h
theorem saysR_of (n : Int) {l : List Pt} (h : l.length ≤ 56) : saysR (firstC n l) = l.length := by
  unfold saysR; rw [numR_8 n l h, if_pos h]
/-- What sectors say that begin with an entry's first one. -/
theorem putsD_of {n : Int} {l : List Pt} {X : List UInt8} (hs : soundP l) (h0 : celX X 0 = firstC n l) (hb : ∀ i x, l[i]? = some x → celX X (2 + i) = x.2) : putsD X = l := by
  have hq := saysR_of n hs.2.2
  unfold putsD
  rw [h0, hq]
  apply List.ext_getElem?
  intro i
  rw [List.getElem?_map]
  by_cases hi : i < l.length
  · rw [List.getElem?_range hi, Option.map_some, List.getElem?_eq_getElem hi]
    have hx : l[i]? = some l[i] := List.getElem?_eq_getElem hi
    obtain ⟨r1, r2⟩ := hs.2.1 l[i] (List.getElem_mem hi)
    congr 1
    exact Prod.ext (numR_at n hx r1 r2) (hb i _ hx)
  · rw [List.getElem?_eq_none (by rw [List.length_range]; omega), List.getElem?_eq_none (by omega)]; rfl
theorem bodyL_at : ∀ {l : List Pt} {i : Nat} {x : Pt} (tl : List UInt8), okP l → l[i]? = some x → ((bodyL l ++ tl).drop (128 * i)).take 128 = x.2
  | [], i, x, tl, _, h => by simp at h
  | y :: l, 0, x, tl, ho, h => by
    simp at h; subst h
    unfold bodyL
    rw [Nat.mul_zero, List.drop_zero, List.flatMap_cons, List.append_assoc, List.take_left' (ho _ (List.mem_cons_self ..)).1]
  | y :: l, i + 1, x, tl, ho, h => by
    have ih := bodyL_at (l := l) (i := i) (x := x) tl (fun z hz => ho z (List.mem_cons_of_mem _ hz)) (by simpa using h)
    unfold bodyL at ih ⊢
    rw [List.flatMap_cons, List.append_assoc, show 128 * (i + 1) = 128 + 128 * i by omega, ← List.drop_drop, List.drop_left' (ho _ (List.mem_cons_self ..)).1]
    exact ih
theorem encL_body (key : List UInt8) (n : Int) {l : List Pt} (tl : List UInt8) (ho : okP l) (h : l.length ≤ 56) {i : Nat} {x : Pt} (hx : l[i]? = some x) : celX (encL key n l ++ tl) (2 + i) = x.2 := by
  unfold celX encL
  rw [List.append_assoc, List.append_assoc, show 128 * (2 + i) = 128 + (128 + 128 * i) by omega, ← List.drop_drop, List.drop_left' (firstC_len n h), ← List.drop_drop, List.drop_left' (tagC_len _ _ _)]
  exact bodyL_at tl ho hx
theorem encL_0t (key : List UInt8) (n : Int) {l : List Pt} (tl : List UInt8) (h : l.length ≤ 56) : celX (encL key n l ++ tl) 0 = firstC n l := by
  unfold celX encL
  rw [Nat.mul_zero, List.drop_zero, List.append_assoc, List.take_left' (firstC_len n h)]
theorem encL_1t (key : List UInt8) (n : Int) {l : List Pt} (tl : List UInt8) (h : l.length ≤ 56) : celX (encL key n l ++ tl) 1 = tagC key (firstC n l) l := by
  unfold celX encL
  rw [List.append_assoc, List.append_assoc]
  exact take_drop_app (firstC_len n h) (tagC_len _ _ _)
/-- With whatever key an entry's sectors are read, and whatever stands behind them. -/
theorem dec_other (key other : List UInt8) {n : Int} {l : List Pt} (tl : List UInt8) {m : Nat} (ho : okP l) (hs : soundP l) (hn : 0 ≤ n ∧ n ≤ 9223372036854775807) (hm : l.length + 2 ≤ m) :
    (DecOk other (encL key n l ++ tl) m ↔ tagC other (firstC n l) l = tagC key (firstC n l) l) ∧ cntR (celX (encL key n l ++ tl) 0) = n ∧ putsD (encL key n l ++ tl) = l := by
  have h56 := hs.2.2
  have e0 := encL_0t key n tl h56
  have e1 := encL_1t key n tl h56
  have hp := putsD_of hs e0 (fun i x hx => encL_body key n tl ho h56 hx)
  have hc := cntR_of (n := n) l (by omega) hn.2
  have hq := saysR_of n h56
  refine ⟨?_, by rw [e0, hc], hp⟩
  unfold DecOk
  rw [hp, e0, e1, hq, hc]
  exact ⟨fun h => h.2.2.2.2.2, fun h => ⟨by omega, by omega, hn.1, hs, rfl, h⟩⟩
end Go.Proofs.Ytcjncidahjneaaa

namespace Go.Proofs.Ytcjncidahjneaaa
open Go.ChangeShapes Go.WideShapes Go.ChangeAt Go.RowKit
open Go.ChangeShapes Go.WideShapes Go.ChangeAt Go.RowKit
theorem trod_rws {H : Type} {enc : TypeId × Value → H} {w : World} {base fuel : Nat} {sp : Nat → Bool} {held : Bool} {cs : List Value} {x : DataW H × List MemPlace}
    (hf : DataW.trod enc Try.prog w base sp held fuel 42 cs = some x) : ∃ v l, cs = [v] ∧ RwAt w v l ∧ l.length ≤ maxLen := by
  have hv : ∃ a n c, cs = [.slice a n c] := by
    rcases Go.Deep.open_slice Try.underlying42 hf with ⟨hcs, _⟩ | ⟨a, len, cap, m, n2, D, Pl, hcs, _⟩
    · exact ⟨_, _, _, hcs⟩
    · exact ⟨_, _, _, hcs⟩
  obtain ⟨a, n, c, rfl⟩ := hv
  obtain ⟨l, h1, h2⟩ := open_rws (v := .slice a n c) (d := x.1) (p := x.2) ⟨_, _, _, rfl⟩ ⟨fuel, hf⟩
  exact ⟨_, l, rfl, h1, h2⟩
set_option maxRecDepth 100000
theorem cells_entry : Try.prog.cellsOf 66 = 4 := by kernel_rfl
theorem open_entry {H : Type} {enc : TypeId × Value → H} {w W : World} {r : Reach} {b0 base : Nat} {sp : Nat → Bool} {held : Bool} {v : Value} {d : DataW H} {p : List MemPlace}
    (hv : Value.okWide Try.prog W r b0 66 v) (ht : DataW.Trod enc Try.prog w base sp held 66 v d p) :
    ∃ kv rv : Value, ∃ key : List UInt8, ∃ n more : Int, ∃ l : List Rw, BytesAt w kv key ∧ (-9223372036854775808 ≤ n ∧ n ≤ 9223372036854775807) ∧ (-9223372036854775808 ≤ more ∧ more ≤ 9223372036854775807) ∧ RwAt w rv l ∧ v = .agg #[kv, .int .i64 n, rv, .int .i64 more] := by
  have hu := Try.underlying66
  obtain ⟨cs, rfl, hsz⟩ := okWide_struct hu hv
  rw [cells_entry] at hsz
  obtain ⟨fuel, hf⟩ := ht
  obtain ⟨xs, n, rfl, hx, hl, hxl, hi⟩ := DataW.trod_struct hu hf
  have hxl5 : xs.length = 4 := hxl
  have g (i : Nat) (h : i < 4) : xs[i]? = some xs[i] := List.getElem?_eq_getElem (by omega)
  have h0 := (hi 0 _ rfl).trans (g 0 (by omega))
  have h1 := (hi 1 _ rfl).trans (g 1 (by omega))
  have h2 := (hi 2 _ rfl).trans (g 2 (by omega))
  have h3 := (hi 3 _ rfl).trans (g 3 (by omega))
  obtain ⟨kv, key, e0, B0, _⟩ := trod_bytes8 Try.underlying22 Try.underlying5 (by kernel_rfl) h0
  obtain ⟨m, e1, wf⟩ := trod_int1 Try.underlying3 h1
  obtain ⟨rv, l, e2, B2, _⟩ := trod_rws h2
  obtain ⟨k, e3, wk⟩ := trod_int1 Try.underlying3 h3
  refine ⟨kv, rv, key, m, k, l, B0, int_range wf, int_range wk, B2, ?_⟩
  have hL := four_parts (L := cs.toList) (by simpa using hsz) e0 e1 e2 e3
  rw [← Array.toArray_toList (xs := cs), hL]
end Go.Proofs.Ytcjncidahjneaaa
