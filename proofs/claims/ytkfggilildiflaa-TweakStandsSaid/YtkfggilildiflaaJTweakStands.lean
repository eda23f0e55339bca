/-
  The law TweakStands: for every key, text and two numbers it answers true. No condition.
-/
import Derived.Test.YtkfggilildiflaaRows
import Derived.Test.YtkfggilildiflaaJF0

namespace Go.Proofs.Ytkfggilildiflaa
open Go.ChangeShapes Go.WideShapes Go.ChangeAt Go.RowKit
attribute [local irreducible] wpList wpListIn Oper.quietAt wpM
theorem stands_all (key l : List UInt8) (n m : Int) (v tv : Value) (w0 : World) (hv : BytesAt w0 v key) (ht : BytesAt w0 tv l) :
    Calls Try.prog 20 #[v, .int .i64 n, .int .i64 m, tv] w0 fun e w' => e = .returned (.bool true) ∧ Below w0.heap.size w0 w' := by
  by_cases hbad : ¬ (key.length = 32 ∨ key.length = 64) ∨ l.length < 16 ∨ 1000 < l.length
  · exact stands_bad key l n m v tv w0 hv ht hbad
  · have hk : key.length = 32 ∨ key.length = 64 := Decidable.byContradiction fun h => hbad (.inl h)
    by_cases hnm : n = m
    · subst hnm
      rcases hk with hk | hk
      · exact stands_32s key l hk (by omega) (by omega) n v tv w0 hv ht
      · exact stands_64s key l hk (by omega) (by omega) n v tv w0 hv ht
    · rcases hk with hk | hk
      · exact stands_32u key l hk (by omega) (by omega) n m hnm v tv w0 hv ht
      · exact stands_64u key l hk (by omega) (by omega) n m hnm v tv w0 hv ht
set_option maxRecDepth 100000 in
theorem tweakStands_any (key l : List UInt8) (n m : Int) (kv tv : Value) (w0 : World) (hv : BytesAt w0 kv key) (ht : BytesAt w0 tv l) :
    Calls Try.prog 4 #[.agg #[kv, .int .i64 n, .int .i64 m, tv]] w0 fun e w' => e = .returned (.bool true) ∧ Below w0.heap.size w0 w' := by
  obtain ⟨p, c, rfl, hc⟩ := hv.slice
  obtain ⟨tp, tc, rfl, htc⟩ := ht.slice
  have hS := St.start w0
  go_enter Try.func4, Try.ntmps4
  repeat' (first | ((with_reducible refine cons_list ?_); first | ((first | refine g_skip stp_list ?_ | refine g_move stp_list ?_ | refine g_assign stp_list ?_ | refine g_load1 stp_list own_st hS ?_ | refine g_loadR stp_list own_st hS ?_ | refine g_indexAddr stp_list ?_ | refine g_indexAddrA stp_list ?_ | refine g_len stp_list ?_ | refine g_cap stp_list ?_ | refine g_extract stp_list ?_ | refine g_add stp_list ?_ | refine g_sub stp_list ?_ | refine g_mul stp_list ?_ | refine g_quo stp_list ?_ | refine g_rem stp_list ?_ | refine g_cmp_t stp_list ?_ | refine g_cmp_f stp_list ?_ | refine g_cmp stp_list (fun hc => ?_) (fun hc => ?_) | refine g_neqNil stp_list ?_ | refine g_neqNil0 stp_list ?_ | refine g_eqlNil stp_list ?_ | refine g_eqlNil0 stp_list ?_ | refine g_fieldAddr stp_list ?_ | refine g_field1 stp_list ?_ | refine g_fieldR stp_list ?_ | refine g_eqlSlNil stp_list ?_ | refine g_neqSlNil stp_list ?_ | refine g_makeInterface stp_list ?_ | refine g_makeFunc stp_list ?_ | refine g_conv stp_list ?_ | refine g_pick stp_list ?_ | refine g_not stp_list ?_ | refine g_slice stp_list ?_ | refine g_sliceA stp_list ?_ | refine g_sliceNil stp_list ?_) <;> refine put_in ?_) | ((first | refine g_alloc stp_list own_st hS ?_ | refine g_box stp_list own_st hS ?_ | refine g_build0 stp_list own_st hS ?_ | refine g_build stp_list own_st hS ?_ | refine g_make stp_list own_st hS ?_); clear hS; intro b w hS; refine put_in ?_) | ((first | refine g_store1 stp_list own_st hS ?_ | refine g_storeR stp_list own_st hS ?_); clear hS; intro w hS; refine put_in ?_) | (refine g_callq stp_list own_st hS (stands_all key l n m _ _ _ (hv.below hS.below) (ht.below hS.below)) ?_; clear hS; intro w hS; refine put_in ?_)) | ((fail_if_success (with_reducible refine cons_list ?_)); first | go_step | go_step3 | rw [Exit.noGoto_normal] | rw [Exit.noGoto_ret] | rw [Exit.noGoto_exit]))
  go_ret
  exact ⟨rfl, hS.below⟩
end Go.Proofs.Ytkfggilildiflaa

namespace Go.Proofs.Ytkfggilildiflaa
open Go.ChangeShapes Go.WideShapes Go.ChangeAt Go.RowKit
open Go.ChangeShapes Go.WideShapes Go.ChangeAt Go.RowKit
theorem trod_bytes8 {P : Program} {H : Type} {enc : TypeId × Value → H} {w : World} {base fuel : Nat} {sp : Nat → Bool} {held : Bool} {t e : Nat} {cs : List Value} {x : DataW H × List MemPlace}
    (ht : P.underlying t = some (.slice e)) (he : P.underlying e = some (.int .u8)) (hc : P.cellsOf e = 1) (hf : DataW.trod enc P w base sp held fuel t cs = some x) : ∃ v l, cs = [v] ∧ BytesAt w v l ∧ l.length ≤ maxLen := by
  have hv : ∃ a n c, cs = [.slice a n c] := by
    rcases Go.Deep.open_slice1 ht hc hf with ⟨hcs, _⟩ | ⟨a, len, cap, m, n2, V, D, Pl, hcs, _⟩
    · exact ⟨_, _, _, hcs⟩
    · exact ⟨_, _, _, hcs⟩
  obtain ⟨a, n, c, rfl⟩ := hv
  obtain ⟨l, h1, h2⟩ := open_bytes (v := .slice a n c) (d := x.1) (p := x.2) ht he hc ⟨_, _, _, rfl⟩ ⟨fuel, hf⟩
  exact ⟨_, l, rfl, h1, h2⟩
theorem trod_int1 {P : Program} {H : Type} {enc : TypeId × Value → H} {w : World} {base fuel : Nat} {sp : Nat → Bool} {held : Bool} {t : Nat} {k : IntKind} {cs : List Value} {x : DataW H × List MemPlace}
    (ht : P.underlying t = some (.int k)) (hf : DataW.trod enc P w base sp held fuel t cs = some x) : ∃ n, cs = [.int k n] ∧ (Lit.int k n).wf = true := by
  obtain ⟨n, h1, _, h3⟩ := DataW.trod_int ht hf
  exact ⟨n, h1, h3⟩
theorem four_parts {L : List Value} {a b c d : Value} (h : L.length = 4) (h0 : (L.drop 0).take 1 = [a]) (h1 : (L.drop 1).take 1 = [b]) (h2 : (L.drop 2).take 1 = [c]) (h3 : (L.drop 3).take 1 = [d]) : L = [a, b, c, d] := by
  match L, h with
  | [a', b', c', d'], _ => simp at h0 h1 h2 h3; simp [h0, h1, h2, h3]
end Go.Proofs.Ytkfggilildiflaa

namespace Go.Proofs.Ytkfggilildiflaa
open Go.ChangeShapes Go.WideShapes Go.ChangeAt Go.RowKit
open Go.ChangeShapes Go.WideShapes Go.ChangeAt Go.RowKit
theorem four_partsP {L : List Value} {a b c d : Value} (h : L.length = 4) (h0 : (L.drop 0).take 1 = [a]) (h1 : (L.drop 1).take 1 = [b]) (h2 : (L.drop 2).take 1 = [c]) (h3 : (L.drop 3).take 1 = [d]) : L = [a, b, c, d] := by
  match L, h with
  | [a', b', c', d'], _ => simp at h0 h1 h2 h3; simp [h0, h1, h2, h3]
set_option maxRecDepth 100000
theorem cells_placed : Try.prog.cellsOf 38 = 4 := by kernel_rfl
theorem open_placed {H : Type} {enc : TypeId × Value → H} {w W : World} {r : Reach} {b0 base : Nat} {sp : Nat → Bool} {held : Bool} {v : Value} {d : DataW H} {p : List MemPlace}
    (hv : Value.okWide Try.prog W r b0 38 v) (ht : DataW.Trod enc Try.prog w base sp held 38 v d p) :
    ∃ kv tv : Value, ∃ key l : List UInt8, ∃ n m : Int, BytesAt w kv key ∧ BytesAt w tv l ∧ v = .agg #[kv, .int .i64 n, .int .i64 m, tv] := by
  have hu := Try.underlying38
  obtain ⟨cs, rfl, hsz⟩ := okWide_struct hu hv
  rw [cells_placed] at hsz
  obtain ⟨fuel, hf⟩ := ht
  obtain ⟨xs, n, rfl, hx, hl, hxl, hi⟩ := DataW.trod_struct hu hf
  have hxl5 : xs.length = 4 := hxl
  have g (i : Nat) (h : i < 4) : xs[i]? = some xs[i] := List.getElem?_eq_getElem (by omega)
  have h0 := (hi 0 _ rfl).trans (g 0 (by omega))
  have h1 := (hi 1 _ rfl).trans (g 1 (by omega))
  have h2 := (hi 2 _ rfl).trans (g 2 (by omega))
  have h3 := (hi 3 _ rfl).trans (g 3 (by omega))
  obtain ⟨kv, key, e0, B0, _⟩ := trod_bytes8 Try.underlying22 Try.underlying5 (by kernel_rfl) h0
  obtain ⟨m, e1, _⟩ := trod_int1 Try.underlying3 h1
  obtain ⟨q, e2, _⟩ := trod_int1 Try.underlying3 h2
  obtain ⟨tv, l, e3, B3, _⟩ := trod_bytes8 Try.underlying22 Try.underlying5 (by kernel_rfl) h3
  refine ⟨kv, tv, key, l, m, q, B0, B3, ?_⟩
  have hL := four_partsP (L := cs.toList) (by simpa using hsz) e0 e1 e2 e3
  rw [← Array.toArray_toList (xs := cs), hL]
end Go.Proofs.Ytkfggilildiflaa

namespace Go.Proofs.Ytkfggilildiflaa
open Go.ChangeShapes Go.WideShapes Go.ChangeAt Go.RowKit

theorem Try.own : ownKnob Try.prog.godebug = none := by kernel_rfl
theorem Try.laidOut : laidOutB Try.prog = true := by kernel_rfl

set_option maxRecDepth 100000 in
theorem tweakStands_lifted (os : Os) (started : os.Started) (H : Type) (enc : TypeId × Value → H) :
    ReturnsInHanded {} Try.checked os 4 .any (Rows.tweakStandsSpec.pre6 enc Try.prog Try.f4 Rows.tweakStandsRow.domain false) (Rows.tweakStandsSpec.post enc Try.prog Try.f4 false true false false) := by
  refine law_lift (C := Try.checked) Try.own started (by kernel_rfl) Try.func4
    (ChangeSpec.witness6 (enc := enc) (C := Try.checked) false ⟨#[], #[.agg #[.slice none 0 0, .int .i64 0, .int .i64 0, .slice none 0 0]], []⟩ 8 (by kernel_rfl) (by kernel_rfl) (by kernel_rfl) (by kernel_rfl))
    rfl (by kernel_rfl) Try.underlying4 (fun ds h => by match ds, h with | [a], _ => exact ⟨rfl, rfl, rfl⟩) Try.laidOut (by kernel_rfl) ?_
  intro W base args ds p hval0 hA0 hlt hsz0
  have hval : ∀ (j : Nat) t v, Try.f4.params[j]? = some t → args[j]? = some v → Value.okWide Try.prog W .any base t v := hval0
  have hA : DataW.TrodAll enc Try.prog W 0 (fun _ => true) true Try.f4.params.toList args.toList ds p := hA0
  have hsz : (DataW.weightsEach Try.prog Try.f4.params.toList ds).all (· ≤ reachBytes) = true := hsz0
  rw [Try.params4] at hA hval hsz
  obtain ⟨v0, d0, rfl, rfl, h0⟩ := trodAll_one hA

  obtain ⟨kv, tv, key, l, n, m, hB, hT, rfl⟩ := open_placed (hval 0 _ v0 rfl rfl) h0
  exact tweakStands_any key l n m kv tv W hB hT

theorem tweakStands_holds : Rows.TweakStandsSaid :=
  OpenClaim.holds_of_wide 4 Try.f4 rfl rfl rfl rfl rfl rfl rfl ⟨rfl, rfl, rfl, rfl, rfl⟩ rfl rfl rfl rfl rfl (by kernel_rfl) Try.func4 (by kernel_rfl)
    (of_decide_eq_true (by kernel_rfl)) (by unfold Func.isWrapper; rw [if_neg (by decide +kernel)]; exact ⟨rfl, rfl⟩)
    (fun os started H enc _ => tweakStands_lifted os started H enc)

end Go.Proofs.Ytkfggilildiflaa
