/-
  Laws that the claims of this seat use, of several texts in one: KeptX, SizedB, Alive6, LargeW. No condition of their own.
-/
import Derived.SizedLaws
import Derived.Test.YtknkkcbihaojhaaJB3

namespace Go.Proofs.Ytknkkcbihaojhaa
open Go.ChangeShapes Go.WideShapes Go.ChangeAt Go.RowKit
set_option maxRecDepth 100000 in
set_option maxHeartbeats 1000000 in
theorem kept_xa (l : List UInt8) (g cap : Nat) (cur : Array Value) (v : Value) (w : World) (hg : blk w g = some (.cells cur 5 (0, 0))) (_hs : cur.size = cap) (hc : l.length + 2 ≤ cap) (ht : cur.toList.take (l.length + 2) = (l ++ [165, 90]).map bv) (hv : BytesAt w v l) (hn : l.length ≤ 140737488351232) (_hcm : cap ≤ maxLen) :
    Calls Try.prog 16 #[.slice (some ⟨g, 0, none⟩) l.length cap, v] w fun e w' => e = .returned (.bool true) ∧ Below w.heap.size w w' := by
  have hmine : BytesAt w (.slice (some ⟨g, 0, none⟩) l.length cap) l := by
    refine ⟨_, cap, rfl, by omega, (fun h => by cases h), fun _ => ⟨g, 0, cur, _, _, rfl, hg, fun i x hi => ?_⟩⟩
    have h1 := congrArg (·[i]?) ht
    have hil : i < l.length := (List.getElem?_eq_some_iff.1 hi).1
    simp only [List.getElem?_take, List.getElem?_map] at h1
    rw [if_pos (by omega), List.getElem?_append_left hil, hi] at h1
    rw [Nat.zero_add]; simpa using h1
  have t1 := hmine.text (P := Try.prog) Try.underlying22 Try.underlying5 Try.underlying9
  have t2 := hv.text (P := Try.prog) Try.underlying22 Try.underlying5 Try.underlying9
  have m1 : cur[l.length]? = some (.int .u8 165) := by
    have h1 := congrArg (·[l.length]?) ht
    simp only [List.getElem?_take, List.getElem?_map] at h1
    rw [if_pos (by omega), List.getElem?_append_right (Nat.le_refl _), Nat.sub_self] at h1
    show _ = some (bv 165)
    simpa using h1
  have m2 : cur[l.length + 1]? = some (.int .u8 90) := by
    have h1 := congrArg (·[l.length + 1]?) ht
    simp only [List.getElem?_take, List.getElem?_map] at h1
    rw [if_pos (by omega), List.getElem?_append_right (by omega), show l.length + 1 - l.length = 1 by omega] at h1
    show _ = some (bv 90)
    simpa using h1
  have c1 : w.cell? ⟨g, l.length, none⟩ = some (.int .u8 165) := by rw [cell_of_row w g _ cur _ _ hg]; exact m1
  have c2 : w.cell? ⟨g, l.length + 1, none⟩ = some (.int .u8 90) := by rw [cell_of_row w g _ cur _ _ hg]; exact m2
  obtain ⟨n, hnn⟩ : ∃ n, n = l.length := ⟨_, rfl⟩
  obtain ⟨p, c, hvs⟩ : ∃ p c, v = .slice p n c := by
    obtain ⟨p, c, h, _⟩ := hv; exact ⟨p, c, by rw [hnn]; exact h⟩
  subst hvs
  rw [← hnn] at c1 c2 t1 hc hn ⊢
  clear hmine hv ht m1 m2 hnn hg _hs
  have f1 : (n : Int) + 2 ≤ (cap : Int) := by omega
  have f2 : ¬ (cap : Int) < (n : Int) + 2 := by omega
  have f3 : (n : Int) < (n : Int) + 2 := by omega
  have f4 : (n : Int) + 1 < (n : Int) + 2 := by omega
  have f5 : ((n : Int) + 2).toNat = n + 2 := by omega
  have f6 : ((n : Int) + 1).toNat = n + 1 := by omega
  have hB := Below.refl w.heap.size w
  unfold maxLen at _hcm
  go_enter Try.func16, Try.ntmps16
  go_wp2
  go_ret
  exact ⟨rfl, hB⟩
theorem kept_x (l : List UInt8) (cap : Nat) (cur : Array Value) (hK : Kp l cap cur) (g : Nat) (v : Value) (w : World) (hg : blk w g = some (.cells cur 5 (0, 0))) (hv : BytesAt w v l) (hn : l.length ≤ 140737488351232) :
    Calls Try.prog 16 #[.slice (some ⟨g, 0, none⟩) l.length cap, v] w fun e w' => e = .returned (.bool true) ∧ Below w.heap.size w w' :=
  kept_xa l g cap cur v w hg hK.2.2.1 hK.1 hK.2.2.2 hv hn hK.2.1
theorem kp_xx (l : List UInt8) (h : l.length ≤ 140737488351232) : Kp l (l.length + 2) (bvs (l ++ [165, 90])) := by
  refine ⟨Nat.le_refl _, by unfold maxLen; omega, ?_, ?_⟩
  · unfold bvs; simp
  · unfold bvs
    show ((l ++ [165, 90]).map bv).take (l.length + 2) = (l ++ [165, 90]).map bv
    exact List.take_of_length_le (by rw [List.length_map, List.length_append]; exact Nat.le_refl _)
end Go.Proofs.Ytknkkcbihaojhaa

namespace Go.Proofs.Ytknkkcbihaojhaa
open Go.ChangeShapes Go.WideShapes Go.ChangeAt Go.RowKit
theorem sized_len {P : Program} {H : Type} {enc : TypeId × Value → H} {w : World} {base : Nat} {sp : Nat → Bool} {held : Bool} {t e : Nat} {v : Value} {d : DataW H} {p : List MemPlace} {ts : List TypeId} {ds : List (DataW H)} {j : Nat}
    (hsz : (DataW.weightsEach P ts ds).all (· ≤ reachBytes) = true) (htj : ts[j]? = some t) (hdj : ds[j]? = some d) (ht : P.underlying t = some (.slice e)) (hc : P.cellsOf e = 1) (hb : P.bytesOf e = 1) (hr : DataW.Trod enc P w base sp held t v d p)
    (hv : ∃ a len cap, v = .slice a len cap) {l : List UInt8} (hl : BytesAt w v l) : l.length ≤ 140737488351232 := by
  obtain ⟨a0, len0, cap0, rfl⟩ := hv
  obtain ⟨p', c', hv', _⟩ := hl
  simp only [Value.slice.injEq] at hv'
  obtain ⟨_, hlen, _⟩ := hv'
  rw [← hlen]
  obtain ⟨fuel, hf⟩ := hr
  rcases Go.Deep.open_slice1 ht hc hf with ⟨hcs, _⟩ | ⟨a, len, cap, m, n2, V, D, Pl, hcs, _, hlc, hcm, hm, hx, _⟩
  · simp only [Value.cells, List.cons.injEq, Value.slice.injEq, and_true] at hcs
    omega
  · simp only [Value.cells, List.cons.injEq, Value.slice.injEq, and_true] at hcs
    simp only [Prod.mk.injEq] at hx
    rw [hx.1] at hdj
    have h := Go.sized_slice hsz htj hdj ht
    rw [hb, List.length_map, List.length_range] at h
    have h2 : reachBytes = 140737488351232 := rfl
    omega
end Go.Proofs.Ytknkkcbihaojhaa

namespace Go.Proofs.Ytknkkcbihaojhaa
open Go.ChangeShapes Go.WideShapes Go.ChangeAt Go.RowKit
attribute [local irreducible] xorL sboxL subB sealV openV
theorem hide_g (key l : List UInt8) (h : key.length = 32 ∨ key.length = 64) (h1 : 16 ≤ l.length) (h2 : l.length ≤ 65536) (n : Int) (v tv : Value) (w : World) (hv : BytesAt w v key) (ht : BytesAt w tv l) :
    Calls Try.prog 20 #[v, .int .i64 n, tv] w fun e w' => ∃ ga gb, e = .returned (.tuple #[.slice (some ⟨w.heap.size + ga.n, 0, none⟩) l.length l.length, .nilIface]) ∧ w' = grow ((grow w ga).alloc (.cells (bvs (hideV key (u64N n) l)) 5)) gb := by
  refine (hide_good key l h h1 h2 n v tv w hv ht).mono ?_
  rintro e w' ⟨g, rfl, hg, hb, hB⟩
  obtain ⟨gg, rfl⟩ := grow_of hB
  obtain ⟨ga, gb, he, rfl⟩ := grow_split hg hb
  exact ⟨ga, gb, rfl, he⟩
theorem show_g (key l : List UInt8) (h : key.length = 32 ∨ key.length = 64) (h1 : 16 ≤ l.length) (h2 : l.length ≤ 65536) (n : Int) (v tv : Value) (w : World) (hv : BytesAt w v key) (ht : BytesAt w tv l) :
    Calls Try.prog 28 #[v, .int .i64 n, tv] w fun e w' => ∃ ga gb, e = .returned (.tuple #[.slice (some ⟨w.heap.size + ga.n, 0, none⟩) l.length l.length, .nilIface]) ∧ w' = grow ((grow w ga).alloc (.cells (bvs (showV key (u64N n) l)) 5)) gb := by
  refine (show_good key l h h1 h2 n v tv w hv ht).mono ?_
  rintro e w' ⟨g, rfl, hg, hb, hB⟩
  obtain ⟨gg, rfl⟩ := grow_of hB
  obtain ⟨ga, gb, he, rfl⟩ := grow_split hg hb
  exact ⟨ga, gb, rfl, he⟩
set_option maxRecDepth 100000 in
set_option maxHeartbeats 1000000 in
theorem same_any (l m : List UInt8) (v u : Value) (w : World) (hv : BytesAt w v l) (hu : BytesAt w u m) :
    Calls Try.prog 14 #[v, u] w fun e w' => e = .returned (.bool (l == m)) ∧ w = w' := by
  have t1 := hv.text (P := Try.prog) Try.underlying22 Try.underlying5 Try.underlying9
  have t2 := hu.text (P := Try.prog) Try.underlying22 Try.underlying5 Try.underlying9
  clear hv hu
  go_enter Try.func14, Try.ntmps14
  go_wp2
  go_ret
  exact ⟨rfl, rfl⟩
set_option maxRecDepth 100000 in
set_option maxHeartbeats 1000000 in
theorem alive6_any (w : World) : Calls Try.prog 18 #[] w fun e w' => e = .returned (.bool true) ∧ Below w.heap.size w w' := by
  have H1 := hid (fun v tv w (hv : BytesAt w v (zs 32)) (ht : BytesAt w tv (zs 32)) => hide_g (zs 32) (zs 32) (.inl (zs_len 32)) (by rw [zs_len]; omega) (by rw [zs_len]; omega) 0 v tv w hv ht)
  rw [u64N_zero, zs_len] at H1
  have hO : (hideV (zs 32) 0 (zs 32)).length = 32 := by rw [hideV_len (.inl (zs_len 32)) _ (by rw [zs_len]; omega), zs_len]
  have a0 := bvs_get (l := hideV (zs 32) 0 (zs 32)) (k := 0) (by omega)
  have a1 := bvs_get (l := hideV (zs 32) 0 (zs 32)) (k := 31) (by omega)
  rw [alive_is.1] at a0
  rw [alive_is.2] at a1
  generalize hideV (zs 32) 0 (zs 32) = O at *
  go_enter Try.func18, Try.ntmps18
  go_wp2_with fail
  go_region_with ((with_reducible refine (H1.out _ _ _ (bytesAt_whole (by go_simp; first | done | rfl | exact ⟨rfl, rfl⟩) (zs_len 32)) (bytesAt_whole (by go_simp; first | done | rfl | exact ⟨rfl, rfl⟩) (zs_len 32))).mono ?_); rintro e wz ⟨ga, gb, rfl, rfl⟩)
  all_goals (go_wp2; go_ret; exact ⟨rfl, (by repeat (first | (with_reducible exact Below.refl _ _) | (with_reducible assumption) | (with_reducible exact grow_below _ _) | (with_reducible exact St.below (by assumption)) | (with_reducible refine below_grow ?_ _) | (with_reducible refine Below.alloc ?_ (by first | omega | (simp; done) | (simp [go_sem]; done) | (simp [go_sem]; omega)) _) | (with_reducible exact (St.put1 (by assumption) _).below) | (with_reducible exact (St.put2 (by assumption) _ _).below) | (with_reducible exact (St.put3 (by assumption) _ _ _).below) | (with_reducible exact (St.put4 (by assumption) _ _ _ _).below) | (with_reducible refine below_put ?_ (by first | omega | (simp [go_sem]; omega)) _ _) | (with_reducible refine Below.drew ?_) | (with_reducible refine Below.setCell ?_ (by first | omega | (simp [go_sem]; omega)) _) | (with_reducible refine below_setRow' ?_ (by first | omega | (simp [go_sem]; omega)) _) | (with_reducible refine below_drewN' ?_ _)))⟩)
end Go.Proofs.Ytknkkcbihaojhaa

namespace Go.Proofs.Ytknkkcbihaojhaa
open Go.ChangeShapes Go.WideShapes Go.ChangeAt Go.RowKit
attribute [local irreducible] wpList wpListIn
theorem large_any {B : Bool} (p : Option Addr) (n c : Nat) (hB : decide (600 < n ∧ n ≤ 65536) = B) (hm : n ≤ 9223372036854775807) (w0 : World) : Calls Try.prog 19 #[.slice p n c] w0 fun e w' => e = .returned (.bool B) ∧ Below w0.heap.size w0 w' := by
  have hS := St.start w0
  subst hB
  by_cases h : 600 < n
  · by_cases h2 : n ≤ 65536
    · rw [decide_eq_true ⟨h, h2⟩]
      go_enter Try.func19, Try.ntmps19
      repeat' (first | ((with_reducible refine cons_list ?_); first | ((first | refine g_skip stp_list ?_ | refine g_move stp_list ?_ | refine g_assign stp_list ?_ | refine g_load1 stp_list own_st hS ?_ | refine g_loadR stp_list own_st hS ?_ | refine g_indexAddr stp_list ?_ | refine g_indexAddrA stp_list ?_ | refine g_len stp_list ?_ | refine g_cap stp_list ?_ | refine g_extract stp_list ?_ | refine g_add stp_list ?_ | refine g_sub stp_list ?_ | refine g_mul stp_list ?_ | refine g_quo stp_list ?_ | refine g_rem stp_list ?_ | refine g_cmp_t stp_list ?_ | refine g_cmp_f stp_list ?_ | refine g_cmp stp_list (fun hc => ?_) (fun hc => ?_) | refine g_neqNil stp_list ?_ | refine g_neqNil0 stp_list ?_ | refine g_eqlNil stp_list ?_ | refine g_eqlNil0 stp_list ?_ | refine g_fieldAddr stp_list ?_ | refine g_field1 stp_list ?_ | refine g_fieldR stp_list ?_ | refine g_eqlSlNil stp_list ?_ | refine g_neqSlNil stp_list ?_ | refine g_makeInterface stp_list ?_ | refine g_makeFunc stp_list ?_ | refine g_conv stp_list ?_ | refine g_pick stp_list ?_ | refine g_not stp_list ?_ | refine g_slice stp_list ?_ | refine g_sliceA stp_list ?_ | refine g_sliceNil stp_list ?_) <;> refine put_in ?_) | ((first | refine g_alloc stp_list own_st hS ?_ | refine g_box stp_list own_st hS ?_ | refine g_build0 stp_list own_st hS ?_ | refine g_build stp_list own_st hS ?_ | refine g_make stp_list own_st hS ?_); clear hS; intro b w hS; refine put_in ?_) | ((first | refine g_store1 stp_list own_st hS ?_ | refine g_storeR stp_list own_st hS ?_); clear hS; intro w hS; refine put_in ?_)) | ((fail_if_success (with_reducible refine cons_list ?_)); first | go_step | go_step3 | rw [Exit.noGoto_normal] | rw [Exit.noGoto_ret] | rw [Exit.noGoto_exit]))
      go_ret
      exact ⟨rfl, hS.below⟩
    · rw [decide_eq_false (fun h3 => h2 h3.2)]
      go_enter Try.func19, Try.ntmps19
      repeat' (first | ((with_reducible refine cons_list ?_); first | ((first | refine g_skip stp_list ?_ | refine g_move stp_list ?_ | refine g_assign stp_list ?_ | refine g_load1 stp_list own_st hS ?_ | refine g_loadR stp_list own_st hS ?_ | refine g_indexAddr stp_list ?_ | refine g_indexAddrA stp_list ?_ | refine g_len stp_list ?_ | refine g_cap stp_list ?_ | refine g_extract stp_list ?_ | refine g_add stp_list ?_ | refine g_sub stp_list ?_ | refine g_mul stp_list ?_ | refine g_quo stp_list ?_ | refine g_rem stp_list ?_ | refine g_cmp_t stp_list ?_ | refine g_cmp_f stp_list ?_ | refine g_cmp stp_list (fun hc => ?_) (fun hc => ?_) | refine g_neqNil stp_list ?_ | refine g_neqNil0 stp_list ?_ | refine g_eqlNil stp_list ?_ | refine g_eqlNil0 stp_list ?_ | refine g_fieldAddr stp_list ?_ | refine g_field1 stp_list ?_ | refine g_fieldR stp_list ?_ | refine g_eqlSlNil stp_list ?_ | refine g_neqSlNil stp_list ?_ | refine g_makeInterface stp_list ?_ | refine g_makeFunc stp_list ?_ | refine g_conv stp_list ?_ | refine g_pick stp_list ?_ | refine g_not stp_list ?_ | refine g_slice stp_list ?_ | refine g_sliceA stp_list ?_ | refine g_sliceNil stp_list ?_) <;> refine put_in ?_) | ((first | refine g_alloc stp_list own_st hS ?_ | refine g_box stp_list own_st hS ?_ | refine g_build0 stp_list own_st hS ?_ | refine g_build stp_list own_st hS ?_ | refine g_make stp_list own_st hS ?_); clear hS; intro b w hS; refine put_in ?_) | ((first | refine g_store1 stp_list own_st hS ?_ | refine g_storeR stp_list own_st hS ?_); clear hS; intro w hS; refine put_in ?_)) | ((fail_if_success (with_reducible refine cons_list ?_)); first | go_step | go_step3 | rw [Exit.noGoto_normal] | rw [Exit.noGoto_ret] | rw [Exit.noGoto_exit]))
      go_ret
      exact ⟨rfl, hS.below⟩
  · rw [decide_eq_false (fun h3 => h h3.1)]
    go_enter Try.func19, Try.ntmps19
    repeat' (first | ((with_reducible refine cons_list ?_); first | ((first | refine g_skip stp_list ?_ | refine g_move stp_list ?_ | refine g_assign stp_list ?_ | refine g_load1 stp_list own_st hS ?_ | refine g_loadR stp_list own_st hS ?_ | refine g_indexAddr stp_list ?_ | refine g_indexAddrA stp_list ?_ | refine g_len stp_list ?_ | refine g_cap stp_list ?_ | refine g_extract stp_list ?_ | refine g_add stp_list ?_ | refine g_sub stp_list ?_ | refine g_mul stp_list ?_ | refine g_quo stp_list ?_ | refine g_rem stp_list ?_ | refine g_cmp_t stp_list ?_ | refine g_cmp_f stp_list ?_ | refine g_cmp stp_list (fun hc => ?_) (fun hc => ?_) | refine g_neqNil stp_list ?_ | refine g_neqNil0 stp_list ?_ | refine g_eqlNil stp_list ?_ | refine g_eqlNil0 stp_list ?_ | refine g_fieldAddr stp_list ?_ | refine g_field1 stp_list ?_ | refine g_fieldR stp_list ?_ | refine g_eqlSlNil stp_list ?_ | refine g_neqSlNil stp_list ?_ | refine g_makeInterface stp_list ?_ | refine g_makeFunc stp_list ?_ | refine g_conv stp_list ?_ | refine g_pick stp_list ?_ | refine g_not stp_list ?_ | refine g_slice stp_list ?_ | refine g_sliceA stp_list ?_ | refine g_sliceNil stp_list ?_) <;> refine put_in ?_) | ((first | refine g_alloc stp_list own_st hS ?_ | refine g_box stp_list own_st hS ?_ | refine g_build0 stp_list own_st hS ?_ | refine g_build stp_list own_st hS ?_ | refine g_make stp_list own_st hS ?_); clear hS; intro b w hS; refine put_in ?_) | ((first | refine g_store1 stp_list own_st hS ?_ | refine g_storeR stp_list own_st hS ?_); clear hS; intro w hS; refine put_in ?_)) | ((fail_if_success (with_reducible refine cons_list ?_)); first | go_step | go_step3 | rw [Exit.noGoto_normal] | rw [Exit.noGoto_ret] | rw [Exit.noGoto_exit]))
    go_ret
    exact ⟨rfl, hS.below⟩
end Go.Proofs.Ytknkkcbihaojhaa
