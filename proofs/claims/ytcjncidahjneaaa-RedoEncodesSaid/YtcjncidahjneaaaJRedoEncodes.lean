/-
  The law RedoEncodes: for every key, number and rows it answers true. No condition.
-/
import Derived.Test.YtcjncidahjneaaaRows
import Derived.Test.YtcjncidahjneaaaJK0

namespace Go.Proofs.Ytcjncidahjneaaa
open Go.ChangeShapes Go.WideShapes Go.ChangeAt Go.RowKit
attribute [local irreducible] wpList wpListIn Oper.quietAt wpM
attribute [local irreducible] encL cellN rowP
theorem enc_seven (O : List UInt8) (h : O.take 8 = beB 1 8) : O.getD 7 0 = 1 := by
  have e : O.getD 7 0 = (O.take 8).getD 7 0 := (getD_takeR (by omega)).symm
  rw [e, h]
  decide +kernel
theorem sound_nil : soundP [] := ⟨by simp, by simp, by simp⟩
theorem encL_len (key : List UInt8) (n : Int) {l : List Pt} (ho : okP l) (h : l.length ≤ 56) : (encL key n l).length = 128 * (l.length + 2) := by
  unfold encL
  rw [List.length_append, List.length_append, firstC_len n h, tagC_len, bodyL_len ho]; omega
theorem encL_head (key : List UInt8) (n : Int) (l : List Pt) : (encL key n l).take 8 = beB (u64W n) 8 := by
  unfold encL firstC firstT
  rw [List.append_assoc, List.append_assoc, List.take_left' (beB_len _ _)]
theorem PutsAt.nil (w : World) : PutsAt w (.slice none 0 0) [] := ⟨fun _ h => absurd h List.not_mem_nil, none, 0, rfl, Nat.le_refl _, fun _ => rfl, fun h => absurd rfl h⟩
/-- The fixed entry. -/
theorem one_enc : ∃ O : List UInt8, O.length = 256 ∧ O.getD 7 0 = 1 ∧ ∀ w0 : World, Calls Try.prog 16 #[.slice none 0 0, .int .i64 1, .slice none 0 0] w0 fun e w' => ∃ g c sp, e = .returned (.tuple #[.slice (some ⟨g, 0, none⟩) 2 c, .nilIface]) ∧ 2 ≤ c ∧ c ≤ maxLen ∧ sp.length = (c - 2) * 128 ∧ w0.heap.size ≤ g ∧ blk w' g = some (.cells (O.map bv ++ sp).toArray 30 (0, 0)) ∧ Below w0.heap.size w0 w' := by
  have h1 := fun w0 => encode_good [] (by simp) 1 (by omega) [] sound_nil (.slice none 0 0) (.slice none 0 0) w0 ⟨none, 0, rfl, Nat.le_refl _, fun _ => rfl, fun h => absurd rfl h⟩ (PutsAt.nil w0)
  have h2 := encL_len [] 1 (l := []) (fun _ h => absurd h List.not_mem_nil) (by simp)
  have h3 := enc_seven _ (encL_head [] 1 [])
  exact ⟨_, h2, h3, h1⟩
set_option maxRecDepth 100000 in
set_option maxHeartbeats 4000000 in
theorem redoEncodes_any (key : List UInt8) (n : Int) (l : List Rw) (kv v : Value) (w0 : World) (hkv : BytesAt w0 kv key) (hv : RwAt w0 v l) :
    Calls Try.prog 4 #[kv, .int .i64 n, v] w0 fun e w' => e = .returned (.bool true) ∧ Below w0.heap.size w0 w' := by
  have hS := St.start w0
  by_cases hbig : 1000 < key.length ∨ 70 < l.length
  · have hlg := fun w h1 h2 => large_yes l key hbig kv v w h1 h2
    go_enter Try.func4, Try.ntmps4
    repeat' (first | ((with_reducible refine Ac ?_); first | ((first | refine Ai Aa ?_ | refine Al Aa ?_ | refine Af Aa ?_ | refine Av Aa Ab hS ?_ | refine Ag Aa ?_ | refine Ae Aa ?_ | refine Be Aa ?_ | refine Bl Aa ?_ | refine Ak Aa ?_ | refine Aj Aa ?_ | refine Aw Aa (fun hc => ?_) (fun hc => ?_) | refine Cg Aa ?_ | refine Bz Aa ?_ | refine Ck Aa ?_ | refine Cd Aa ?_ | refine Bx Aa ?_ | refine Bu Aa ?_ | refine Bk Aa ?_ | refine Bw Aa ?_ | refine Ar Aa ?_) <;> refine Ad ?_) | ((first | refine Ao Aa Ab hS ?_ | refine As Aa Ab hS ?_); clear hS; intro b w hS; refine Ad ?_) | (refine Ce Aa Ab hS (hlg _ (hkv.below hS.below) (hv.below hS.below)) ?_; clear hS; intro w hS; refine Ad ?_)) | ((fail_if_success (with_reducible refine Ac ?_)); first | go_step | go_step3 | rw [Exit.noGoto_normal] | rw [Exit.noGoto_ret] | rw [Exit.noGoto_exit]))
    go_ret
    exact ⟨rfl, hS.below⟩
  have hk : key.length ≤ 1000 := by omega
  have hl : l.length ≤ 70 := by omega
  have hlg := fun w h1 h2 => large_no l hl key hk kv v w h1 h2
  have hok := rowP_ok hv
  have hrl := rowP_len l
  go_enter Try.func4, Try.ntmps4
  obtain ⟨O, lO, h7, hone⟩ := one_enc
  have hO7 : ∀ sp : List Value, ((O.map bv ++ sp).toArray)[7]? = some (.int .u8 1) := fun sp => by
    rw [List.getElem?_toArray, List.getElem?_append_left (by rw [List.length_map]; omega), List.getElem?_map, List.getElem?_eq_getElem (by omega)]
    have : O[7]'(by omega) = 1 := by rw [← h7, List.getD_eq_getElem?_getD, List.getElem?_eq_getElem (by omega)]; rfl
    rw [this]; rfl
  have hsO : ∀ sp : List Value, 256 ≤ csz ((O.map bv ++ sp).toArray) := fun sp => by rw [Bm, List.length_append, List.length_map]; omega
  have hpu := fun w h => puts_any l (by omega) v w h
  have hcy := fun w h => copy_x key kv w h (by omega)
  obtain ⟨L, hL⟩ : ∃ L, rowP l = L := ⟨_, rfl⟩
  obtain ⟨q, hq⟩ : ∃ q, l.length = q := ⟨_, rfl⟩
  rw [hL] at hok hrl hpu
  rw [hq] at hrl hpu
  have hlp := putsC_len hok
  rw [hrl] at hlp
  repeat' (first | ((with_reducible refine Ac ?_); first | ((first | refine Ai Aa ?_ | refine Al Aa ?_ | refine Af Aa ?_ | refine Av Aa Ab hS ?_ | refine Ag Aa ?_ | refine Ae Aa ?_ | refine Be Aa ?_ | refine Bl Aa ?_ | refine Ak Aa ?_ | refine Aj Aa ?_ | refine Aw Aa (fun hc => ?_) (fun hc => ?_) | refine Cg Aa ?_ | refine Bz Aa ?_ | refine Ck Aa ?_ | refine Cd Aa ?_ | refine Bx Aa ?_ | refine Bu Aa ?_ | refine Bk Aa ?_ | refine Bw Aa ?_ | refine Ar Aa ?_) <;> refine Ad ?_) | ((first | refine Ao Aa Ab hS ?_ | refine As Aa Ab hS ?_); clear hS; intro b w hS; refine Ad ?_) | (refine Ce Aa Ab hS (hlg _ (hkv.below hS.below) (hv.below hS.below)) ?_; clear hS; intro w hS; refine Ad ?_)) | ((fail_if_success (with_reducible refine Ac ?_)); first | go_step | go_step3 | rw [Exit.noGoto_normal] | rw [Exit.noGoto_ret] | rw [Exit.noGoto_exit]))
  refine s_call Aa (by rfl) (by rfl) (by rfl) (by rfl) (by rfl) (by infer_instance) (hone _) ?_
  rintro e w1 ⟨g, c1, sp, rfl, k1, k2, k3, k4, k5, hB⟩
  refine ⟨_, rfl, ?_⟩
  refine Ad ?_
  replace hS := Ab.new hS hB k4 k5
  have h70 := hO7 sp
  have hs0 := hsO sp
  repeat' (first | ((with_reducible refine Ac ?_); first | ((first | refine Ai Aa ?_ | refine Al Aa ?_ | refine Af Aa ?_ | refine Av Aa Ab hS ?_ (hv := by first | rfl | exact Bi | (rw [Array.getElem?_toList]; exact h70)) | refine Ag Aa ?_ | refine Ae Aa ?_ | refine Be Aa ?_ | refine Bl Aa ?_ | refine Ak Aa ?_ | refine Aj Aa ?_ | refine Aw Aa (fun hc => ?_) (fun hc => ?_) | refine Cg Aa ?_ | refine Bz Aa ?_ | refine Ck Aa ?_ | refine Cd Aa ?_ | refine Bx Aa ?_ | refine Bu Aa ?_ | refine Bk Aa ?_ | refine Bw Aa ?_ | refine Ar Aa ?_) <;> refine Ad ?_) | ((first | refine Ao Aa Ab hS ?_ | refine As Aa Ab hS ?_); clear hS; intro b w hS; refine Ad ?_)) | ((fail_if_success (with_reducible refine Ac ?_)); first | go_step | go_step3 | rw [Exit.noGoto_normal] | rw [Exit.noGoto_ret] | rw [Exit.noGoto_exit]))
  replace hS := hS.take 0
  clear k1 k2 k3 k4 k5 h70 hs0 hB
  refine s_call Aa (by rfl) (by rfl) (by rfl) (by rfl) (by rfl) (by infer_instance) (hpu _ (hv.below hS.below)) ?_
  rintro e w1 ⟨g, c1, sp, rfl, k1, k2, k3, k4, k5, hB⟩
  refine ⟨_, rfl, ?_⟩
  refine Ad ?_
  replace hS := Ab.new hS hB k4 k5
  clear k4 k5 hB
  repeat' (first | ((with_reducible refine Ac ?_); first | ((first | refine Ai Aa ?_ | refine Al Aa ?_ | refine Af Aa ?_ | refine Av Aa Ab hS ?_ | refine Ag Aa ?_ | refine Ae Aa ?_ | refine Be Aa ?_ | refine Bl Aa ?_ | refine Ak Aa ?_ | refine Aj Aa ?_ | refine Aw Aa (fun hc => ?_) (fun hc => ?_) | refine Cg Aa ?_ | refine Bz Aa ?_ | refine Ck Aa ?_ | refine Cd Aa ?_ | refine Bx Aa ?_ | refine Bu Aa ?_ | refine Bk Aa ?_ | refine Bw Aa ?_ | refine Ar Aa ?_) <;> refine Ad ?_) | ((first | refine Ao Aa Ab hS ?_ | refine As Aa Ab hS ?_); clear hS; intro b w hS; refine Ad ?_)) | ((fail_if_success (with_reducible refine Ac ?_)); first | go_step | go_step3 | rw [Exit.noGoto_normal] | rw [Exit.noGoto_ret] | rw [Exit.noGoto_exit]))
  refine s_call Aa (by rfl) (by rfl) (by rfl) (by rfl) (by rfl) (by infer_instance) (hcy _ (hkv.below hS.below)) ?_
  rintro e w1 ⟨gk, rfl, k4, k5, hB⟩
  refine ⟨_, rfl, ?_⟩
  refine Ad ?_
  replace hS := Ab.new hS hB k4 k5
  clear k4 k5 hB
  repeat' (first | ((with_reducible refine Ac ?_); first | ((first | refine Ai Aa ?_ | refine Al Aa ?_ | refine Af Aa ?_ | refine Av Aa Ab hS ?_ | refine Ag Aa ?_ | refine Ae Aa ?_ | refine Be Aa ?_ | refine Bl Aa ?_ | refine Ak Aa ?_ | refine Aj Aa ?_ | refine Aw Aa (fun hc => ?_) (fun hc => ?_) | refine Cg Aa ?_ | refine Bz Aa ?_ | refine Ck Aa ?_ | refine Cd Aa ?_ | refine Bx Aa ?_ | refine Bu Aa ?_ | refine Bk Aa ?_ | refine Bw Aa ?_ | refine Ar Aa ?_) <;> refine Ad ?_) | ((first | refine Ao Aa Ab hS ?_ | refine As Aa Ab hS ?_); clear hS; intro b w hS; refine Ad ?_)) | ((fail_if_success (with_reducible refine Ac ?_)); first | go_step | go_step3 | rw [Exit.noGoto_normal] | rw [Exit.noGoto_ret] | rw [Exit.noGoto_exit]))
  refine s_append Aa Ab hS (by rfl) (by rfl) (by rfl) (by rfl) (by infer_instance) (by exact at_ 0 rfl) (olds := []) (spare := []) (by rfl) (by rfl) (Nat.le_refl _) (by rfl) (xs := putsC L) (src_blk (hS.blk 2 rfl) (fun j v h => by rw [Nat.zero_add]; exact (List.getElem?_append_left (List.getElem?_eq_some_iff.1 h).1).trans h)) hlp putsC_one (by unfold maxLen; omega) (nm := q) (by omega) ?_
  clear hS
  intro g3 c3 sp3 w3 q1 q2 q3 hS
  rw [List.nil_append] at hS
  refine Ad ?_
  have hPL : ∀ w, St w0 w [(g3, (putsC L ++ sp3).toArray, 70), (gk, bvs (key ++ [165, 90]), 5), (g, (putsC L ++ sp).toArray, 70)] → PutsAt w (.slice (some ⟨g3, 0, none⟩) q c3) L ∧ PutsAt w (.slice (some ⟨g, 0, none⟩) q c1) L ∧ BytesAt w (.slice (some ⟨gk, 0, none⟩) key.length (key.length + 2)) key := fun w h =>
    ⟨PutsAt.own hok hrl q1 (h.blk 0 rfl), PutsAt.own hok hrl k1 (h.blk 2 rfl), bytesAt_blk (h.blk 1 rfl) rfl (by omega) (fun j x hj => by
      unfold bvs
      rw [Nat.zero_add, List.getElem?_toArray, List.map_append, List.getElem?_append_left (by rw [List.length_map]; exact (List.getElem?_eq_some_iff.1 hj).1), List.getElem?_map, hj]; rfl)⟩
  have hsame : ∀ w, PutsAt w (.slice (some ⟨g3, 0, none⟩) q c3) L → PutsAt w (.slice (some ⟨g, 0, none⟩) q c1) L → Calls Try.prog 21 #[.slice (some ⟨g3, 0, none⟩) q c3, .slice (some ⟨g, 0, none⟩) q c1] w fun e w' => e = .returned (.bool true) ∧ Below w.heap.size w w' := fun w h1 h2 => by
    have := same_pts L L (by omega) _ _ w h1 h2
    rwa [decide_eq_true (rfl : L = L)] at this
  have hkp := fun w h1 h2 => kept_x key (key.length + 2) _ (kp_xx key (by omega)) gk kv w h1 h2 (by omega)
  by_cases hgood : 0 ≤ n ∧ soundP L
  · have hea := fun w h1 h2 => encode_good key (by omega) n hgood.1 L hgood.2 (.slice (some ⟨gk, 0, none⟩) key.length (key.length + 2)) (.slice (some ⟨g3, 0, none⟩) q c3) w h1 h2
    have heb := fun w h1 h2 => refEnc_good key (by omega) n hgood.1 L hgood.2 kv (.slice (some ⟨g, 0, none⟩) q c1) w h1 h2
    have lE := encL_len key n hok hgood.2.2.2
    rw [hrl] at hea heb lE
    obtain ⟨E, hE⟩ : ∃ E, encL key n L = E := ⟨_, rfl⟩
    rw [hE] at hea heb lE
    have h56 := hgood.2.2.2
    clear hE hgood
    repeat' (first | ((with_reducible refine Ac ?_); first | ((first | refine Ai Aa ?_ | refine Al Aa ?_ | refine Af Aa ?_ | refine Av Aa Ab hS ?_ | refine Ag Aa ?_ | refine Ae Aa ?_ | refine Be Aa ?_ | refine Bl Aa ?_ | refine Ak Aa ?_ | refine Aj Aa ?_ | refine Aw Aa (fun hc => ?_) (fun hc => ?_) | refine Cg Aa ?_ | refine Bz Aa ?_ | refine Ck Aa ?_ | refine Cd Aa ?_ | refine Bx Aa ?_ | refine Bu Aa ?_ | refine Bk Aa ?_ | refine Bw Aa ?_ | refine Ar Aa ?_) <;> refine Ad ?_) | ((first | refine Ao Aa Ab hS ?_ | refine As Aa Ab hS ?_); clear hS; intro b w hS; refine Ad ?_)) | ((fail_if_success (with_reducible refine Ac ?_)); first | go_step | go_step3 | rw [Exit.noGoto_normal] | rw [Exit.noGoto_ret] | rw [Exit.noGoto_exit]))
    refine s_call Aa (by rfl) (by rfl) (by rfl) (by rfl) (by rfl) (by infer_instance) (hea _ (hPL _ hS).2.2 (hPL _ hS).1) ?_
    rintro e w1 ⟨gx, cx, spx, rfl, k4, k5, k6, k7, k8, hB⟩
    refine ⟨_, rfl, ?_⟩
    refine Ad ?_
    have hP2 := (hPL _ hS).2.1.below hB
    replace hS := Ab.new hS hB k7 k8
    clear k7 k8 hB
    repeat' (first | ((with_reducible refine Ac ?_); first | ((first | refine Ai Aa ?_ | refine Al Aa ?_ | refine Af Aa ?_ | refine Av Aa Ab hS ?_ | refine Ag Aa ?_ | refine Ae Aa ?_ | refine Be Aa ?_ | refine Bl Aa ?_ | refine Ak Aa ?_ | refine Aj Aa ?_ | refine Aw Aa (fun hc => ?_) (fun hc => ?_) | refine Cg Aa ?_ | refine Bz Aa ?_ | refine Ck Aa ?_ | refine Cd Aa ?_ | refine Bx Aa ?_ | refine Bu Aa ?_ | refine Bk Aa ?_ | refine Bw Aa ?_ | refine Ar Aa ?_) <;> refine Ad ?_) | ((first | refine Ao Aa Ab hS ?_ | refine As Aa Ab hS ?_); clear hS; intro b w hS; refine Ad ?_)) | ((fail_if_success (with_reducible refine Ac ?_)); first | go_step | go_step3 | rw [Exit.noGoto_normal] | rw [Exit.noGoto_ret] | rw [Exit.noGoto_exit]))
    refine s_call Aa (by rfl) (by rfl) (by rfl) (by rfl) (by rfl) (by infer_instance) (heb _ (hkv.below hS.below) (hPL _ (Ab.drop hS)).2.1) ?_
    rintro e w1 ⟨gy, cy, spy, rfl, m4, m5, m6, m7, m8, hB⟩
    refine ⟨_, rfl, ?_⟩
    refine Ad ?_
    replace hS := Ab.new hS hB m7 m8
    clear m7 m8 hB
    have hce : ∀ w, CellsAt w (.slice (some ⟨gx, 0, none⟩) (q + 2) cx) E (q + 2) → CellsAt w (.slice (some ⟨gy, 0, none⟩) (q + 2) cy) E (q + 2) → Calls Try.prog 20 #[.slice (some ⟨gx, 0, none⟩) (q + 2) cx, .slice (some ⟨gy, 0, none⟩) (q + 2) cy] w fun e w' => e = .returned (.bool true) ∧ Below w.heap.size w w' := fun w h1 h2 => by
      have := cells_any E E (q + 2) (q + 2) (by omega) _ _ w h1 h2
      rwa [decide_eq_true (rfl : E = E)] at this
    repeat' (first | ((with_reducible refine Ac ?_); first | ((first | refine Ai Aa ?_ | refine Al Aa ?_ | refine Af Aa ?_ | refine Av Aa Ab hS ?_ | refine Ag Aa ?_ | refine Ae Aa ?_ | refine Be Aa ?_ | refine Bl Aa ?_ | refine Ak Aa ?_ | refine Aj Aa ?_ | refine Aw Aa (fun hc => ?_) (fun hc => ?_) | refine Cg Aa ?_ | refine Bz Aa ?_ | refine Ck Aa ?_ | refine Cd Aa ?_ | refine Bx Aa ?_ | refine Bu Aa ?_ | refine Bk Aa ?_ | refine Bw Aa ?_ | refine Ar Aa ?_) <;> refine Ad ?_) | ((first | refine Ao Aa Ab hS ?_ | refine As Aa Ab hS ?_); clear hS; intro b w hS; refine Ad ?_) | (refine Ce Aa Ab hS (hce _ (CellsAt.own lE k4 (hS.blk 1 rfl)) (CellsAt.own lE m4 (hS.blk 0 rfl))) ?_; clear hS; intro w hS; refine Ad ?_) | (refine Ce Aa Ab hS (hsame _ (hPL _ (Ab.drop (Ab.drop hS))).1 (hPL _ (Ab.drop (Ab.drop hS))).2.1) ?_; clear hS; intro w hS; refine Ad ?_) | (refine Ce Aa Ab hS (hkp _ (hS.blk 3 rfl) (hkv.below hS.below)) ?_; clear hS; intro w hS; refine Ad ?_)) | ((fail_if_success (with_reducible refine Ac ?_)); first | go_step | go_step3 | rw [Exit.noGoto_normal] | rw [Exit.noGoto_ret] | rw [Exit.noGoto_exit]))
    go_ret
    exact ⟨rfl, hS.below⟩
  · have hbad : n < 0 ∨ ¬ soundP L := by
      by_cases h0 : 0 ≤ n
      · exact .inr fun h => hgood ⟨h0, h⟩
      · exact .inl (by omega)
    have hea := fun w h1 => encode_bad n L (by omega) hbad (.slice (some ⟨gk, 0, none⟩) key.length (key.length + 2)) (.slice (some ⟨g3, 0, none⟩) q c3) w h1
    have heb := fun w h1 => refEnc_bad n L (by omega) hbad kv (.slice (some ⟨g, 0, none⟩) q c1) w h1
    have hce : ∀ w, Calls Try.prog 20 #[.slice none 0 0, .slice none 0 0] w fun e w' => e = .returned (.bool true) ∧ Below w.heap.size w w' := fun w => by
      have := cells_any [] [] 0 0 (by omega) _ _ w (CellsAt.nil w) (CellsAt.nil w)
      rwa [decide_eq_true (rfl : ([] : List UInt8) = [])] at this
    clear hgood hbad
    repeat' (first | ((with_reducible refine Ac ?_); first | ((first | refine Ai Aa ?_ | refine Al Aa ?_ | refine Af Aa ?_ | refine Av Aa Ab hS ?_ | refine Ag Aa ?_ | refine Ae Aa ?_ | refine Be Aa ?_ | refine Bl Aa ?_ | refine Ak Aa ?_ | refine Aj Aa ?_ | refine Aw Aa (fun hc => ?_) (fun hc => ?_) | refine Cg Aa ?_ | refine Bz Aa ?_ | refine Ck Aa ?_ | refine Cd Aa ?_ | refine Bx Aa ?_ | refine Bu Aa ?_ | refine Bk Aa ?_ | refine Bw Aa ?_ | refine Ar Aa ?_) <;> refine Ad ?_) | ((first | refine Ao Aa Ab hS ?_ | refine As Aa Ab hS ?_); clear hS; intro b w hS; refine Ad ?_) | (refine Ce Aa Ab hS (hea _ (hPL _ hS).1) ?_; clear hS; intro w hS; refine Ad ?_) | (refine Ce Aa Ab hS (heb _ (hPL _ hS).2.1) ?_; clear hS; intro w hS; refine Ad ?_) | (refine Ce Aa Ab hS (hce _) ?_; clear hS; intro w hS; refine Ad ?_) | (refine Ce Aa Ab hS (is_form _) ?_; clear hS; intro w hS; refine Ad ?_) | (refine Ce Aa Ab hS (hsame _ (hPL _ hS).1 (hPL _ hS).2.1) ?_; clear hS; intro w hS; refine Ad ?_) | (refine Ce Aa Ab hS (hkp _ (hS.blk 1 rfl) (hkv.below hS.below)) ?_; clear hS; intro w hS; refine Ad ?_)) | ((fail_if_success (with_reducible refine Ac ?_)); first | go_step | go_step3 | rw [Exit.noGoto_normal] | rw [Exit.noGoto_ret] | rw [Exit.noGoto_exit]))
    go_ret
    exact ⟨rfl, hS.below⟩
end Go.Proofs.Ytcjncidahjneaaa

namespace Go.Proofs.Ytcjncidahjneaaa
open Go.ChangeShapes Go.WideShapes Go.ChangeAt Go.RowKit

theorem Try.own : ownKnob Try.prog.godebug = none := by kernel_rfl
theorem Try.laidOut : laidOutB Try.prog = true := by kernel_rfl

set_option maxRecDepth 100000 in
theorem redoEncodes_lifted (os : Os) (started : os.Started) (H : Type) (enc : TypeId × Value → H) :
    ReturnsInHanded {} Try.checked os 4 .any (Rows.redoEncodesSpec.pre6 enc Try.prog Try.f4 Rows.redoEncodesRow.domain false) (Rows.redoEncodesSpec.post enc Try.prog Try.f4 false true false false) := by
  refine law_lift (C := Try.checked) Try.own started (by kernel_rfl) Try.func4
    (ChangeSpec.witness6 (enc := enc) (C := Try.checked) false ⟨#[], #[.slice none 0 0, .int .i64 0, .slice none 0 0], []⟩ 8 (by kernel_rfl) (by kernel_rfl) (by kernel_rfl) (by kernel_rfl))
    rfl (by kernel_rfl) Try.underlying4 (fun ds h => by match ds, h with | [a, b, c], _ => exact ⟨rfl, rfl, rfl⟩) Try.laidOut (by kernel_rfl) ?_
  intro W base args ds p hval0 hA0 hlt hsz0
  have hval : ∀ (j : Nat) t v, Try.f4.params[j]? = some t → args[j]? = some v → Value.okWide Try.prog W .any base t v := hval0
  have hA : DataW.TrodAll enc Try.prog W 0 (fun _ => true) true Try.f4.params.toList args.toList ds p := hA0
  have hsz : (DataW.weightsEach Try.prog Try.f4.params.toList ds).all (· ≤ reachBytes) = true := hsz0
  rw [Try.params4] at hA hval hsz
  obtain ⟨v0, v1, v2, d0, d1, d2, p0, p1, p2, rfl, rfl, rfl, h0, h1, h2⟩ := trodAll_three hA
  obtain ⟨x0, lx0, mx0⟩ := open_bytes Try.underlying22 Try.underlying5 (by kernel_rfl) (okWide_slice Try.underlying22 (hval 0 _ v0 rfl rfl)) h0
  obtain ⟨x1, rfl, rfl, rfl, wx1⟩ := open_int Try.underlying3 (hval 1 _ v1 rfl rfl) h1
  obtain ⟨x2, lx2, mx2⟩ := open_rws (okWide_slice Try.underlying42 (hval 2 _ v2 rfl rfl)) h2
  exact redoEncodes_any x0 x1 x2 v0 v2 W lx0 lx2

theorem redoEncodes_holds : Rows.RedoEncodesSaid :=
  OpenClaim.holds_of_wide 4 Try.f4 rfl rfl rfl rfl rfl rfl rfl ⟨rfl, rfl, rfl, rfl, rfl⟩ rfl rfl rfl rfl rfl (by kernel_rfl) Try.func4 (by kernel_rfl)
    (of_decide_eq_true (by kernel_rfl)) (by unfold Func.isWrapper; rw [if_neg (by decide +kernel)]; exact ⟨rfl, rfl⟩)
    (fun os started H enc _ => redoEncodes_lifted os started H enc)

end Go.Proofs.Ytcjncidahjneaaa
