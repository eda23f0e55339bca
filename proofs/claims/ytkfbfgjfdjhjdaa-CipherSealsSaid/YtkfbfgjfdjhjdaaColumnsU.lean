/-
  The program's columns at Unmix. No condition.
-/
import Derived.Test.YtkfbfgjfdjhjdaaColumns
namespace Go.Proofs.Ytkfbfgjfdjhjdaa
open Go.ChangeShapes Go.WideShapes Go.ChangeAt Go.RowKit
set_option maxRecDepth 100000 in
set_option maxHeartbeats 2000000 in
theorem columnsUnmix_any (l : List UInt8) (hl : l.length = 16) (w : World) :
    Calls Try.prog 60 #[.agg (bvs l), .func (.func 25) #[] #[]] w fun e w' => e = .returned (.agg (bvs (colsN (fun l => byPart l [14, 11, 13, 9] 16) l 4))) ∧ Below w.heap.size w w' := by
  obtain ⟨M, hM⟩ : ∃ M, M = fun l => byPart l [14, 11, 13, 9] 16 := ⟨_, rfl⟩
  rw [← hM]
  have cM : ∀ (l : List UInt8), l.length = 4 → ∀ w, Calls Try.prog 25 #[.agg (bvs l)] w fun e w' => e = .returned (.agg (bvs (M l))) ∧ Below w.heap.size w w' := fun l hl w => by rw [hM]; exact unmix_any l hl w
  have lM : ∀ l, (M l).length = 4 := fun l => by rw [hM]; exact byPart_len _ _ _
  have hlen := hid (colsN_len lM hl)
  have LM := hid lM; have CM := hid cM; have H := hid hl
  have s0 : csz (bvs l) = 16 := by rw [csz_bvs, hl]
  clear lM cM hM hl
  have z := zs16
  go_enter Try.func60, Try.ntmps60
  go_wp2_with fail
  go_loopw [5, 6] (fun u5 u6 wr => ∃ k : Nat, k ≤ 4 ∧ u5 = .int .i64 (4 * (k : Int)) ∧ St w wr [(w.heap.size + 1, bvs (zs 16), 25), (w.heap.size, bvs (colsN M l k), 25)])
    (fun i _ _ => 16 - (intOf i).toNat)
  case atStart => exact ⟨0, by omega, rfl, by rw [colsN_zero]; exact (St.alloc' (St.alloc' (St.start w) (by first | rfl | simp)) (by first | rfl | simp))⟩
  case round =>
    obtain ⟨k, hk, rfl, hS⟩ := hrel
    have hc := cut_mid (colsN M l k) k (hlen.out k hk)
    have hs : csz (bvs (colsN M l k)) = 16 := by rw [csz_bvs, hlen.out k hk]
    by_cases hlt : k < 4
    · obtain ⟨i, hI⟩ : ∃ i : Int, i = 4 * (k : Int) := ⟨_, rfl⟩
      have f0 : 0 ≤ i := by omega
      have f1 : i < 16 := by omega
      have f2 : i + 4 ≤ 16 := by omega
      have f3 : i.toNat = 4 * k := by omega
      have f4 : (i + 4).toNat = 4 * k + 4 := by omega
      have f5 : ¬ 16 = 4 * k := by omega
      have f6 : i ≤ i + 4 := by omega
      rw [← hI]
      have HI := hid hI
      clear hI
      obtain ⟨kb1, kc1, kf1, kl1, kn1⟩ := hS.at 1 rfl
      go_wp2_with fail
      have hlc : (List.take 4 (List.drop (4 * k) (colsN M l k))).length = 4 := by
        have := hlen.out k hk
        simp [this]; omega
      have HS := hid (cols_set M l k _ rfl)
      generalize List.take 4 (List.drop (4 * k) (colsN M l k)) = col at *
      have f7 : i ≤ 16 := by omega
      refine (CM.out col hlc _).mono ?_
      rintro e w1 ⟨rfl, hb⟩
      have hS2 := hS.call hb
      have s1 : csz (bvs (M col)) = 4 := by rw [csz_bvs, LM.out]
      clear hS hb kb1 kc1 kf1 kl1 kn1
      go_wp2_with fail
      have hS3 := hS2.alloc (bvs (M col)) 28
      generalize hn1 : w1.heap.size = n1 at *
      generalize w1.alloc (.cells (bvs (M col)) 28) = W at *
      clear hn1 hS2
      refine region_mono_lit 3 (by kernel_rfl) (by kernel_rfl) ?_
      dsimp only [List.take, List.drop]
      repeat (first | (refine wpM_skip (fun _ => rfl) ?_; simp only [Act.put, List.setIfInBounds_toArray, List.set_cons_zero, List.set_cons_succ]) | (refine wpM_alloc rfl (fun _ => rfl) _ (by intro w; go_simp; rfl) ?_; simp only [Act.put, List.setIfInBounds_toArray, List.set_cons_zero, List.set_cons_succ]) | (refine wpM_slice' rfl (fun _ => rfl) (fun K hK => ?_); apply Exists.intro; apply Exists.intro; apply Exists.intro; apply Exists.intro; refine ⟨fun pB w' hw' hF => ?_, hK _ _ ?_⟩; (focus (have zS := hS3.cls hw'; obtain ⟨zb0, zc0, zf0, zl0, zn0⟩ := zS.at 0 rfl; obtain ⟨zb1, zc1, zf1, zl1, zn1⟩ := zS.at 1 rfl; obtain ⟨zb2, zc2, zf2, zl2, zn2⟩ := zS.at 2 rfl; clear zS; (first | (have yd := facts_of (hF.at (List.Mem.head _) (by decide +kernel)); obtain ⟨yb0, yc0, yf0, yl0⟩ := yd) | skip); (first | (have yd := facts_of (hF.at (List.Mem.tail _ (List.Mem.head _)) (by decide +kernel)); obtain ⟨yb1, yc1, yf1, yl1⟩ := yd) | skip); (first | (have yd := facts_of (hF.at (List.Mem.tail _ (List.Mem.tail _ (List.Mem.head _))) (by decide +kernel)); obtain ⟨yb2, yc2, yf2, yl2⟩ := yd) | skip); go_simp; (first | done | rfl | exact ⟨⟨rfl, rfl⟩, rfl⟩ | (refine ⟨?_, ?_⟩ <;> rfl) | (refine ⟨⟨?_, ?_⟩, ?_⟩ <;> rfl) | (refine ⟨⟨?_, ?_⟩, ⟨?_, ?_⟩⟩ <;> rfl)))); clear hK K; simp only [Act.put, List.setIfInBounds_toArray, List.set_cons_zero, List.set_cons_succ]) | (refine wpM_want (fun _ => rfl) (fun K hK => ?_); apply Exists.intro; refine ⟨fun pB w' hw' hF => ?_, hK _ _ ?_⟩; (focus (have zS := hS3.cls hw'; obtain ⟨zb0, zc0, zf0, zl0, zn0⟩ := zS.at 0 rfl; obtain ⟨zb1, zc1, zf1, zl1, zn1⟩ := zS.at 1 rfl; obtain ⟨zb2, zc2, zf2, zl2, zn2⟩ := zS.at 2 rfl; clear zS; (first | (have yd := facts_of (hF.at (List.Mem.head _) (by decide +kernel)); obtain ⟨yb0, yc0, yf0, yl0⟩ := yd) | skip); (first | (have yd := facts_of (hF.at (List.Mem.tail _ (List.Mem.head _)) (by decide +kernel)); obtain ⟨yb1, yc1, yf1, yl1⟩ := yd) | skip); (first | (have yd := facts_of (hF.at (List.Mem.tail _ (List.Mem.tail _ (List.Mem.head _))) (by decide +kernel)); obtain ⟨yb2, yc2, yf2, yl2⟩ := yd) | skip); go_simp; (try (go_bits; go_simp)); first | done | rfl | (first | fail))); clear hK K; simp only [Act.put, List.setIfInBounds_toArray, List.set_cons_zero, List.set_cons_succ]))
      refine wpM_nil ?_
      intro p w' hc hF hN
      have hS4 := hS3.cls hc
      clear hF hN hS3 hc
      dsimp only
      have hfull := hlen.out k hk
      have hM4 := LM.out col
      refine wpList_copy_own rfl (.tmp 20) (.tmp 21) 46 46 rfl 5 (by kernel_rfl) (by kernel_rfl) w.heap.size (4 * k) (16 - 4 * k) (16 - 4 * k) ⟨n1, 0, none⟩ 4 4 rfl rfl (bvs (colsN M l k)) 25 (hS4.blk 2 rfl) ((M col).map bv) (copy_len hM4 k hlt) (fun j v hj => ?_) (by rw [List.length_map, hM4, ← csz_eq, hs]; omega) copy_one ?_
      · have h1 := (hS4.at 0 rfl).2.1 j
        rw [add_zero_at, h1]
        unfold bvs
        simpa using hj
      · have h5 := hS4.setRow 2 rfl (bvs (colsN M l (k + 1)))
        rw [List.length_map, hM4, HS.out]
        generalize w'.setRow w.heap.size (bvs (colsN M l (k + 1))) = W5 at *
        have h6 : St w W5 [(w.heap.size + 1, bvs (zs 16), 25), (w.heap.size, bvs (colsN M l (k + 1)), 25)] := h5.tail
        clear h5 hS4 hfull hM4
        go_wp2
        go_roundw
        case rel => exact ⟨k + 1, by omega, by rw [HI.out]; go_num, h6⟩
        case measure => simp [intOf]; omega
    · obtain rfl : k = 4 := by omega
      clear hlt hk hc
      obtain ⟨kb0, kc0, kf0, kl0, kn0⟩ := hS.at 0 rfl; obtain ⟨kb1, kc1, kf1, kl1, kn1⟩ := hS.at 1 rfl
      go_wp2
      have h3 := hS.setRow 0 rfl (bvs (colsN M l 4))
      exact post_cell (n := 16) Try.results60 (by kernel_rfl) (.inl rfl) _ _ _ _ rfl rfl (h3.blk 0 rfl) hs ⟨rfl, h3.below⟩
end Go.Proofs.Ytkfbfgjfdjhjdaa
