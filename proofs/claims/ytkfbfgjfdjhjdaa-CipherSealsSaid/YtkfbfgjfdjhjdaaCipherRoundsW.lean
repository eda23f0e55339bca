/-
  The law CipherRounds, walked. No condition.
-/
import Derived.Test.YtkfbfgjfdjhjdaaRounds8
import Derived.Test.YtkfbfgjfdjhjdaaRefRounds8
namespace Go.Proofs.Ytkfbfgjfdjhjdaa
open Go.ChangeShapes Go.WideShapes Go.ChangeAt Go.RowKit
theorem bytesAt_copy {w : World} {l : List UInt8} {g cap : Nat} {cur : Array Value} (hg : blk w g = some (.cells cur 5 (0, 0))) (hc : l.length + 2 ≤ cap) (ht : cur.toList.take (l.length + 2) = (l ++ [165, 90]).map bv) : BytesAt w (.slice (some ⟨g, 0, none⟩) l.length cap) l := by
  refine ⟨_, cap, rfl, by omega, (fun h => by cases h), fun _ => ⟨g, 0, cur, _, _, rfl, hg, fun i x hi => ?_⟩⟩
  have h1 := congrArg (·[i]?) ht
  have hil : i < l.length := (List.getElem?_eq_some_iff.1 hi).1
  simp only [List.getElem?_take, List.getElem?_map] at h1
  rw [if_pos (by omega), List.getElem?_append_left hil, hi] at h1
  rw [Nat.zero_add]; simpa using h1
theorem RowsAt.len {w : World} {s : Nat} {v : Value} {ks : List (List UInt8)} (h : RowsAt w s v ks) : ∃ p c, v = .slice p ks.length c := by
  obtain ⟨_, p, c, h, _⟩ := h; exact ⟨p, c, h⟩
/-- Rounds at a key of 16 or of 32 bytes. -/
theorem rounds_good (key : List UInt8) (h : key.length = 16 ∨ key.length = 32) (v : Value) (w : World) (hv : BytesAt w v key) : Calls Try.prog 40 #[v] w fun e w' => ∃ p c, e = .returned (.tuple #[.slice p (rkeys key).length c, .nilIface]) ∧ RowsAt w' 16 (.slice p (rkeys key).length c) (rkeys key) ∧ Below w.heap.size w w' := by
  rcases h with h | h
  · refine (rounds4_any key h v w hv).mono ?_
    intro e w' h
    unfold RoundsOf at h
    obtain ⟨v, rfl, h1, h2⟩ := h
    obtain ⟨p, c, rfl⟩ := h1.len
    exact ⟨p, c, rfl, h1, h2⟩
  · refine (rounds8_any key h v w hv).mono ?_
    intro e w' h
    unfold RoundsOf at h
    obtain ⟨v, rfl, h1, h2⟩ := h
    obtain ⟨p, c, rfl⟩ := h1.len
    exact ⟨p, c, rfl, h1, h2⟩
theorem refRounds_good (key : List UInt8) (h : key.length = 16 ∨ key.length = 32) (v : Value) (w : World) (hv : BytesAt w v key) : Calls Try.prog 41 #[v] w fun e w' => ∃ p c, e = .returned (.tuple #[.slice p (rkeys key).length c, .bool true]) ∧ RowsAt w' 16 (.slice p (rkeys key).length c) (rkeys key) ∧ Below w.heap.size w w' := by
  rcases h with h | h
  · refine (refRounds4_any key h v w hv).mono ?_
    intro e w' h
    unfold RefRoundsOf at h
    obtain ⟨v, rfl, h1, h2⟩ := h
    obtain ⟨p, c, rfl⟩ := h1.len
    exact ⟨p, c, rfl, h1, h2⟩
  · refine (refRounds8_any key h v w hv).mono ?_
    intro e w' h
    unfold RefRoundsOf at h
    obtain ⟨v, rfl, h1, h2⟩ := h
    obtain ⟨p, c, rfl⟩ := h1.len
    exact ⟨p, c, rfl, h1, h2⟩
theorem bytesAt_nil (w : World) : BytesAt w (.slice none 0 0) [] := ⟨none, 0, rfl, Nat.le_refl _, fun _ => rfl, fun h => absurd rfl h⟩
attribute [local irreducible] xorL sboxL subB
set_option maxRecDepth 100000 in
set_option maxHeartbeats 4000000 in
theorem cipherRounds_any (key : List UInt8) (v : Value) (w : World) (hv : BytesAt w v key) (hm : key.length ≤ maxLen) :
    Calls Try.prog 15 #[v] w fun e w' => e = .returned (.bool true) ∧ Below w.heap.size w w' := by
  obtain ⟨n, hnn⟩ : ∃ n, n = key.length := ⟨_, rfl⟩
  obtain ⟨p, c, hvs⟩ : ∃ p c, v = .slice p n c := by
    obtain ⟨p, c, h, _⟩ := hv; exact ⟨p, c, by rw [hnn]; exact h⟩
  unfold maxLen at hm
  rw [← hnn] at hm
  by_cases hbig : n ≤ 65536
  · have gbig : (n : Int) ≤ 65536 := by omega
    have gbig2 : ¬ (65536 : Int) < (n : Int) := by omega
    have CO := hid (fun w' (hb : Below w.heap.size w w') => copy_any key v w' (hv.below hb) (by omega))
    have KE := hid (fun g cap cur w' (hb : Below w.heap.size w w') h1 h2 h3 h4 h6 => kept_any key g cap cur v w' h1 h2 h3 h4 (hv.below hb) (by omega) h6)
    have HV := hid hv; have HN := hid hnn
    by_cases hg : key.length = 16 ∨ key.length = 32
    · have RG := hid (rounds_good key hg)
      have RR := hid (refRounds_good key hg)
      have h16 := hid (rkeys_16 hg)
      have HML := hid (show (rkeys key).length ≤ 15 by rw [rkeys_len]; omega)
      obtain ⟨m, hmm⟩ : ∃ m, m = (rkeys key).length := ⟨_, rfl⟩
      have HM := hid hmm
      rw [← hmm] at RG RR HML
      subst hvs
      rw [← hnn] at KE
      clear hv hnn hg hmm
      go_enter Try.func15, Try.ntmps15
      go_wp2_with fail
      with_reducible refine (CO.out _ (Below.refl _ _)).mono ?_
      rintro e w1 ⟨g, cap, cur, rfl, hg0, hc1, hc2, hb1, hs1, ht1, hB1⟩
      have hS := show St w w1 [(g, cur, 5)] from ⟨hB1, by simp [hg0, hb1], by simp⟩
      have hcopy := bytesAt_copy hb1 hc1 ht1
      rw [← HN.out] at hcopy hc1 ht1 ⊢
      have HC := hid (And.intro hc1 (And.intro hc2 (And.intro hs1 ht1)))
      have HCO := hid hcopy
      clear hg0 hc1 hc2 hb1 hs1 ht1 hB1 hcopy
      go_wp2_with fail
      with_reducible refine (RG.out _ _ HCO.out).mono ?_
      rintro e w2 ⟨p2, c2, rfl, hR, hb⟩
      have hS2 := hS.call hb
      clear hS HCO hb
      go_wp2_with fail
      with_reducible refine (RR.out _ _ (HV.out.below hS2.below)).mono ?_
      rintro e w3 ⟨p3, c3, rfl, hR2, hb⟩
      have hS3 := hS2.call hb
      have hR3 := hR.below hb
      clear hS2 hR hb
      go_wp2_with fail
      with_reducible refine (KE.out g cap cur _ hS3.below (hS3.blk 0 rfl) HC.out.2.2.1 HC.out.1 HC.out.2.2.2 HC.out.2.1).mono ?_
      rintro e w4 ⟨rfl, hb⟩
      have hB4 := hS3.below.trans (hb.mono hS3.below.size)
      have hR4 := hR2.below hb
      have hR5 := hR3.below hb
      clear hS3 hR2 hR3 hb
      have HB4 := hid hB4; have HR4 := hid hR4; have HR5 := hid hR5
      clear hB4 hR4 hR5
      go_wp2_with fail
      go_loopw [10, 51] (fun u10 u51 wr => ∃ k : Nat, k ≤ m ∧ u51 = .int .i64 k ∧ St w wr [] ∧ RowsAt wr 16 (.slice p2 m c2) (rkeys key) ∧ RowsAt wr 16 (.slice p3 m c3) (rkeys key))
        (fun _ i _ => m - (intOf i).toNat)
      case atStart => exact ⟨0, by omega, rfl, ⟨HB4.out, by simp, by simp⟩, HR5.out, HR4.out⟩
      case round =>
        clear HB4 HR4 HR5 HC
        obtain ⟨k, hk, rfl, hS, hK, hK2⟩ := hrel
        by_cases hlt : k < m
        · have hkn : k < (rkeys key).length := by rw [← HM.out]; exact hlt
          obtain ⟨hkey, b1, o1, cs1, t1, fr1, hp1, hb1, hf1, hc1⟩ := hK.row (List.getElem?_eq_getElem hkn)
          obtain ⟨_, b2, o2, cs2, t2, fr2, hp2, hb2, hf2, hc2⟩ := hK2.row (List.getElem?_eq_getElem hkn)
          have HK := hid hK; have HK2 := hid hK2
          generalize (rkeys key)[k] = kq at *
          have s7 : csz (bvs kq) = 16 := by rw [csz_bvs, hkey]
          have HP := hid (And.intro hp1 hp2)
          clear hK hK2 hkey hkn
          subst hp1 hp2
          have hlt2 : (k : Int) < (m : Int) := by omega
          have gm : (m : Int) ≤ 15 := by have := HML.out; omega
          have hk15 : (k : Int) < 15 := by omega
          go_wp2_with fail
          refine region_cls (by kernel_rfl) (by kernel_rfl) ?_
          repeat (first | (refine BigFrame.wpQuiet_skip rfl ?_; simp only [Act.put, List.setIfInBounds_toArray, List.set_cons_zero, List.set_cons_succ]) | (refine BigFrame.wpQuiet_want rfl (fun K hK => ?_); apply Exists.intro; refine ⟨fun w' hw' => ?_, hK _ ?_⟩; (focus (have zS := hS.cls hw'; obtain ⟨zb0, zc0, zl0⟩ := hw'.keepF hb1; obtain ⟨zb1, zc1, zl1⟩ := hw'.keepF hb2; clear zS; go_simp; (try (go_bits; go_simp)); first | done | rfl | (fail))); clear hK K; simp only [Act.put, List.setIfInBounds_toArray, List.set_cons_zero, List.set_cons_succ]))
          refine wpQuiet_nil ?_
          intro w4 hc
          have hS2 := hS.cls hc
          have HK3 := hid (HK.out.below hc)
          have HK4 := hid (HK2.out.below hc)
          clear hS hc HK HK2 hb1 hb2
          go_wp2
          go_roundw
          case rel => have := HML.out; exact ⟨k + 1, by omega, by go_num, hS2, HK3.out, HK4.out⟩
          case measure => have := HML.out; simp [intOf]; omega
        · obtain rfl : k = m := by omega
          have hB := hS.below
          clear hK hK2 hlt hk hS
          go_wp2
          go_ret
          exact ⟨rfl, hB⟩
    · have RG := hid (roundsBad_any key (fun h => hg (.inl h)) (fun h => hg (.inr h)))
      have RR := hid (refRoundsBad_any key (fun h => hg (.inl h)) (fun h => hg (.inr h)))
      have RN := hid (roundsBad_any [] (by decide) (by decide) (.slice none 0 0))
      have HKM := hid (show key.length ≤ maxLen by rw [← hnn]; unfold maxLen; omega)
      have IE := hid (is_err 3 3 rfl)
      subst hvs
      rw [← hnn] at KE
      clear hv hnn hg
      go_enter Try.func15, Try.ntmps15
      go_wp2_with fail
      with_reducible refine (CO.out _ (Below.refl _ _)).mono ?_
      rintro e w1 ⟨g, cap, cur, rfl, hg0, hc1, hc2, hb1, hs1, ht1, hB1⟩
      have hS := show St w w1 [(g, cur, 5)] from ⟨hB1, by simp [hg0, hb1], by simp⟩
      have hcopy := bytesAt_copy hb1 hc1 ht1
      rw [← HN.out] at hcopy hc1 ht1 ⊢
      have HC := hid (And.intro hc1 (And.intro hc2 (And.intro hs1 ht1)))
      have HCO := hid hcopy
      clear hg0 hc1 hc2 hb1 hs1 ht1 hB1 hcopy
      go_wp2_with fail
      with_reducible refine (RG.out _ _ HCO.out HKM.out).mono ?_
      rintro e w2 ⟨rfl, rfl⟩
      go_wp2_with fail
      with_reducible refine (RR.out _ _ (HV.out.below hS.below) HKM.out).mono ?_
      rintro e w2 ⟨rfl, rfl⟩
      go_wp2_with fail
      with_reducible refine (KE.out g cap cur _ hS.below (hS.blk 0 rfl) HC.out.2.2.1 HC.out.1 HC.out.2.2.2 HC.out.2.1).mono ?_
      rintro e w4 ⟨rfl, hb⟩
      have hB4 := hS.below.trans (hb.mono hS.below.size)
      have HB4 := hid hB4
      clear hS hb HC HCO hB4
      go_wp2_with fail
      with_reducible refine (RN.out _ (bytesAt_nil _) (by decide)).mono ?_
      rintro e w2 ⟨rfl, rfl⟩
      go_wp2_with fail
      with_reducible refine (IE.out _).mono ?_
      rintro e w2 ⟨rfl, rfl⟩
      go_wp2_with fail
      with_reducible refine (IE.out _).mono ?_
      rintro e w2 ⟨rfl, rfl⟩
      go_wp2
      go_ret
      exact ⟨rfl, HB4.out⟩
  · subst hvs
    have g60 : ¬ (n : Int) ≤ 65536 := by omega
    clear hv hnn
    go_enter Try.func15, Try.ntmps15
    go_wp2
    go_ret
    exact ⟨rfl, (by repeat (first | exact Below.refl _ _ | assumption | refine Below.alloc ?_ (by first | omega | (simp; done) | (simp; omega)) _ | refine Below.drew ?_ | refine Below.setCell ?_ (by first | omega | (simp; done) | (simp; omega)) _ | refine below_setRow' ?_ (by first | omega | (simp; done) | (simp; omega)) _ | refine below_drewN' ?_ _))⟩
end Go.Proofs.Ytkfbfgjfdjhjdaa
