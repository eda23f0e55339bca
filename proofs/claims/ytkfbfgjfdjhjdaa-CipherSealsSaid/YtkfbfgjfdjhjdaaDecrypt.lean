/-
  The program's Decrypt at whatever round keys. No condition.
-/
import Derived.Test.YtkfbfgjfdjhjdaaEncrypt
namespace Go.Proofs.Ytkfbfgjfdjhjdaa
open Go.ChangeShapes Go.WideShapes Go.ChangeAt Go.RowKit
def unmixAll (l : List UInt8) : List UInt8 := colsN (fun l => byPart l [14, 11, 13, 9] 16) l 4
def unSub (l : List UInt8) : List UInt8 := (unPart l 16).map backB
/-- What a round makes of the state, behind its key. -/
def unMid (n i : Nat) (y : List UInt8) : List UInt8 := if 0 < i then (if i + 1 < n then unSub (unmixAll y) else unSub y) else y
/-- So many rounds are done, the last one first. -/
def decN (ks : List (List UInt8)) (s : List UInt8) : Nat → List UInt8
  | 0 => s
  | j + 1 => unMid ks.length (ks.length - 1 - j) (xorL (decN ks s j) (ks.getD (ks.length - 1 - j) []))
theorem unmixAll_len {l : List UInt8} (h : l.length = 16) : (unmixAll l).length = 16 := colsN_len (fun l => byPart_len _ _ _) h 4 (Nat.le_refl _)
theorem unSub_len (l : List UInt8) : (unSub l).length = 16 := by unfold unSub; rw [List.length_map]; exact unPart_len _ _
theorem unMid_len (n i : Nat) {y : List UInt8} (h : y.length = 16) : (unMid n i y).length = 16 := by
  unfold unMid
  split
  · split
    · exact unSub_len _
    · exact unSub_len _
  · exact h
theorem key_len {ks : List (List UInt8)} (hk : ∀ k ∈ ks, k.length = 16) {i : Nat} (h : i < ks.length) : (ks.getD i []).length = 16 := by
  simp only [List.getD_eq_getElem?_getD, List.getElem?_eq_getElem h, Option.getD_some]
  exact hk _ (List.getElem_mem _)
theorem decN_zero (ks : List (List UInt8)) (s : List UInt8) : decN ks s 0 = s := rfl
theorem decN_succ (ks : List (List UInt8)) (s : List UInt8) (j : Nat) : decN ks s (j + 1) = unMid ks.length (ks.length - 1 - j) (xorL (decN ks s j) (ks.getD (ks.length - 1 - j) [])) := rfl
theorem decN_len {ks : List (List UInt8)} (hk : ∀ k ∈ ks, k.length = 16) {s : List UInt8} (hs : s.length = 16) : ∀ j, j ≤ ks.length → (decN ks s j).length = 16
  | 0, _ => hs
  | j + 1, h => by
    rw [decN_succ]
    exact unMid_len _ _ (xorL_len _ _ 16 (decN_len hk hs j (by omega)) (key_len hk (by omega)))
theorem unMid_zero (n : Nat) (x : List UInt8) : unMid n 0 x = x := by unfold unMid; rw [if_neg (by omega)]
theorem unMid_mid (n k : Nat) (h0 : 0 < k) (h1 : k + 1 < n) (x : List UInt8) : unMid n k x = unSub (unmixAll x) := by unfold unMid; rw [if_pos h0, if_pos h1]
theorem unMid_last (n k : Nat) (h0 : 0 < k) (h1 : ¬ k + 1 < n) (x : List UInt8) : unMid n k x = unSub x := by unfold unMid; rw [if_pos h0, if_neg h1]
attribute [irreducible] decN unmixAll unSub unMid
attribute [local irreducible] xorL sboxL subB backB

theorem columnsUnmix_is (l : List UInt8) (hl : l.length = 16) (w : World) :
    Calls Try.prog 60 #[.agg (bvs l), .func (.func 25) #[] #[]] w fun e w' => e = .returned (.agg (bvs (unmixAll l))) ∧ Below w.heap.size w w' := by
  unfold unmixAll; exact columnsUnmix_any l hl w
theorem unSub_is (l : List UInt8) : (unPart l 16).map backB = unSub l := by unfold unSub; rfl
theorem backAllUn_any (l : List UInt8) (w : World) : Calls Try.prog 36 #[.agg (bvs (unPart l 16))] w fun e w' => e = .returned (.agg (bvs (unSub l))) ∧ Below w.heap.size w w' := by
  have := backAll_any (unPart l 16) (unPart_len l 16) w; rw [unSub_is] at this; exact this

set_option maxRecDepth 100000 in
set_option maxHeartbeats 4000000 in
theorem decrypt_any (ks : List (List UInt8)) (s : List UInt8) (hs : s.length = 16) (v : Value) (w : World) (hv : KeysAt w v ks) (hn9 : ks.length ≤ 1000000000) :
    Calls Try.prog 44 #[v, .agg (bvs s)] w fun e w' => e = .returned (.agg (bvs (decN ks s ks.length))) ∧ Below w.heap.size w w' := by
  obtain ⟨hk16, p, c, rfl, hkeys⟩ := hv
  have HL := hid (decN_len hk16 hs)
  have HK := hid hk16; have HKE := hid hkeys
  have s0 : csz (bvs s) = 16 := by rw [csz_bvs, hs]
  clear hs hk16 hkeys
  obtain ⟨n, hn⟩ : ∃ n, n = ks.length := ⟨_, rfl⟩
  rw [← hn] at hn9 ⊢
  have HN := hid hn; clear hn
  have z := zs16
  go_enter Try.func44, Try.ntmps44
  go_wp2_with fail
  go_loopw [5] (fun u5 wr => ∃ j : Nat, j ≤ n ∧ u5 = .int .i64 ((n : Int) - 1 - (j : Int)) ∧ St w wr [(w.heap.size + 1, bvs (zs 16), 25), (w.heap.size, bvs (decN ks s j), 25)])
    (fun i _ => (intOf i + 1).toNat)
  case atStart => exact ⟨0, by omega, by simp, by rw [decN_zero]; exact (St.alloc' (St.alloc' (St.start w) (by first | rfl | simp)) (by first | rfl | simp))⟩
  case round =>
    obtain ⟨j, hj, rfl, hS⟩ := hrel
    have hlx := HL.out j (by rw [← HN.out]; exact hj)
    have s1 : csz (bvs (decN ks s j)) = 16 := by rw [csz_bvs, hlx]
    by_cases hlt : j < n
    · obtain ⟨i, hI⟩ : ∃ i : Nat, (n : Int) - 1 - (j : Int) = (i : Int) := ⟨n - 1 - j, by omega⟩
      have hnx := hid (decN_succ ks s j)
      rw [← HN.out, show n - 1 - j = i by omega] at hnx
      rw [hI]
      have hin : (i : Int) < (n : Int) := by omega
      have hin' : i < n := by omega
      have hst : (n : Int) - 1 - ((j + 1 : Nat) : Int) = (i : Int) - 1 := by omega
      have HST := hid hst
      clear hst hI
      have hkn : i < ks.length := by rw [← HN.out]; exact hin'
      obtain ⟨b, o, cs, t, e, rfl, hb, hfit, hcut⟩ := HKE.out i ks[i] (List.getElem?_eq_getElem hkn)
      have hkey := HK.out ks[i] (List.getElem_mem _)
      rw [show ks.getD i [] = ks[i] by simp [List.getD_eq_getElem?_getD, hkn]] at hnx
      generalize ks[i] = key at *
      generalize decN ks s j = x at *
      have s2 : csz (bvs key) = 16 := by rw [csz_bvs, hkey]
      have hly := xorL_len x key 16 hlx hkey
      have s3 : csz (bvs (xorL x key)) = 16 := by rw [csz_bvs, hly]
      have s4 : csz (bvs (unPart (unmixAll (xorL x key)) 16)) = 16 := by rw [csz_bvs, unPart_len]
      have s5 : csz (bvs (unmixAll (xorL x key))) = 16 := by rw [csz_bvs, unmixAll_len hly]
      have s6 : csz (bvs (unPart (xorL x key) 16)) = 16 := by rw [csz_bvs, unPart_len]
      have s7 : csz (bvs (unSub (unmixAll (xorL x key)))) = 16 := by rw [csz_bvs, unSub_len]
      have s8 : csz (bvs (unSub (xorL x key))) = 16 := by rw [csz_bvs, unSub_len]
      have cX := hid (xor_any x key hlx hkey)
      have HB := hid hb
      have HY := hid hly
      clear hlx hkey hb hly
      have g9 : (0 : Int) ≤ (i : Int) := by omega
      go_wp2_with fail
      refine region_tail_lit (by kernel_rfl) (by kernel_rfl) ?_
      dsimp only [List.dropLast, List.getLast?, List.getLast, Option.getD]
      repeat (first | (refine BigFrame.wpQuiet_skip rfl ?_; simp only [Act.put, List.setIfInBounds_toArray, List.set_cons_zero, List.set_cons_succ]) | (refine BigFrame.wpQuiet_want rfl (fun K hK => ?_); apply Exists.intro; refine ⟨fun w' hw' => ?_, hK _ ?_⟩; (focus (have zS := hS.cls hw'; obtain ⟨zb0, zc0, zf0, zl0, zn0⟩ := zS.at 1 rfl; obtain ⟨zb1, zc1, zf1, zl1, zn1⟩ := zS.far HB.out; clear zS; go_simp; (try (go_bits; go_simp)); first | done | rfl | ((go_at_call 61; exact hw'.call (cX.out _))))); clear hK K; simp only [Act.put, List.setIfInBounds_toArray, List.set_cons_zero, List.set_cons_succ]))
      refine wpQuiet_nil ?_
      intro w2 hc
      have hS2 := hS.cls hc
      clear hS hc
      obtain ⟨kb1, kc1, kf1, kl1, kn1⟩ := hS2.at 1 rfl
      have hT := hS2.setRow 1 rfl (bvs (xorL x key))
      simp only [List.set_cons_zero, List.set_cons_succ] at hT
      have e2 := hT.blk 1 rfl
      clear hT
      by_cases h0 : 0 < i
      · have g0 : (0 : Int) < (i : Int) := by omega
        by_cases h1 : i + 1 < n
        · rw [unMid_mid n i h0 h1] at hnx
          have g1 : (i : Int) < (n : Int) - 1 := by omega
          go_wp2_with fail
          with_reducible refine (columnsUnmix_is (xorL x key) HY.out _).mono ?_
          rintro e w3 ⟨rfl, hb⟩
          have hS3 := (hS2.setRow 1 rfl (bvs (xorL x key))).call hb
          simp only [List.set_cons_zero, List.set_cons_succ] at hS3
          clear hS2 hb kb1 kc1 kf1 kl1 kn1 e2
          obtain ⟨kb1, kc1, kf1, kl1, kn1⟩ := hS3.at 1 rfl
          have hT := hS3.setRow 1 rfl (bvs (unmixAll (xorL x key)))
          simp only [List.set_cons_zero, List.set_cons_succ] at hT
          have e2 := hT.blk 1 rfl
          clear hT
          go_wp2_with fail
          with_reducible refine (unshift_any (unmixAll (xorL x key)) (unmixAll_len HY.out) _).mono ?_
          rintro e w4 ⟨rfl, hb⟩
          have hS4 := (hS3.setRow 1 rfl (bvs (unmixAll (xorL x key)))).call hb
          simp only [List.set_cons_zero, List.set_cons_succ] at hS4
          clear hS3 hb kb1 kc1 kf1 kl1 kn1 e2
          go_wp2_with fail
          with_reducible refine (backAllUn_any (unmixAll (xorL x key)) _).mono ?_
          rintro e w5 ⟨rfl, hb⟩
          have hS5 := hS4.call hb
          clear hS4 hb
          obtain ⟨kb1, kc1, kf1, kl1, kn1⟩ := hS5.at 1 rfl
          go_wp2
          go_roundw
          case rel =>
            have h6 := hS5.setRow 1 rfl (bvs (unSub (unmixAll (xorL x key))))
            simp only [List.set_cons_zero, List.set_cons_succ] at h6
            exact ⟨j + 1, by omega, by rw [HST.out], by rw [hnx.out]; exact h6⟩
          case measure => simp [intOf]
        · rw [unMid_last n i h0 h1] at hnx
          have g1 : (n : Int) - 1 ≤ (i : Int) := by omega
          go_wp2_with fail
          with_reducible refine (unshift_any (xorL x key) HY.out _).mono ?_
          rintro e w4 ⟨rfl, hb⟩
          have hS4 := (hS2.setRow 1 rfl (bvs (xorL x key))).call hb
          simp only [List.set_cons_zero, List.set_cons_succ] at hS4
          clear hS2 hb kb1 kc1 kf1 kl1 kn1 e2
          go_wp2_with fail
          with_reducible refine (backAllUn_any (xorL x key) _).mono ?_
          rintro e w5 ⟨rfl, hb⟩
          have hS5 := hS4.call hb
          clear hS4 hb
          obtain ⟨kb1, kc1, kf1, kl1, kn1⟩ := hS5.at 1 rfl
          go_wp2
          go_roundw
          case rel =>
            have h6 := hS5.setRow 1 rfl (bvs (unSub (xorL x key)))
            simp only [List.set_cons_zero, List.set_cons_succ] at h6
            exact ⟨j + 1, by omega, by rw [HST.out], by rw [hnx.out]; exact h6⟩
          case measure => simp [intOf]
      · obtain rfl : i = 0 := by omega
        rw [unMid_zero] at hnx
        go_wp2
        go_roundw
        case rel =>
          have h6 := hS2.setRow 1 rfl (bvs (xorL x key))
          simp only [List.set_cons_zero, List.set_cons_succ] at h6
          exact ⟨j + 1, by omega, by rw [HST.out]; rfl, by rw [hnx.out]; exact h6⟩
        case measure => simp [intOf]
    · obtain rfl : j = n := by omega
      have e1 : (j : Int) - 1 - (j : Int) = -1 := by omega
      rw [e1]
      clear hlt hj e1
      obtain ⟨kb0, kc0, kf0, kl0, kn0⟩ := hS.at 0 rfl; obtain ⟨kb1, kc1, kf1, kl1, kn1⟩ := hS.at 1 rfl
      go_wp2
      have h3 := hS.setRow 0 rfl (bvs (decN ks s j))
      exact post_cell (n := 16) Try.results44 (by kernel_rfl) (.inl rfl) _ _ _ _ rfl rfl (h3.blk 0 rfl) s1 ⟨rfl, h3.below⟩
end Go.Proofs.Ytkfbfgjfdjhjdaa
