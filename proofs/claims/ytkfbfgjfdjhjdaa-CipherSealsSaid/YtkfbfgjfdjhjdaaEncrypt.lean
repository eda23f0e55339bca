/-
  The program's Encrypt at whatever round keys. No condition.
-/
import Derived.Test.YtkfbfgjfdjhjdaaColumnsU
import Derived.Test.YtkfbfgjfdjhjdaaXor
import Derived.Test.YtkfbfgjfdjhjdaaBack
namespace Go.Proofs.Ytkfbfgjfdjhjdaa
open Go.ChangeShapes Go.WideShapes Go.ChangeAt Go.RowKit
def mixL (l : List UInt8) : List UInt8 := byPart l [2, 3, 1, 1] 16
def mixAll (l : List UInt8) : List UInt8 := colsN (fun l => byPart l [2, 3, 1, 1] 16) l 4
def shSub (l : List UInt8) : List UInt8 := shPart (l.map subB) 16
/-- What a round makes of the state, ahead of its key. -/
def midN (n k : Nat) (x : List UInt8) : List UInt8 := if 0 < k then (if k + 1 < n then mixAll (shSub x) else shSub x) else x
/-- So many rounds are done. -/
def encN (ks : List (List UInt8)) (s : List UInt8) : Nat → List UInt8
  | 0 => s
  | k + 1 => xorL (midN ks.length k (encN ks s k)) (ks.getD k [])
theorem mixAll_len {l : List UInt8} (h : l.length = 16) : (mixAll l).length = 16 := colsN_len (fun l => byPart_len _ _ _) h 4 (Nat.le_refl _)
theorem shSub_len (l : List UInt8) : (shSub l).length = 16 := shPart_len _ _
theorem encN_zero (ks : List (List UInt8)) (s : List UInt8) : encN ks s 0 = s := rfl
theorem encN_succ (ks : List (List UInt8)) (s : List UInt8) (k : Nat) : encN ks s (k + 1) = xorL (midN ks.length k (encN ks s k)) (ks.getD k []) := rfl
theorem encN_len {ks : List (List UInt8)} (hk : ∀ k ∈ ks, k.length = 16) {s : List UInt8} (hs : s.length = 16) : ∀ k, k ≤ ks.length → (encN ks s k).length = 16
  | 0, _ => hs
  | k + 1, h => by
    have h1 := encN_len hk hs k (by omega)
    rw [encN_succ]
    have hkk : (ks.getD k []).length = 16 := by
      have : k < ks.length := by omega
      simp only [List.getD_eq_getElem?_getD, List.getElem?_eq_getElem this, Option.getD_some]
      exact hk _ (List.getElem_mem _)
    have : (midN ks.length k (encN ks s k)).length = 16 := by
      unfold midN
      split
      · split
        · exact mixAll_len (shSub_len _)
        · exact shSub_len _
      · exact h1
    exact xorL_len _ _ 16 this hkk

theorem midN_zero (n : Nat) (x : List UInt8) : midN n 0 x = x := by unfold midN; rw [if_neg (by omega)]
theorem midN_mid (n k : Nat) (h0 : 0 < k) (h1 : k + 1 < n) (x : List UInt8) : midN n k x = mixAll (shSub x) := by unfold midN; rw [if_pos h0, if_pos h1]
theorem midN_last (n k : Nat) (h0 : 0 < k) (h1 : ¬ k + 1 < n) (x : List UInt8) : midN n k x = shSub x := by unfold midN; rw [if_pos h0, if_neg h1]
/-- The value is a slice of these round keys. -/
def KeysAt (w : World) (v : Value) (ks : List (List UInt8)) : Prop :=
  (∀ k ∈ ks, k.length = 16) ∧ ∃ p c, v = .slice p ks.length c ∧ ∀ i k, ks[i]? = some k → ∃ b o cs t e, p = some ⟨b, o, none⟩ ∧ blk w b = some (.cells cs t e) ∧ o + i * 16 + 16 ≤ csz cs ∧ cut cs (o + i * 16) 16 = bvs k
attribute [irreducible] encN mixAll shSub midN
attribute [local irreducible] xorL sboxL subB

theorem shSub_is (l : List UInt8) : shPart (l.map subB) 16 = shSub l := by unfold shSub; rfl
theorem columnsMix_is (l : List UInt8) (hl : l.length = 16) (w : World) :
    Calls Try.prog 60 #[.agg (bvs l), .func (.func 23) #[] #[]] w fun e w' => e = .returned (.agg (bvs (mixAll l))) ∧ Below w.heap.size w w' := by
  unfold mixAll; exact columnsMix_any l hl w
theorem shiftSub_any (l : List UInt8) (hl : l.length = 16) (w : World) : Calls Try.prog 20 #[.agg (bvs (l.map subB))] w fun e w' => e = .returned (.agg (bvs (shSub l))) ∧ Below w.heap.size w w' := by
  have := shift_any (l.map subB) (by simpa using hl) w; rw [shSub_is] at this; exact this

set_option maxRecDepth 100000 in
set_option maxHeartbeats 4000000 in
theorem encrypt_any (ks : List (List UInt8)) (s : List UInt8) (hs : s.length = 16) (v : Value) (w : World) (hv : KeysAt w v ks) (hn9 : ks.length ≤ 1000000000) :
    Calls Try.prog 37 #[v, .agg (bvs s)] w fun e w' => e = .returned (.agg (bvs (encN ks s ks.length))) ∧ Below w.heap.size w w' := by
  obtain ⟨hk16, p, c, rfl, hkeys⟩ := hv
  have HL := hid (encN_len hk16 hs)
  have HK := hid hk16; have HKE := hid hkeys
  have s0 : csz (bvs s) = 16 := by rw [csz_bvs, hs]
  clear hs hk16 hkeys
  obtain ⟨n, hn⟩ : ∃ n, n = ks.length := ⟨_, rfl⟩
  rw [← hn] at hn9 ⊢
  have HN := hid hn; clear hn
  have z := zs16
  go_enter Try.func37, Try.ntmps37
  go_wp2_with fail
  go_loopw [5, 6, 9] (fun u5 u6 u9 wr => ∃ k : Nat, k ≤ n ∧ u9 = .int .i64 k ∧ St w wr [(w.heap.size + 1, bvs (zs 16), 25), (w.heap.size, bvs (encN ks s k), 25)])
    (fun _ _ i _ => n - (intOf i).toNat)
  case atStart => exact ⟨0, by omega, rfl, by rw [encN_zero]; exact (St.alloc' (St.alloc' (St.start w) (by first | rfl | simp)) (by first | rfl | simp))⟩
  case round =>
    obtain ⟨k, hk, rfl, hS⟩ := hrel
    have hlx := HL.out k (by rw [← HN.out]; exact hk)
    have s1 : csz (bvs (encN ks s k)) = 16 := by rw [csz_bvs, hlx]
    by_cases hlt : k < n
    · have hkn : k < ks.length := by rw [← HN.out]; exact hlt
      obtain ⟨b, o, cs, t, e, rfl, hb, hfit, hcut⟩ := HKE.out k ks[k] (List.getElem?_eq_getElem hkn)
      have hkey := HK.out ks[k] (List.getElem_mem _)
      have hnx := hid (encN_succ ks s k)
      rw [show ks.getD k [] = ks[k] by simp [List.getD_eq_getElem?_getD, hkn], ← HN.out] at hnx
      generalize ks[k] = key at *
      have hb2 := (hS.below.block b (blk_lt hb)).trans hb
      change blk wr b = _ at hb2
      generalize encN ks s k = x at *
      have s2 : csz (bvs key) = 16 := by rw [csz_bvs, hkey]
      have hsm := csz_bvs (x.map subB)
      have s3 : csz (bvs (x.map subB)) = 16 := by rw [csz_bvs, List.length_map, hlx]
      have s4 : csz (bvs (shSub x)) = 16 := by rw [csz_bvs, shSub_len]
      have s5 : csz (bvs (mixAll (shSub x))) = 16 := by rw [csz_bvs, mixAll_len (shSub_len x)]
      have HX := hid hlx; have HKY := hid hkey
      clear hb hlx hsm
      by_cases h0 : 0 < k
      · have g0 : (0 : Int) < (k : Int) := by omega
        have s6 : csz (bvs (xorL (shSub x) key)) = 16 := by rw [csz_bvs, xorL_len _ _ 16 (shSub_len x) hkey]
        have s7 : csz (bvs (xorL (mixAll (shSub x)) key)) = 16 := by rw [csz_bvs, xorL_len _ _ 16 (mixAll_len (shSub_len x)) hkey]
        clear hkey
        obtain ⟨kb1, kc1, kf1, kl1, kn1⟩ := hS.at 1 rfl
        by_cases h1 : k + 1 < n
        · rw [midN_mid n k h0 h1] at hnx
          have g1 : (k : Int) < (n : Int) - 1 := by omega
          go_wp2_with fail
          with_reducible refine (subAll_any x HX.out _).mono ?_
          rintro e w1 ⟨rfl, hb⟩
          have hS2 := (hS.alloc (bvs key) 25).call hb
          clear hS hb kb1 kc1 kf1 kl1 kn1 hb2
          go_wp2_with fail
          with_reducible refine (shiftSub_any x HX.out _).mono ?_
          rintro e w2 ⟨rfl, hb⟩
          have hS3 := hS2.call hb
          clear hS2 hb
          obtain ⟨kb0, kc0, kf0, kl0, kn0⟩ := hS3.at 0 rfl; obtain ⟨kb2, kc2, kf2, kl2, kn2⟩ := hS3.at 2 rfl
          have hT := hS3.setRow 2 rfl (bvs (shSub x))
          have e0 := hT.blk 0 rfl
          have e2 := hT.blk 2 rfl
          clear hT
          go_wp2_with fail
          with_reducible refine (columnsMix_is (shSub x) (shSub_len x) _).mono ?_
          rintro e w3 ⟨rfl, hb⟩
          have hS4 := (hS3.setRow 2 rfl (bvs (shSub x))).call hb
          clear hS3 hb kb0 kc0 kf0 kl0 kn0 kb2 kc2 kf2 kl2 kn2 e0 e2
          simp only [List.set_cons_zero, List.set_cons_succ] at hS4
          obtain ⟨kb0, kc0, kf0, kl0, kn0⟩ := hS4.at 0 rfl; obtain ⟨kb2, kc2, kf2, kl2, kn2⟩ := hS4.at 2 rfl
          have hT := hS4.setRow 2 rfl (bvs (mixAll (shSub x)))
          have e0 := hT.blk 0 rfl
          have e2 := hT.blk 2 rfl
          clear hT
          go_wp2_with fail
          with_reducible refine (xor_any (mixAll (shSub x)) key (mixAll_len (shSub_len x)) HKY.out _).mono ?_
          rintro e w4 ⟨rfl, hb⟩
          have hS5 := (hS4.setRow 2 rfl (bvs (mixAll (shSub x)))).call hb
          clear hS4 hb kb0 kc0 kf0 kl0 kn0 kb2 kc2 kf2 kl2 kn2 e0 e2
          simp only [List.set_cons_zero, List.set_cons_succ] at hS5
          obtain ⟨kb2, kc2, kf2, kl2, kn2⟩ := hS5.at 2 rfl
          go_wp2
          go_roundw
          case rel =>
            have h6 := (hS5.setRow 2 rfl (bvs (xorL (mixAll (shSub x)) key))).tail
            simp only [List.set_cons_zero, List.set_cons_succ] at h6
            exact ⟨k + 1, by omega, by go_num, by rw [hnx.out]; exact h6⟩
          case measure => simp [intOf]; omega
        · rw [midN_last n k h0 h1] at hnx
          have g1 : (n : Int) - 1 ≤ (k : Int) := by omega
          go_wp2_with fail
          with_reducible refine (subAll_any x HX.out _).mono ?_
          rintro e w1 ⟨rfl, hb⟩
          have hS2 := (hS.alloc (bvs key) 25).call hb
          clear hS hb kb1 kc1 kf1 kl1 kn1 hb2
          go_wp2_with fail
          with_reducible refine (shiftSub_any x HX.out _).mono ?_
          rintro e w2 ⟨rfl, hb⟩
          have hS3 := hS2.call hb
          clear hS2 hb
          obtain ⟨kb0, kc0, kf0, kl0, kn0⟩ := hS3.at 0 rfl; obtain ⟨kb2, kc2, kf2, kl2, kn2⟩ := hS3.at 2 rfl
          have hT := hS3.setRow 2 rfl (bvs (shSub x))
          have e0 := hT.blk 0 rfl
          have e2 := hT.blk 2 rfl
          clear hT
          go_wp2_with fail
          with_reducible refine (xor_any (shSub x) key (shSub_len x) HKY.out _).mono ?_
          rintro e w4 ⟨rfl, hb⟩
          have hS5 := (hS3.setRow 2 rfl (bvs (shSub x))).call hb
          clear hS3 hb kb0 kc0 kf0 kl0 kn0 kb2 kc2 kf2 kl2 kn2 e0 e2
          simp only [List.set_cons_zero, List.set_cons_succ] at hS5
          obtain ⟨kb2, kc2, kf2, kl2, kn2⟩ := hS5.at 2 rfl
          go_wp2
          go_roundw
          case rel =>
            have h6 := (hS5.setRow 2 rfl (bvs (xorL (shSub x) key))).tail
            simp only [List.set_cons_zero, List.set_cons_succ] at h6
            exact ⟨k + 1, by omega, by go_num, by rw [hnx.out]; exact h6⟩
          case measure => simp [intOf]; omega
      · obtain rfl : k = 0 := by omega
        have s6 : csz (bvs (xorL x key)) = 16 := by rw [csz_bvs, xorL_len _ _ 16 HX.out hkey]
        rw [midN_zero] at hnx
        simp only [Nat.zero_mul, Nat.add_zero] at hcut hfit
        clear hkey
        obtain ⟨kb1, kc1, kf1, kl1, kn1⟩ := hS.at 1 rfl
        go_wp2_with fail
        with_reducible refine (xor_any x key HX.out HKY.out _).mono ?_
        rintro e w1 ⟨rfl, hb⟩
        have hS5 := (hS.alloc (bvs key) 25).call hb
        clear hS hb kb1 kc1 kf1 kl1 kn1 hb2
        obtain ⟨kb2, kc2, kf2, kl2, kn2⟩ := hS5.at 2 rfl
        go_wp2
        go_roundw
        case rel =>
          have h6 := (hS5.setRow 2 rfl (bvs (xorL x key))).tail
          simp only [List.set_cons_zero, List.set_cons_succ] at h6
          exact ⟨1, by omega, by go_num, by rw [hnx.out]; exact h6⟩
        case measure => simp [intOf]; omega
    · obtain rfl : k = n := by omega
      clear hlt hk
      obtain ⟨kb0, kc0, kf0, kl0, kn0⟩ := hS.at 0 rfl; obtain ⟨kb1, kc1, kf1, kl1, kn1⟩ := hS.at 1 rfl
      go_wp2
      have h3 := hS.setRow 0 rfl (bvs (encN ks s k))
      exact post_cell (n := 16) Try.results37 (by kernel_rfl) (.inl rfl) _ _ _ _ rfl rfl (h3.blk 0 rfl) s1 ⟨rfl, h3.below⟩
end Go.Proofs.Ytkfbfgjfdjhjdaa
