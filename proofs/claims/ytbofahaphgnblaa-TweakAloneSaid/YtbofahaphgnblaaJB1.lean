/-
  Laws that the claims of this seat use, of several texts in one: RefTweak. No condition of their own.
-/
import Derived.Test.YtbofahaphgnblaaJB0

namespace Go.Proofs.Ytbofahaphgnblaa
open Go.ChangeShapes Go.WideShapes Go.ChangeAt Go.RowKit
attribute [local irreducible] xorL sboxL subB sealV openV
set_option maxRecDepth 100000 in
set_option maxHeartbeats 2000000 in
theorem refTweak_good (key : List UInt8) (h : key.length = 16 ∨ key.length = 32) (n : Int) (j : Nat) (hj : j ≤ 1000000000) (v : Value) (w : World) (hv : BytesAt w v key) :
    Calls Try.prog 18 #[v, .int .i64 n, .int .i64 j] w fun e w' => e = .returned (.tuple #[.agg (bvs (tweakV key (u64N n) j)), .bool true]) ∧ Below w.heap.size w w' := by
  have s1 : csz (bvs (zs 16)) = 16 := by rw [csz_bvs, zs_len]
  have HL := hid (fun i => show csz (bvs (tweakV key (u64N n) i)) = 16 by rw [csz_bvs, tweakV_len h])
  have HL2 := hid (fun i => tweakV_len h (u64N n) i)
  have s2 : csz (bvs (leB (u64N n) 8 ++ zs 8)) = 16 := by rw [csz_bvs, num_len]
  have E0 := hid (u64N_is n)
  have hN := u64N_lt n
  have E1 := hid (num_ovw (u64N n))
  have RR := hid (fun w' (hb : Below w.heap.size w w') => refRounds_good key h v w' (hv.below hb))
  have HS := hid (fun v' w' (hr : RowsAt w' 16 v' (rkeys key)) => refSeal_any key (leB (u64N n) 8 ++ zs 8) h (num_len _) (by omega) v' w' hr)
  rw [← tweakV_zero] at HS
  have HD := hid (fun i => (tweakV_succ key (u64N n) i).symm)
  have z := zs16; have e0 := zs_ne
  clear hv h
  generalize hN0 : u64N n = N at *
  clear hN0
  go_enter Try.func18, Try.ntmps18
  go_wp2_with fail
  (with_reducible refine (RR.out _ (by repeat (first | (with_reducible exact Below.refl _ _) | (with_reducible assumption) | (with_reducible exact grow_below _ _) | (with_reducible exact St.below (by assumption)) | (with_reducible refine below_grow ?_ _) | (with_reducible refine Below.alloc ?_ (by first | omega | (simp; done) | (simp [go_sem]; done) | (simp [go_sem]; omega)) _) | (with_reducible exact (St.put1 (by assumption) _).below) | (with_reducible exact (St.put2 (by assumption) _ _).below) | (with_reducible exact (St.put3 (by assumption) _ _ _).below) | (with_reducible exact (St.put4 (by assumption) _ _ _ _).below) | (with_reducible refine below_put ?_ (by first | omega | (simp [go_sem]; omega)) _ _) | (with_reducible refine Below.drew ?_) | (with_reducible refine Below.setCell ?_ (by first | omega | (simp [go_sem]; omega)) _) | (with_reducible refine below_setRow' ?_ (by first | omega | (simp [go_sem]; omega)) _) | (with_reducible refine below_drewN' ?_ _)))).mono ?_)
  rintro e w1 ⟨p, c, rfl, hR, hb⟩
  have hS0 := (St.alloc' (St.start w) (by first | rfl | simp)).call hb
  clear hb RR
  generalize (rkeys key).length = nk at *
  have k0 := hS0.lt 0 rfl
  have k1 := hS0.blk 0 rfl
  have HR := hid hR
  clear hR
  have hB0 := hS0.below
  have k2 : ¬ w.heap.size = w1.heap.size := by omega
  clear hS0
  go_wp2_with fail
  rw [E0.out]
  go_loopw [11, 12] (fun u11 u12 wr => ∃ i : Nat, i ≤ 8 ∧ u12 = .int .i64 i ∧ u11 = .int .u64 ((N / 256 ^ i : Nat) : Int) ∧ St w1 wr [(w1.heap.size, ovw (bvs (zs 16)) 0 (leB N i), 25)])
    (fun _ u12 _ => 8 - (intOf u12).toNat)
  case atStart => exact ⟨0, by omega, rfl, by simp, by rw [leB_zero, ovw_nil]; exact St.alloc' (St.start w1) rfl⟩
  case round =>
    obtain ⟨i, hi, rfl, rfl, hS⟩ := hrel
    have hfar := hS.far k1
    obtain ⟨x, rfl, hS, l1⟩ := hS.open1
    by_cases hlt : i < 8
    · have hl : (leB N i).length = i := leB_len N i
      obtain ⟨v0, hv0⟩ : ∃ v0, (ovw (bvs (zs 16)) 0 (leB N i))[i]? = some v0 := ⟨_, Array.getElem?_eq_getElem (by rw [ovw_size (by rw [bvs_size, zs_len]; omega), bvs_size, zs_len]; omega)⟩
      have hs := ovw_snoc (cur := bvs (zs 16)) (o := 0) (l := leB N i) (by rw [bvs_size, zs_len]; omega) (UInt8.ofNat (N / 256 ^ i))
      rw [hl, ← leB_succ, Nat.zero_add] at hs
      have hd : N / 256 ^ (i + 1) = N / 256 ^ i / 256 := by rw [Nat.pow_succ, Nat.div_div_eq_div_mul]
      have hbv : bv (UInt8.ofNat (N / 256 ^ i)) = .int .u8 (((N / 256 ^ i : Nat) : Int) % 256) := by simp [bv]
      rw [hbv] at hs
      have hbig : N / 256 ^ i < 18446744073709551616 := Nat.lt_of_le_of_lt (Nat.div_le_self _ _) hN
      have HSS := hid hs; have HDD := hid hd
      clear hl hs hd hbv hfar
      generalize N / 256 ^ i = y at *
      have q1 : (i : Int) < 16 := by omega
      go_wp2
      go_roundw
      case rel => exact ⟨i + 1, by omega, by go_num, by rw [HDD.out]; rfl, by rw [← HSS.out]; exact hS.put1 _⟩
      case measure => simp [intOf]; omega
    · obtain rfl : i = 8 := by omega
      rw [E1.out] at *
      clear hfar
      have hfar := hS.far k1
      obtain ⟨kb, _, _, kl, _⟩ := hfar
      go_wp2_with fail
      (with_reducible refine (HS.out _ _ (HR.out.below (St.put1 hS _).below)).mono ?_)
      rintro e wg ⟨rfl, hb⟩
      obtain ⟨g2, rfl⟩ := grow_of hb
      clear hb
      have HW := hid (((hS.put1 (bvs (leB N 8 ++ zs 8))).grow g2).alloc (bvs (tweakV key N 0)) 25)
      have hl0 := HL.out 0
      have kf : blk (grow (putRow x w1.heap.size (bvs (leB N 8 ++ zs 8)) 25) g2) w.heap.size = some (.cells (bvs (zs 16)) 25 (0, 0)) := by go_simp
      have HX := hid ((hS.put1 (bvs (leB N 8 ++ zs 8))).grow g2)
      have hB2 := chain hB0 hB0.size HX.out.below
      clear HS
      generalize grow (putRow x w1.heap.size (bvs (leB N 8 ++ zs 8)) 25) g2 = W2 at *
      go_wp2_with fail
      go_loopw [14] (fun u14 wr => ∃ i : Nat, i ≤ j ∧ u14 = .int .i64 i ∧ St W2 wr [(W2.heap.size, bvs (tweakV key N i), 25)])
        (fun u14 _ => j - (intOf u14).toNat)
      case atStart => exact ⟨0, by omega, rfl, St.alloc' (St.start W2) rfl⟩
      case round =>
        obtain ⟨i, hi, rfl, hS3⟩ := hrel
        obtain ⟨x3, rfl, hS3, l3⟩ := hS3.open1
        obtain ⟨kb3, _, kl4, kl3, _⟩ := hS3.far kf
        have kl5 : ¬ w.heap.size = W2.heap.size := by omega
        have hl1 := HL.out i
        have hl2 := HL.out (i + 1)
        have hB3 := chain hB2 hB2.size hS3.below
        by_cases hlt : i < j
        · go_wp2_with fail
          (with_reducible refine (refDouble_any _ (HL2.out i) _).mono ?_)
          rintro e wg ⟨rfl, hb⟩
          obtain ⟨g3, rfl⟩ := grow_of hb
          clear hb
          rw [HD.out]
          go_wp2
          go_roundw
          case rel => exact ⟨i + 1, by omega, by go_num, (hS3.put1 _).grow _⟩
          case measure => simp [intOf]; omega
        · obtain rfl : i = j := by omega
          have kc := blk_setRow_same kb3 (bvs (tweakV key N i))
          go_wp2
          exact post_cell_tmp (n := 16) Try.results18 (by kernel_rfl) (.inl rfl) _ _ _ _ rfl rfl (by go_simp; first | done | rfl | exact ⟨rfl, rfl⟩) (by first | (rw [← csz_is]; assumption) | rfl) ⟨rfl, (by repeat (first | (with_reducible exact Below.refl _ _) | (with_reducible assumption) | (with_reducible exact grow_below _ _) | (with_reducible exact St.below (by assumption)) | (with_reducible refine below_grow ?_ _) | (with_reducible refine Below.alloc ?_ (by first | omega | (simp; done) | (simp [go_sem]; done) | (simp [go_sem]; omega)) _) | (with_reducible exact (St.put1 (by assumption) _).below) | (with_reducible exact (St.put2 (by assumption) _ _).below) | (with_reducible exact (St.put3 (by assumption) _ _ _).below) | (with_reducible exact (St.put4 (by assumption) _ _ _ _).below) | (with_reducible refine below_put ?_ (by first | omega | (simp [go_sem]; omega)) _ _) | (with_reducible refine Below.drew ?_) | (with_reducible refine Below.setCell ?_ (by first | omega | (simp [go_sem]; omega)) _) | (with_reducible refine below_setRow' ?_ (by first | omega | (simp [go_sem]; omega)) _) | (with_reducible refine below_drewN' ?_ _)))⟩
set_option maxRecDepth 100000 in
set_option maxHeartbeats 2000000 in
theorem refTweak_bad (key : List UInt8) (h : ¬ (key.length = 16 ∨ key.length = 32)) (hm : key.length ≤ maxLen) (n j : Int) (v : Value) (w : World) (hv : BytesAt w v key) :
    Calls Try.prog 18 #[v, .int .i64 n, .int .i64 j] w fun e w' => e = .returned (.tuple #[.agg (bvs (zs 16)), .bool false]) ∧ Below w.heap.size w w' := by
  have s1 : csz (bvs (zs 16)) = 16 := by rw [csz_bvs, zs_len]
  have RR := hid (fun w' (hb : Below w.heap.size w w') => refRoundsBad_any key (fun e => h (.inl e)) (fun e => h (.inr e)) v w' (hv.below hb) hm)
  have z := zs16; have e0 := zs_ne
  clear hv h hm
  go_enter Try.func18, Try.ntmps18
  go_wp2_with fail
  (with_reducible refine (RR.out _ (by repeat (first | (with_reducible exact Below.refl _ _) | (with_reducible assumption) | (with_reducible exact grow_below _ _) | (with_reducible exact St.below (by assumption)) | (with_reducible refine below_grow ?_ _) | (with_reducible refine Below.alloc ?_ (by first | omega | (simp; done) | (simp [go_sem]; done) | (simp [go_sem]; omega)) _) | (with_reducible exact (St.put1 (by assumption) _).below) | (with_reducible exact (St.put2 (by assumption) _ _).below) | (with_reducible exact (St.put3 (by assumption) _ _ _).below) | (with_reducible exact (St.put4 (by assumption) _ _ _ _).below) | (with_reducible refine below_put ?_ (by first | omega | (simp [go_sem]; omega)) _ _) | (with_reducible refine Below.drew ?_) | (with_reducible refine Below.setCell ?_ (by first | omega | (simp [go_sem]; omega)) _) | (with_reducible refine below_setRow' ?_ (by first | omega | (simp [go_sem]; omega)) _) | (with_reducible refine below_drewN' ?_ _)))).mono ?_)
  rintro e w1 ⟨rfl, rfl⟩
  go_wp2
  exact post_cell_tmp (n := 16) Try.results18 (by kernel_rfl) (.inl rfl) _ _ _ _ rfl rfl (by go_simp; first | done | rfl | exact ⟨rfl, rfl⟩) (by first | (rw [← csz_is]; assumption) | rfl) ⟨rfl, (by repeat (first | (with_reducible exact Below.refl _ _) | (with_reducible assumption) | (with_reducible exact grow_below _ _) | (with_reducible exact St.below (by assumption)) | (with_reducible refine below_grow ?_ _) | (with_reducible refine Below.alloc ?_ (by first | omega | (simp; done) | (simp [go_sem]; done) | (simp [go_sem]; omega)) _) | (with_reducible exact (St.put1 (by assumption) _).below) | (with_reducible exact (St.put2 (by assumption) _ _).below) | (with_reducible exact (St.put3 (by assumption) _ _ _).below) | (with_reducible exact (St.put4 (by assumption) _ _ _ _).below) | (with_reducible refine below_put ?_ (by first | omega | (simp [go_sem]; omega)) _ _) | (with_reducible refine Below.drew ?_) | (with_reducible refine Below.setCell ?_ (by first | omega | (simp [go_sem]; omega)) _) | (with_reducible refine below_setRow' ?_ (by first | omega | (simp [go_sem]; omega)) _) | (with_reducible refine below_drewN' ?_ _)))⟩
end Go.Proofs.Ytbofahaphgnblaa
