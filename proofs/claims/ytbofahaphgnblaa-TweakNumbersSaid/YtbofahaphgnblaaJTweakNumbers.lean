/-
  The law TweakNumbers: for every key and every number it answers true. No condition.
-/
import Derived.Test.YtbofahaphgnblaaRows
import Derived.Test.YtbofahaphgnblaaJB1

namespace Go.Proofs.Ytbofahaphgnblaa
open Go.ChangeShapes Go.WideShapes Go.ChangeAt Go.RowKit
attribute [local irreducible] xorL sboxL subB sealV openV
theorem refTweak0_good (key : List UInt8) (h : key.length = 16 ∨ key.length = 32) (n : Int) (v : Value) (w : World) (hv : BytesAt w v key) :
    Calls Try.prog 18 #[v, .int .i64 n, .int .i64 0] w fun e w' => e = .returned (.tuple #[.agg (bvs (tweakV key (u64N n) 0)), .bool true]) ∧ Below w.heap.size w w' := refTweak_good key h n 0 (by omega) v w hv
theorem one_is : (tweakV (zs 16) 0 0 == zs 16) = false := by rw [tweakV_zero]; decide +kernel
set_option maxRecDepth 100000 in
set_option maxHeartbeats 4000000 in
theorem tweakNumbers_any (key : List UInt8) (n : Int) (v : Value) (w : World) (hv : BytesAt w v key) (hm : key.length ≤ maxLen) :
    Calls Try.prog 3 #[v, .int .i64 n] w fun e w' => e = .returned (.bool true) ∧ Below w.heap.size w w' := by
  obtain ⟨p, c, rfl, hc⟩ := hv.slice
  have sz : csz (bvs (zs 16)) = 16 := by rw [csz_bvs, zs_len]
  have z := zs16; have e0 := zs_ne
  have HM := hid hm
  unfold maxLen at hm
  by_cases hbig : 4096 < key.length
  · have hB := Below.refl w.heap.size w
    generalize key.length = nk at *
    have h1 : (4096 : Int) < nk := by omega
    clear hv
    go_enter Try.func3, Try.ntmps3
    go_wp2
    go_ret
    exact ⟨rfl, hB⟩
  · have HV := hid hv
    have CO := hid (fun w' (hb : Below w.heap.size w w') => copy_g key _ w' (hv.below hb) (by omega))
    have KE := hid (fun w' cap cur (hK : Kp key cap cur) g (hg : blk w' g = some (.cells cur 5 (0, 0))) (hb : Below w.heap.size w w') => kept_g key cap cur hK g _ w' hg (hv.below hb) (by omega))
    have T0 := hid (fun v w (hv : BytesAt w v (zs 16)) => tweak_good (zs 16) (.inl (zs_len 16)) 0 v w hv)
    rw [u64N_zero] at T0
    have o1 := one_is
    have s0 : csz (bvs (tweakV (zs 16) 0 0)) = 16 := by rw [csz_bvs, tweakV_len (.inl (zs_len 16))]
    generalize tweakV (zs 16) 0 0 = one at *
    obtain ⟨nk, hnk⟩ : ∃ nk, nk = key.length := ⟨_, rfl⟩
    have h1 : ¬ (4096 : Int) < (nk : Int) := by omega
    by_cases hg : key.length = 16 ∨ key.length = 32
    · have T1 := hid (fun v w (hv : BytesAt w v key) => tweak_good key hg n v w hv)
      have R1 := hid (fun v w (hv : BytesAt w v key) => refTweak0_good key hg n v w hv)
      have s1 : csz (bvs (tweakV key (u64N n) 0)) = 16 := by rw [csz_bvs, tweakV_len hg]
      generalize tweakV key (u64N n) 0 = x at *
      rw [← hnk] at CO KE HV ⊢
      have HNK := hid hnk
      clear hv hg hbig hm hnk hc
      go_enter Try.func3, Try.ntmps3
      go_wp2_with fail
      (with_reducible refine (CO.out _ (Below.refl _ _)).mono ?_)
      rintro e wz ⟨ga, gb, cap, cur, rfl, hK, rfl⟩
      have HK := hid hK; have HKB := hid (fun w g (hg : blk w g = some (.cells cur 5 (0, 0))) => hK.bytes hg)
      rw [← HNK.out] at HKB
      clear hK
      go_wp2_with fail
      (with_reducible refine (T1.out _ _ (HKB.out _ _ (by go_simp; first | done | rfl | exact ⟨rfl, rfl⟩))).mono ?_)
      rintro e wg ⟨rfl, hb⟩
      obtain ⟨g1, rfl⟩ := grow_of hb
      clear hb
      go_wp2_with fail
      (with_reducible refine (R1.out _ _ (HV.out.below (by repeat (first | (with_reducible exact Below.refl _ _) | (with_reducible assumption) | (with_reducible exact grow_below _ _) | (with_reducible exact St.below (by assumption)) | (with_reducible refine below_grow ?_ _) | (with_reducible refine Below.alloc ?_ (by first | omega | (simp; done) | (simp [go_sem]; done) | (simp [go_sem]; omega)) _) | (with_reducible exact (St.put1 (by assumption) _).below) | (with_reducible exact (St.put2 (by assumption) _ _).below) | (with_reducible exact (St.put3 (by assumption) _ _ _).below) | (with_reducible exact (St.put4 (by assumption) _ _ _ _).below) | (with_reducible refine below_put ?_ (by first | omega | (simp [go_sem]; omega)) _ _) | (with_reducible refine Below.drew ?_) | (with_reducible refine Below.setCell ?_ (by first | omega | (simp [go_sem]; omega)) _) | (with_reducible refine below_setRow' ?_ (by first | omega | (simp [go_sem]; omega)) _) | (with_reducible refine below_drewN' ?_ _))))).mono ?_)
      rintro e wg ⟨rfl, hb⟩
      obtain ⟨g2, rfl⟩ := grow_of hb
      clear hb
      go_wp2_with fail
      (with_reducible refine (T0.out _ _ (bytesAt_whole (by go_simp; first | done | rfl | exact ⟨rfl, rfl⟩) (zs_len 16))).mono ?_)
      rintro e wg ⟨rfl, hb⟩
      obtain ⟨g3, rfl⟩ := grow_of hb
      clear hb
      go_wp2_with fail
      (with_reducible refine (KE.out _ _ _ HK.out _ (by go_simp; first | done | rfl | exact ⟨rfl, rfl⟩) (by repeat (first | (with_reducible exact Below.refl _ _) | (with_reducible assumption) | (with_reducible exact grow_below _ _) | (with_reducible exact St.below (by assumption)) | (with_reducible refine below_grow ?_ _) | (with_reducible refine Below.alloc ?_ (by first | omega | (simp; done) | (simp [go_sem]; done) | (simp [go_sem]; omega)) _) | (with_reducible exact (St.put1 (by assumption) _).below) | (with_reducible exact (St.put2 (by assumption) _ _).below) | (with_reducible exact (St.put3 (by assumption) _ _ _).below) | (with_reducible exact (St.put4 (by assumption) _ _ _ _).below) | (with_reducible refine below_put ?_ (by first | omega | (simp [go_sem]; omega)) _ _) | (with_reducible refine Below.drew ?_) | (with_reducible refine Below.setCell ?_ (by first | omega | (simp [go_sem]; omega)) _) | (with_reducible refine below_setRow' ?_ (by first | omega | (simp [go_sem]; omega)) _) | (with_reducible refine below_drewN' ?_ _)))).mono ?_)
      rintro e wg ⟨rfl, hb⟩
      obtain ⟨g4, rfl⟩ := grow_of hb
      clear hb
      go_wp2
      go_ret
      exact ⟨rfl, (by repeat (first | (with_reducible exact Below.refl _ _) | (with_reducible assumption) | (with_reducible exact grow_below _ _) | (with_reducible exact St.below (by assumption)) | (with_reducible refine below_grow ?_ _) | (with_reducible refine Below.alloc ?_ (by first | omega | (simp; done) | (simp [go_sem]; done) | (simp [go_sem]; omega)) _) | (with_reducible exact (St.put1 (by assumption) _).below) | (with_reducible exact (St.put2 (by assumption) _ _).below) | (with_reducible exact (St.put3 (by assumption) _ _ _).below) | (with_reducible exact (St.put4 (by assumption) _ _ _ _).below) | (with_reducible refine below_put ?_ (by first | omega | (simp [go_sem]; omega)) _ _) | (with_reducible refine Below.drew ?_) | (with_reducible refine Below.setCell ?_ (by first | omega | (simp [go_sem]; omega)) _) | (with_reducible refine below_setRow' ?_ (by first | omega | (simp [go_sem]; omega)) _) | (with_reducible refine below_drewN' ?_ _)))⟩
    · skip
      have T1 := hid (fun v w (hv : BytesAt w v key) => tweak_bad key hg HM.out n v w hv)
      have R1 := hid (fun v w (hv : BytesAt w v key) => refTweak_bad key hg HM.out n 0 v w hv)
      have IE := hid (is_err 3 3 rfl)
      rw [← hnk] at CO KE HV ⊢
      have HNK := hid hnk
      clear hv hg hbig hm hnk hc
      go_enter Try.func3, Try.ntmps3
      go_wp2_with fail
      (with_reducible refine (CO.out _ (Below.refl _ _)).mono ?_)
      rintro e wz ⟨ga, gb, cap, cur, rfl, hK, rfl⟩
      have HK := hid hK; have HKB := hid (fun w g (hg : blk w g = some (.cells cur 5 (0, 0))) => hK.bytes hg)
      rw [← HNK.out] at HKB
      clear hK
      go_wp2_with fail
      (with_reducible refine (T1.out _ _ (HKB.out _ _ (by go_simp; first | done | rfl | exact ⟨rfl, rfl⟩))).mono ?_)
      rintro e wg ⟨rfl, hb⟩
      obtain ⟨g1, rfl⟩ := grow_of hb
      clear hb
      go_wp2_with fail
      (with_reducible refine (R1.out _ _ (HV.out.below (by repeat (first | (with_reducible exact Below.refl _ _) | (with_reducible assumption) | (with_reducible exact grow_below _ _) | (with_reducible exact St.below (by assumption)) | (with_reducible refine below_grow ?_ _) | (with_reducible refine Below.alloc ?_ (by first | omega | (simp; done) | (simp [go_sem]; done) | (simp [go_sem]; omega)) _) | (with_reducible exact (St.put1 (by assumption) _).below) | (with_reducible exact (St.put2 (by assumption) _ _).below) | (with_reducible exact (St.put3 (by assumption) _ _ _).below) | (with_reducible exact (St.put4 (by assumption) _ _ _ _).below) | (with_reducible refine below_put ?_ (by first | omega | (simp [go_sem]; omega)) _ _) | (with_reducible refine Below.drew ?_) | (with_reducible refine Below.setCell ?_ (by first | omega | (simp [go_sem]; omega)) _) | (with_reducible refine below_setRow' ?_ (by first | omega | (simp [go_sem]; omega)) _) | (with_reducible refine below_drewN' ?_ _))))).mono ?_)
      rintro e wg ⟨rfl, hb⟩
      obtain ⟨g2, rfl⟩ := grow_of hb
      clear hb
      go_wp2_with fail
      (with_reducible refine (T0.out _ _ (bytesAt_whole (by go_simp; first | done | rfl | exact ⟨rfl, rfl⟩) (zs_len 16))).mono ?_)
      rintro e wg ⟨rfl, hb⟩
      obtain ⟨g3, rfl⟩ := grow_of hb
      clear hb
      go_wp2_with fail
      (with_reducible refine (KE.out _ _ _ HK.out _ (by go_simp; first | done | rfl | exact ⟨rfl, rfl⟩) (by repeat (first | (with_reducible exact Below.refl _ _) | (with_reducible assumption) | (with_reducible exact grow_below _ _) | (with_reducible exact St.below (by assumption)) | (with_reducible refine below_grow ?_ _) | (with_reducible refine Below.alloc ?_ (by first | omega | (simp; done) | (simp [go_sem]; done) | (simp [go_sem]; omega)) _) | (with_reducible exact (St.put1 (by assumption) _).below) | (with_reducible exact (St.put2 (by assumption) _ _).below) | (with_reducible exact (St.put3 (by assumption) _ _ _).below) | (with_reducible exact (St.put4 (by assumption) _ _ _ _).below) | (with_reducible refine below_put ?_ (by first | omega | (simp [go_sem]; omega)) _ _) | (with_reducible refine Below.drew ?_) | (with_reducible refine Below.setCell ?_ (by first | omega | (simp [go_sem]; omega)) _) | (with_reducible refine below_setRow' ?_ (by first | omega | (simp [go_sem]; omega)) _) | (with_reducible refine below_drewN' ?_ _)))).mono ?_)
      rintro e wg ⟨rfl, hb⟩
      obtain ⟨g4, rfl⟩ := grow_of hb
      clear hb
      go_wp2_with fail
      (with_reducible refine (IE.out _).mono ?_)
      rintro e wz ⟨rfl, rfl⟩
      go_wp2
      go_ret
      exact ⟨rfl, (by repeat (first | (with_reducible exact Below.refl _ _) | (with_reducible assumption) | (with_reducible exact grow_below _ _) | (with_reducible exact St.below (by assumption)) | (with_reducible refine below_grow ?_ _) | (with_reducible refine Below.alloc ?_ (by first | omega | (simp; done) | (simp [go_sem]; done) | (simp [go_sem]; omega)) _) | (with_reducible exact (St.put1 (by assumption) _).below) | (with_reducible exact (St.put2 (by assumption) _ _).below) | (with_reducible exact (St.put3 (by assumption) _ _ _).below) | (with_reducible exact (St.put4 (by assumption) _ _ _ _).below) | (with_reducible refine below_put ?_ (by first | omega | (simp [go_sem]; omega)) _ _) | (with_reducible refine Below.drew ?_) | (with_reducible refine Below.setCell ?_ (by first | omega | (simp [go_sem]; omega)) _) | (with_reducible refine below_setRow' ?_ (by first | omega | (simp [go_sem]; omega)) _) | (with_reducible refine below_drewN' ?_ _)))⟩
end Go.Proofs.Ytbofahaphgnblaa

namespace Go.Proofs.Ytbofahaphgnblaa
open Go.ChangeShapes Go.WideShapes Go.ChangeAt Go.RowKit

theorem Try.own : ownKnob Try.prog.godebug = none := by kernel_rfl
theorem Try.laidOut : laidOutB Try.prog = true := by kernel_rfl

set_option maxRecDepth 100000 in
theorem tweakNumbers_lifted (os : Os) (started : os.Started) (H : Type) (enc : TypeId × Value → H) :
    ReturnsInHanded {} Try.checked os 3 .any (Rows.tweakNumbersSpec.pre6 enc Try.prog Try.f3 Rows.tweakNumbersRow.domain false) (Rows.tweakNumbersSpec.post enc Try.prog Try.f3 false true false false) := by
  refine law_lift (C := Try.checked) Try.own started (by kernel_rfl) Try.func3
    (ChangeSpec.witness6 (enc := enc) (C := Try.checked) false ⟨#[], #[.slice none 0 0, .int .i64 0], []⟩ 8 (by kernel_rfl) (by kernel_rfl) (by kernel_rfl) (by kernel_rfl))
    rfl (by kernel_rfl) Try.underlying4 (fun ds h => by match ds, h with | [a, b], _ => exact ⟨rfl, rfl, rfl⟩) Try.laidOut (by kernel_rfl) ?_
  intro W base args ds p hval0 hA0 hlt hsz0
  have hval : ∀ (j : Nat) t v, Try.f3.params[j]? = some t → args[j]? = some v → Value.okWide Try.prog W .any base t v := hval0
  have hA : DataW.TrodAll enc Try.prog W 0 (fun _ => true) true Try.f3.params.toList args.toList ds p := hA0
  have hsz : (DataW.weightsEach Try.prog Try.f3.params.toList ds).all (· ≤ reachBytes) = true := hsz0
  rw [Try.params3] at hA hval hsz
  obtain ⟨v0, v1, d0, d1, p0, p1, rfl, rfl, rfl, h0, h1⟩ := trodAll_two hA
  obtain ⟨x0, lx0, mx0⟩ := open_bytes Try.underlying22 Try.underlying5 (by kernel_rfl) (okWide_slice Try.underlying22 (hval 0 _ v0 rfl rfl)) h0
  obtain ⟨x1, rfl, rfl, rfl, wx1⟩ := open_int Try.underlying3 (hval 1 _ v1 rfl rfl) h1
  exact tweakNumbers_any x0 x1 v0 W lx0 mx0

theorem tweakNumbers_holds : Rows.TweakNumbersSaid :=
  OpenClaim.holds_of_wide 3 Try.f3 rfl rfl rfl rfl rfl rfl rfl ⟨rfl, rfl, rfl, rfl, rfl⟩ rfl rfl rfl rfl rfl (by kernel_rfl) Try.func3 (by kernel_rfl)
    (of_decide_eq_true (by kernel_rfl)) (by unfold Func.isWrapper; rw [if_neg (by decide +kernel)]; exact ⟨rfl, rfl⟩)
    (fun os started H enc _ => tweakNumbers_lifted os started H enc)

end Go.Proofs.Ytbofahaphgnblaa
