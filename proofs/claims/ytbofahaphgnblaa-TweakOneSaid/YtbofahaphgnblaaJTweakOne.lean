/-
  The law TweakOne: for every key and every two blocks it answers true. No condition.
-/
import Derived.Test.YtbofahaphgnblaaRows
import Derived.Test.YtbofahaphgnblaaJC0

namespace Go.Proofs.Ytbofahaphgnblaa
open Go.ChangeShapes Go.WideShapes Go.ChangeAt Go.RowKit
attribute [local irreducible] xorL sboxL subB sealV openV
set_option maxRecDepth 100000 in
set_option maxHeartbeats 4000000 in
theorem tweakOne_any (key t x : List UInt8) (ht : t.length = 16) (hx : x.length = 16) (v : Value) (w : World) (hv : BytesAt w v key) (hm : key.length ≤ maxLen) :
    Calls Try.prog 15 #[v, .agg (bvs t), .agg (bvs x)] w fun e w' => e = .returned (.bool true) ∧ Below w.heap.size w w' := by
  obtain ⟨p, c, rfl, hc⟩ := hv.slice
  have A := hid alive6_any
  have HM := hid hm
  unfold maxLen at hm
  have sz : csz (bvs (zs 16)) = 16 := by rw [csz_bvs, zs_len]
  have st : csz (bvs t) = 16 := by rw [csz_bvs, ht]
  have sx : csz (bvs x) = 16 := by rw [csz_bvs, hx]
  have z := zs16; have e0 := zs_ne
  have HV := hid hv
  obtain ⟨nk, hnk⟩ : ∃ nk, nk = key.length := ⟨_, rfl⟩
  rw [← hnk] at HV hc ⊢
  by_cases hbig : 4096 < key.length
  · have h1 : (4096 : Int) < nk := by omega
    have h2 : (nk : Int) ≤ 9223372036854775807 := by omega
    clear hv hnk ht hx hbig hm
    go_enter Try.func15, Try.ntmps15
    go_wp2_with fail
    (with_reducible refine (A.out _).mono ?_)
    rintro e wg ⟨rfl, hb⟩
    obtain ⟨g1, rfl⟩ := grow_of hb
    clear hb
    go_wp2
    go_ret
    exact ⟨rfl, (by repeat (first | (with_reducible exact Below.refl _ _) | (with_reducible assumption) | (with_reducible exact grow_below _ _) | (with_reducible exact St.below (by assumption)) | (with_reducible refine below_grow ?_ _) | (with_reducible refine Below.alloc ?_ (by first | omega | (simp; done) | (simp [go_sem]; done) | (simp [go_sem]; omega)) _) | (with_reducible exact (St.put1 (by assumption) _).below) | (with_reducible exact (St.put2 (by assumption) _ _).below) | (with_reducible exact (St.put3 (by assumption) _ _ _).below) | (with_reducible exact (St.put4 (by assumption) _ _ _ _).below) | (with_reducible refine below_put ?_ (by first | omega | (simp [go_sem]; omega)) _ _) | (with_reducible refine Below.drew ?_) | (with_reducible refine Below.setCell ?_ (by first | omega | (simp [go_sem]; omega)) _) | (with_reducible refine below_setRow' ?_ (by first | omega | (simp [go_sem]; omega)) _) | (with_reducible refine below_drewN' ?_ _)))⟩
  · have h1 : ¬ (4096 : Int) < (nk : Int) := by omega
    by_cases hg : key.length = 16 ∨ key.length = 32
    · have B1 := hid (fun v w (hv : BytesAt w v key) => hideBlock_good key t x hg ht hx v w hv)
      have B2 := hid (fun v w (hv : BytesAt w v key) => showBlock_good key t x hg ht hx v w hv)
      have B3 := hid (fun v w (hv : BytesAt w v key) => refRounds_good key hg v w hv)
      have B4 := hid (fun v w (hr : RowsAt w 16 v (rkeys key)) => refBlock_any key t x hg ht hx v w hr)
      have B5 := hid (fun v w (hr : RowsAt w 16 v (rkeys key)) => refBlock_any key t (showB key t x) hg ht (showB_len hg ht hx) v w hr)
      rw [hide_show hg ht hx] at B5
      have s1 : csz (bvs (hideB key t x)) = 16 := by rw [csz_bvs, hideB_len hg ht hx]
      have s2 : csz (bvs (showB key t x)) = 16 := by rw [csz_bvs, showB_len hg ht hx]
      generalize hideB key t x = H at *
      generalize showB key t x = Z at *
      generalize (rkeys key).length = nr at *
      clear hv hg hbig hm hnk hc ht hx
      go_enter Try.func15, Try.ntmps15
      go_wp2_with fail
      (with_reducible refine (A.out _).mono ?_)
      rintro e wg ⟨rfl, hb⟩
      obtain ⟨g1, rfl⟩ := grow_of hb
      clear hb
      go_wp2_with fail
      (with_reducible refine (B1.out _ _ (HV.out.below (by repeat (first | (with_reducible exact Below.refl _ _) | (with_reducible assumption) | (with_reducible exact grow_below _ _) | (with_reducible exact St.below (by assumption)) | (with_reducible refine below_grow ?_ _) | (with_reducible refine Below.alloc ?_ (by first | omega | (simp; done) | (simp [go_sem]; done) | (simp [go_sem]; omega)) _) | (with_reducible exact (St.put1 (by assumption) _).below) | (with_reducible exact (St.put2 (by assumption) _ _).below) | (with_reducible exact (St.put3 (by assumption) _ _ _).below) | (with_reducible exact (St.put4 (by assumption) _ _ _ _).below) | (with_reducible refine below_put ?_ (by first | omega | (simp [go_sem]; omega)) _ _) | (with_reducible refine Below.drew ?_) | (with_reducible refine Below.setCell ?_ (by first | omega | (simp [go_sem]; omega)) _) | (with_reducible refine below_setRow' ?_ (by first | omega | (simp [go_sem]; omega)) _) | (with_reducible refine below_drewN' ?_ _))))).mono ?_)
      rintro e wg ⟨rfl, hb⟩
      obtain ⟨g2, rfl⟩ := grow_of hb
      clear hb
      go_wp2_with fail
      (with_reducible refine (B2.out _ _ (HV.out.below (by repeat (first | (with_reducible exact Below.refl _ _) | (with_reducible assumption) | (with_reducible exact grow_below _ _) | (with_reducible exact St.below (by assumption)) | (with_reducible refine below_grow ?_ _) | (with_reducible refine Below.alloc ?_ (by first | omega | (simp; done) | (simp [go_sem]; done) | (simp [go_sem]; omega)) _) | (with_reducible exact (St.put1 (by assumption) _).below) | (with_reducible exact (St.put2 (by assumption) _ _).below) | (with_reducible exact (St.put3 (by assumption) _ _ _).below) | (with_reducible exact (St.put4 (by assumption) _ _ _ _).below) | (with_reducible refine below_put ?_ (by first | omega | (simp [go_sem]; omega)) _ _) | (with_reducible refine Below.drew ?_) | (with_reducible refine Below.setCell ?_ (by first | omega | (simp [go_sem]; omega)) _) | (with_reducible refine below_setRow' ?_ (by first | omega | (simp [go_sem]; omega)) _) | (with_reducible refine below_drewN' ?_ _))))).mono ?_)
      rintro e wg ⟨rfl, hb⟩
      obtain ⟨g3, rfl⟩ := grow_of hb
      clear hb
      go_wp2_with fail
      (with_reducible refine (B3.out _ _ (HV.out.below (by repeat (first | (with_reducible exact Below.refl _ _) | (with_reducible assumption) | (with_reducible exact grow_below _ _) | (with_reducible exact St.below (by assumption)) | (with_reducible refine below_grow ?_ _) | (with_reducible refine Below.alloc ?_ (by first | omega | (simp; done) | (simp [go_sem]; done) | (simp [go_sem]; omega)) _) | (with_reducible exact (St.put1 (by assumption) _).below) | (with_reducible exact (St.put2 (by assumption) _ _).below) | (with_reducible exact (St.put3 (by assumption) _ _ _).below) | (with_reducible exact (St.put4 (by assumption) _ _ _ _).below) | (with_reducible refine below_put ?_ (by first | omega | (simp [go_sem]; omega)) _ _) | (with_reducible refine Below.drew ?_) | (with_reducible refine Below.setCell ?_ (by first | omega | (simp [go_sem]; omega)) _) | (with_reducible refine below_setRow' ?_ (by first | omega | (simp [go_sem]; omega)) _) | (with_reducible refine below_drewN' ?_ _))))).mono ?_)
      rintro e wz ⟨rp, rc, rfl, hR, hb⟩
      obtain ⟨g4, rfl⟩ := grow_of hb
      have HR := hid hR
      clear hb hR
      go_wp2_with fail
      refine region_cls (by kernel_rfl) (by kernel_rfl) ?_
      repeat (first | (refine BigFrame.wpQuiet_skip rfl ?_; simp only [Act.put, List.setIfInBounds_toArray, List.set_cons_zero, List.set_cons_succ]) | (refine BigFrame.wpQuiet_want rfl (fun K hK => ?_); apply Exists.intro; refine ⟨fun w' hw' => ?_, hK _ ?_⟩; (focus (have zw := hw'; obtain ⟨zg, rfl⟩ := grow_of hw'; go_simp; (try (go_bits; go_simp)); first | done | rfl | (first | ((with_reducible refine (B4.out _ _ ?_).mono fun e w2 h2 => ⟨h2.1, zw.step h2.2⟩); exact HR.out.below (by repeat (first | (with_reducible exact Below.refl _ _) | (with_reducible assumption) | (with_reducible exact grow_below _ _) | (with_reducible exact St.below (by assumption)) | (with_reducible refine below_grow ?_ _) | (with_reducible refine Below.alloc ?_ (by first | omega | (simp; done) | (simp [go_sem]; done) | (simp [go_sem]; omega)) _) | (with_reducible exact (St.put1 (by assumption) _).below) | (with_reducible exact (St.put2 (by assumption) _ _).below) | (with_reducible exact (St.put3 (by assumption) _ _ _).below) | (with_reducible exact (St.put4 (by assumption) _ _ _ _).below) | (with_reducible refine below_put ?_ (by first | omega | (simp [go_sem]; omega)) _ _) | (with_reducible refine Below.drew ?_) | (with_reducible refine Below.setCell ?_ (by first | omega | (simp [go_sem]; omega)) _) | (with_reducible refine below_setRow' ?_ (by first | omega | (simp [go_sem]; omega)) _) | (with_reducible refine below_drewN' ?_ _)))) | ((with_reducible refine (B5.out _ _ ?_).mono fun e w2 h2 => ⟨h2.1, zw.step h2.2⟩); exact HR.out.below (by repeat (first | (with_reducible exact Below.refl _ _) | (with_reducible assumption) | (with_reducible exact grow_below _ _) | (with_reducible exact St.below (by assumption)) | (with_reducible refine below_grow ?_ _) | (with_reducible refine Below.alloc ?_ (by first | omega | (simp; done) | (simp [go_sem]; done) | (simp [go_sem]; omega)) _) | (with_reducible exact (St.put1 (by assumption) _).below) | (with_reducible exact (St.put2 (by assumption) _ _).below) | (with_reducible exact (St.put3 (by assumption) _ _ _).below) | (with_reducible exact (St.put4 (by assumption) _ _ _ _).below) | (with_reducible refine below_put ?_ (by first | omega | (simp [go_sem]; omega)) _ _) | (with_reducible refine Below.drew ?_) | (with_reducible refine Below.setCell ?_ (by first | omega | (simp [go_sem]; omega)) _) | (with_reducible refine below_setRow' ?_ (by first | omega | (simp [go_sem]; omega)) _) | (with_reducible refine below_drewN' ?_ _))))))); clear hK K; simp only [Act.put, List.setIfInBounds_toArray, List.set_cons_zero, List.set_cons_succ]))
      refine wpQuiet_nil ?_
      intro wq hcq
      obtain ⟨gq, rfl⟩ := grow_of hcq
      clear hcq
      go_wp2
      go_ret
      exact ⟨rfl, (by repeat (first | (with_reducible exact Below.refl _ _) | (with_reducible assumption) | (with_reducible exact grow_below _ _) | (with_reducible exact St.below (by assumption)) | (with_reducible refine below_grow ?_ _) | (with_reducible refine Below.alloc ?_ (by first | omega | (simp; done) | (simp [go_sem]; done) | (simp [go_sem]; omega)) _) | (with_reducible exact (St.put1 (by assumption) _).below) | (with_reducible exact (St.put2 (by assumption) _ _).below) | (with_reducible exact (St.put3 (by assumption) _ _ _).below) | (with_reducible exact (St.put4 (by assumption) _ _ _ _).below) | (with_reducible refine below_put ?_ (by first | omega | (simp [go_sem]; omega)) _ _) | (with_reducible refine Below.drew ?_) | (with_reducible refine Below.setCell ?_ (by first | omega | (simp [go_sem]; omega)) _) | (with_reducible refine below_setRow' ?_ (by first | omega | (simp [go_sem]; omega)) _) | (with_reducible refine below_drewN' ?_ _)))⟩
    · have B1 := hid (fun v w (hv : BytesAt w v key) => hideBlock_bad key t x hg HM.out ht hx v w hv)
      have B2 := hid (fun v w (hv : BytesAt w v key) => showBlock_bad key t x hg HM.out ht hx v w hv)
      have B3 := hid (fun v w (hv : BytesAt w v key) => refRoundsBad_any key (fun e => hg (.inl e)) (fun e => hg (.inr e)) v w hv HM.out)
      have IE := hid (is_err 3 3 rfl)
      clear hv hg hbig hm hnk hc ht hx
      go_enter Try.func15, Try.ntmps15
      go_wp2_with fail
      (with_reducible refine (A.out _).mono ?_)
      rintro e wg ⟨rfl, hb⟩
      obtain ⟨g1, rfl⟩ := grow_of hb
      clear hb
      go_wp2_with fail
      (with_reducible refine (B1.out _ _ (HV.out.below (by repeat (first | (with_reducible exact Below.refl _ _) | (with_reducible assumption) | (with_reducible exact grow_below _ _) | (with_reducible exact St.below (by assumption)) | (with_reducible refine below_grow ?_ _) | (with_reducible refine Below.alloc ?_ (by first | omega | (simp; done) | (simp [go_sem]; done) | (simp [go_sem]; omega)) _) | (with_reducible exact (St.put1 (by assumption) _).below) | (with_reducible exact (St.put2 (by assumption) _ _).below) | (with_reducible exact (St.put3 (by assumption) _ _ _).below) | (with_reducible exact (St.put4 (by assumption) _ _ _ _).below) | (with_reducible refine below_put ?_ (by first | omega | (simp [go_sem]; omega)) _ _) | (with_reducible refine Below.drew ?_) | (with_reducible refine Below.setCell ?_ (by first | omega | (simp [go_sem]; omega)) _) | (with_reducible refine below_setRow' ?_ (by first | omega | (simp [go_sem]; omega)) _) | (with_reducible refine below_drewN' ?_ _))))).mono ?_)
      rintro e wg ⟨rfl, hb⟩
      obtain ⟨g2, rfl⟩ := grow_of hb
      clear hb
      go_wp2_with fail
      (with_reducible refine (B2.out _ _ (HV.out.below (by repeat (first | (with_reducible exact Below.refl _ _) | (with_reducible assumption) | (with_reducible exact grow_below _ _) | (with_reducible exact St.below (by assumption)) | (with_reducible refine below_grow ?_ _) | (with_reducible refine Below.alloc ?_ (by first | omega | (simp; done) | (simp [go_sem]; done) | (simp [go_sem]; omega)) _) | (with_reducible exact (St.put1 (by assumption) _).below) | (with_reducible exact (St.put2 (by assumption) _ _).below) | (with_reducible exact (St.put3 (by assumption) _ _ _).below) | (with_reducible exact (St.put4 (by assumption) _ _ _ _).below) | (with_reducible refine below_put ?_ (by first | omega | (simp [go_sem]; omega)) _ _) | (with_reducible refine Below.drew ?_) | (with_reducible refine Below.setCell ?_ (by first | omega | (simp [go_sem]; omega)) _) | (with_reducible refine below_setRow' ?_ (by first | omega | (simp [go_sem]; omega)) _) | (with_reducible refine below_drewN' ?_ _))))).mono ?_)
      rintro e wg ⟨rfl, hb⟩
      obtain ⟨g3, rfl⟩ := grow_of hb
      clear hb
      go_wp2_with fail
      (with_reducible refine (B3.out _ _ (HV.out.below (by repeat (first | (with_reducible exact Below.refl _ _) | (with_reducible assumption) | (with_reducible exact grow_below _ _) | (with_reducible exact St.below (by assumption)) | (with_reducible refine below_grow ?_ _) | (with_reducible refine Below.alloc ?_ (by first | omega | (simp; done) | (simp [go_sem]; done) | (simp [go_sem]; omega)) _) | (with_reducible exact (St.put1 (by assumption) _).below) | (with_reducible exact (St.put2 (by assumption) _ _).below) | (with_reducible exact (St.put3 (by assumption) _ _ _).below) | (with_reducible exact (St.put4 (by assumption) _ _ _ _).below) | (with_reducible refine below_put ?_ (by first | omega | (simp [go_sem]; omega)) _ _) | (with_reducible refine Below.drew ?_) | (with_reducible refine Below.setCell ?_ (by first | omega | (simp [go_sem]; omega)) _) | (with_reducible refine below_setRow' ?_ (by first | omega | (simp [go_sem]; omega)) _) | (with_reducible refine below_drewN' ?_ _))))).mono ?_)
      rintro e wz ⟨rfl, rfl⟩
      go_wp2_with fail
      (with_reducible refine (IE.out _).mono ?_)
      rintro e wz ⟨rfl, rfl⟩
      go_wp2_with fail
      (with_reducible refine (IE.out _).mono ?_)
      rintro e wz ⟨rfl, rfl⟩
      go_wp2
      go_ret
      exact ⟨rfl, (by repeat (first | (with_reducible exact Below.refl _ _) | (with_reducible assumption) | (with_reducible exact grow_below _ _) | (with_reducible exact St.below (by assumption)) | (with_reducible refine below_grow ?_ _) | (with_reducible refine Below.alloc ?_ (by first | omega | (simp; done) | (simp [go_sem]; done) | (simp [go_sem]; omega)) _) | (with_reducible exact (St.put1 (by assumption) _).below) | (with_reducible exact (St.put2 (by assumption) _ _).below) | (with_reducible exact (St.put3 (by assumption) _ _ _).below) | (with_reducible exact (St.put4 (by assumption) _ _ _ _).below) | (with_reducible refine below_put ?_ (by first | omega | (simp [go_sem]; omega)) _ _) | (with_reducible refine Below.drew ?_) | (with_reducible refine Below.setCell ?_ (by first | omega | (simp [go_sem]; omega)) _) | (with_reducible refine below_setRow' ?_ (by first | omega | (simp [go_sem]; omega)) _) | (with_reducible refine below_drewN' ?_ _)))⟩
end Go.Proofs.Ytbofahaphgnblaa

namespace Go.Proofs.Ytbofahaphgnblaa
open Go.ChangeShapes Go.WideShapes Go.ChangeAt Go.RowKit

theorem Try.own : ownKnob Try.prog.godebug = none := by kernel_rfl
theorem Try.laidOut : laidOutB Try.prog = true := by kernel_rfl
theorem cells_25 : Try.prog.cellsOf 25 = 16 := by kernel_rfl

set_option maxRecDepth 100000 in
theorem tweakOne_lifted (os : Os) (started : os.Started) (H : Type) (enc : TypeId × Value → H) :
    ReturnsInHanded {} Try.checked os 15 .any (Rows.tweakOneSpec.pre6 enc Try.prog Try.f15 Rows.tweakOneRow.domain false) (Rows.tweakOneSpec.post enc Try.prog Try.f15 false true false false) := by
  refine law_lift (C := Try.checked) Try.own started (by kernel_rfl) Try.func15
    (ChangeSpec.witness6 (enc := enc) (C := Try.checked) false ⟨#[], #[.slice none 0 0, .agg #[.int .u8 0, .int .u8 0, .int .u8 0, .int .u8 0, .int .u8 0, .int .u8 0, .int .u8 0, .int .u8 0, .int .u8 0, .int .u8 0, .int .u8 0, .int .u8 0, .int .u8 0, .int .u8 0, .int .u8 0, .int .u8 0], .agg #[.int .u8 0, .int .u8 0, .int .u8 0, .int .u8 0, .int .u8 0, .int .u8 0, .int .u8 0, .int .u8 0, .int .u8 0, .int .u8 0, .int .u8 0, .int .u8 0, .int .u8 0, .int .u8 0, .int .u8 0, .int .u8 0]], []⟩ 8 (by kernel_rfl) (by kernel_rfl) (by kernel_rfl) (by kernel_rfl))
    rfl (by kernel_rfl) Try.underlying4 (fun ds h => by match ds, h with | [a, b, c], _ => exact ⟨rfl, rfl, rfl⟩) Try.laidOut (by kernel_rfl) ?_
  intro W base args ds p hval0 hA0 hlt hsz0
  have hval : ∀ (j : Nat) t v, Try.f15.params[j]? = some t → args[j]? = some v → Value.okWide Try.prog W .any base t v := hval0
  have hA : DataW.TrodAll enc Try.prog W 0 (fun _ => true) true Try.f15.params.toList args.toList ds p := hA0
  have hsz : (DataW.weightsEach Try.prog Try.f15.params.toList ds).all (· ≤ reachBytes) = true := hsz0
  rw [Try.params15] at hA hval hsz
  obtain ⟨v0, v1, v2, d0, d1, d2, p0, p1, p2, rfl, rfl, rfl, h0, h1, h2⟩ := trodAll_three hA
  obtain ⟨x0, lx0, mx0⟩ := open_bytes Try.underlying22 Try.underlying5 (by kernel_rfl) (okWide_slice Try.underlying22 (hval 0 _ v0 rfl rfl)) h0
  obtain ⟨x1, lx1, rfl⟩ := open_barr isBytes_25 cells_25 (by intro e he; rw [show Try.prog.underlying 25 = _ from Try.underlying25] at he; cases he; kernel_rfl) (hval 1 _ v1 rfl rfl) h1
  obtain ⟨x2, lx2, rfl⟩ := open_barr isBytes_25 cells_25 (by intro e he; rw [show Try.prog.underlying 25 = _ from Try.underlying25] at he; cases he; kernel_rfl) (hval 2 _ v2 rfl rfl) h2
  exact tweakOne_any x0 x1 x2 lx1 lx2 v0 W lx0 mx0

theorem tweakOne_holds : Rows.TweakOneSaid :=
  OpenClaim.holds_of_wide 15 Try.f15 rfl rfl rfl rfl rfl rfl rfl ⟨rfl, rfl, rfl, rfl, rfl⟩ rfl rfl rfl rfl rfl (by kernel_rfl) Try.func15 (by kernel_rfl)
    (of_decide_eq_true (by kernel_rfl)) (by unfold Func.isWrapper; rw [if_neg (by decide +kernel)]; exact ⟨rfl, rfl⟩)
    (fun os started H enc _ => tweakOne_lifted os started H enc)

end Go.Proofs.Ytbofahaphgnblaa
