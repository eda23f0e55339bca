/-
  The law CipherSeals, walked. No condition.
-/
import Derived.Test.YtkfbfgjfdjhjdaaSealP
import Derived.Test.YtkfbfgjfdjhjdaaTurnsP
namespace Go.Proofs.Ytkfbfgjfdjhjdaa
open Go.ChangeShapes Go.WideShapes Go.ChangeAt Go.RowKit
attribute [local irreducible] xorL sboxL subB sealV openV
theorem bytesAt_ex {w : World} {g : Nat} (h : blk w g = some (.cells (bvs exK) 5 (0, 0))) : BytesAt w (.slice (some ⟨g, 0, none⟩) 16 16) exK :=
  ⟨_, 16, rfl, Nat.le_refl _, (fun h => by cases h), fun _ => ⟨g, 0, _, _, _, rfl, h, fun i x hi => by rw [Nat.zero_add]; exact bvs_at hi⟩⟩
theorem seal_ex (v : Value) (w : World) (hv : BytesAt w v exK) : Calls Try.prog 46 #[v, .agg (bvs exP)] w fun e w' => e = .returned (.tuple #[.agg (bvs exW), .nilIface]) ∧ Below w.heap.size w w' := by
  have h := seal_good exK exP (.inl rfl) rfl v w hv
  rwa [ex_is] at h
theorem known_ex (w : World) : Calls Try.prog 45 #[] w fun e w' => ∃ g, e = .returned (.tuple #[.slice (some ⟨g, 0, none⟩) 16 16, .agg (bvs exP), .agg (bvs exW)]) ∧ BytesAt w' (.slice (some ⟨g, 0, none⟩) 16 16) exK ∧ Below w.heap.size w w' :=
  (known_any w).mono fun e w' h => ⟨_, h.1, bytesAt_ex h.2.1, h.2.2⟩
set_option maxRecDepth 100000 in
set_option maxHeartbeats 4000000 in
theorem cipherSeals_any (key x : List UInt8) (v : Value) (w : World) (hx : x.length = 16) (hv : BytesAt w v key) (hm : key.length ≤ maxLen) :
    Calls Try.prog 17 #[v, .agg (bvs x)] w fun e w' => e = .returned (.bool true) ∧ Below w.heap.size w w' := by
  obtain ⟨n, hnn⟩ : ∃ n, n = key.length := ⟨_, rfl⟩
  obtain ⟨p, c, hvs⟩ : ∃ p c, v = .slice p n c := by
    obtain ⟨p, c, h, _⟩ := hv; exact ⟨p, c, by rw [hnn]; exact h⟩
  have s1 : csz (bvs x) = 16 := by rw [csz_bvs, hx]
  have hm0 := hm
  unfold maxLen at hm
  rw [← hnn] at hm
  by_cases hbig : n ≤ 65536
  · have gbig : (n : Int) ≤ 65536 := by omega
    have gbig2 : ¬ (65536 : Int) < (n : Int) := by omega
    have HV := hid hv; have HN := hid hnn
    have sw : csz (bvs exW) = 16 := rfl
    have sp : csz (bvs exP) = 16 := rfl
    have KN := hid known_ex
    have SE := hid seal_ex
    by_cases hg : key.length = 16 ∨ key.length = 32
    · have SG := hid (fun w' (hb : Below w.heap.size w w') => seal_good key x hg hx v w' (hv.below hb))
      have OG := hid (fun w' (hb : Below w.heap.size w w') => open_good key x hg hx v w' (hv.below hb))
      have RR := hid (fun w' (hb : Below w.heap.size w w') => refRounds_good key hg v w' (hv.below hb))
      have RE : Hid (∀ v w, RowsAt w 16 v (rkeys key) → Calls Try.prog 38 #[v, .agg (bvs x)] w fun e w' => e = .returned (.agg (bvs (sealV key x))) ∧ Below w.heap.size w w') :=
        hid fun v w hr => by unfold sealV; exact refEncrypt_any (rkeys key) x hx v w (keysAt_rows hr) (by rw [rkeys_len]; omega)
      have RD : Hid (∀ v w, RowsAt w 16 v (rkeys key) → Calls Try.prog 38 #[v, .agg (bvs (openV key x))] w fun e w' => e = .returned (.agg (bvs x)) ∧ Below w.heap.size w w') :=
        hid fun v w hr => by
          have h := refEncrypt_any (rkeys key) (openV key x) (openV_len hg hx) v w (keysAt_rows hr) (by rw [rkeys_len]; omega)
          unfold openV at h
          rw [enc_dec_all (rkeys_16 hg) hx] at h
          unfold openV; exact h
      have ss : csz (bvs (sealV key x)) = 16 := by rw [csz_bvs, sealV_len hg hx]
      have so : csz (bvs (openV key x)) = 16 := by rw [csz_bvs, openV_len hg hx]
      generalize sealV key x = A at *
      generalize openV key x = B at *
      subst hvs
      clear hv hnn hg hm0 hx
      have z := zs16; have e0 := zs_ne
      go_enter Try.func17, Try.ntmps17
      go_wp2_with fail
      have hS := (St.start w).alloc (bvs x) 25
      with_reducible refine (KN.out _).mono ?_
      rintro e w1 ⟨g0, rfl, hk, hb⟩
      have hS1 := hS.call hb
      have HK := hid hk
      clear hS hk hb
      obtain ⟨kb0, kc0, kf0, kl0, kn0⟩ := hS1.at 0 rfl
      go_wp2_with fail
      have hS2 := show St w ((w1.alloc (.cells (bvs exP) 25)).alloc (.cells (bvs exW) 25)) [(w1.heap.size + 1, bvs exW, 25), (w1.heap.size, bvs exP, 25), (w.heap.size, bvs x, 25)] from St.alloc' (St.alloc' hS1 rfl) (by simp)
      with_reducible refine (SE.out _ _ (HK.out.below (by repeat (first | exact Below.refl _ _ | assumption | refine Below.alloc ?_ (by first | omega | (simp; done) | (simp; omega)) _ | refine Below.drew ?_ | refine Below.setCell ?_ (by first | omega | (simp; done) | (simp; omega)) _ | refine below_setRow' ?_ (by first | omega | (simp; done) | (simp; omega)) _ | refine below_drewN' ?_ _)))).mono ?_
      rintro e w2 ⟨rfl, hb⟩
      have hS3 := hS2.call hb
      clear hS1 hS2 hb HK kb0 kc0 kf0 kl0 kn0
      generalize w1.heap.size + 1 = n7 at *
      generalize w1.heap.size = n6 at *
      obtain ⟨kb0, kc0, kf0, kl0, kn0⟩ := hS3.at 0 rfl; obtain ⟨kb1, kc1, kf1, kl1, kn1⟩ := hS3.at 1 rfl; obtain ⟨kb2, kc2, kf2, kl2, kn2⟩ := hS3.at 2 rfl
      go_wp2_with fail
      have hS4 := hS3.alloc (bvs exW) 25
      clear hS3 kb0 kc0 kf0 kl0 kn0 kb1 kc1 kf1 kl1 kn1 kb2 kc2 kf2 kl2 kn2
      with_reducible refine (SG.out _ hS4.below).mono ?_
      rintro e w3 ⟨rfl, hb⟩
      have hS5 := hS4.call hb
      clear hS4 hb
      generalize w2.heap.size = n8 at *
      obtain ⟨kb0, kc0, kf0, kl0, kn0⟩ := hS5.at 0 rfl; obtain ⟨kb1, kc1, kf1, kl1, kn1⟩ := hS5.at 1 rfl; obtain ⟨kb2, kc2, kf2, kl2, kn2⟩ := hS5.at 2 rfl; obtain ⟨kb3, kc3, kf3, kl3, kn3⟩ := hS5.at 3 rfl
      go_wp2_with fail
      have hS6 := hS5.alloc (bvs A) 25
      clear hS5 kb0 kc0 kf0 kl0 kn0 kb1 kc1 kf1 kl1 kn1 kb2 kc2 kf2 kl2 kn2 kb3 kc3 kf3 kl3 kn3
      with_reducible refine (OG.out _ hS6.below).mono ?_
      rintro e w4 ⟨rfl, hb⟩
      have hS7 := hS6.call hb
      clear hS6 hb
      generalize w3.heap.size = n10 at *
      obtain ⟨kb0, kc0, kf0, kl0, kn0⟩ := hS7.at 0 rfl; obtain ⟨kb1, kc1, kf1, kl1, kn1⟩ := hS7.at 1 rfl; obtain ⟨kb2, kc2, kf2, kl2, kn2⟩ := hS7.at 2 rfl; obtain ⟨kb3, kc3, kf3, kl3, kn3⟩ := hS7.at 3 rfl; obtain ⟨kb4, kc4, kf4, kl4, kn4⟩ := hS7.at 4 rfl
      go_wp2_with fail
      have hS8 := hS7.alloc (bvs B) 25
      clear hS7 kb0 kc0 kf0 kl0 kn0 kb1 kc1 kf1 kl1 kn1 kb2 kc2 kf2 kl2 kn2 kb3 kc3 kf3 kl3 kn3 kb4 kc4 kf4 kl4 kn4
      with_reducible refine (RR.out _ hS8.below).mono ?_
      rintro e w5 ⟨p3, c3, rfl, hR, hb⟩
      have hS9 := hS8.call hb
      clear hS8 hb
      generalize w4.heap.size = n12 at *
      have h5 := St.start w5
      have HR := hid hR
      clear hR
      go_wp2_with fail
      refine region_cls (by kernel_rfl) (by kernel_rfl) ?_
      repeat (first | (refine BigFrame.wpQuiet_skip rfl ?_; simp only [Act.put, List.setIfInBounds_toArray, List.set_cons_zero, List.set_cons_succ]) | (refine BigFrame.wpQuiet_want rfl (fun K hK => ?_); apply Exists.intro; refine ⟨fun w' hw' => ?_, hK _ ?_⟩; (focus (have zS := hS9.cls hw'; obtain ⟨zb0, zc0, zf0, zl0, zn0⟩ := zS.at 0 rfl; obtain ⟨zb1, zc1, zf1, zl1, zn1⟩ := zS.at 1 rfl; obtain ⟨zb2, zc2, zf2, zl2, zn2⟩ := zS.at 5 rfl; clear zS; go_simp; (try (go_bits; go_simp)); first | done | rfl | (first | (go_at_call 38; first | (with_reducible exact hw'.call (RE.out _ _ (HR.out.below (h5.cls hw').below))) | (with_reducible exact hw'.call (RD.out _ _ (HR.out.below (h5.cls hw').below))))))); clear hK K; simp only [Act.put, List.setIfInBounds_toArray, List.set_cons_zero, List.set_cons_succ]))
      refine wpQuiet_nil ?_
      intro w6 hc
      have hB := (hS9.cls hc).below
      clear hS9 hc h5 HR
      go_wp2
      go_ret
      exact ⟨rfl, hB⟩
    · have SG := hid (fun w' (hb : Below w.heap.size w w') => seal_bad key x hg hm0 hx v w' (hv.below hb))
      have OG := hid (fun w' (hb : Below w.heap.size w w') => open_bad key x hg hm0 hx v w' (hv.below hb))
      have RR := hid (fun w' (hb : Below w.heap.size w w') => refRoundsBad_any key (fun e => hg (.inl e)) (fun e => hg (.inr e)) v w' (hv.below hb) hm0)
      have IE := hid (is_err 3 3 rfl)
      have sz : csz (bvs (zs 16)) = 16 := by rw [csz_bvs, zs_len]
      subst hvs
      clear hv hnn hg hm0 hx
      have z := zs16; have e0 := zs_ne
      go_enter Try.func17, Try.ntmps17
      go_wp2_with fail
      have hS := (St.start w).alloc (bvs x) 25
      with_reducible refine (KN.out _).mono ?_
      rintro e w1 ⟨g0, rfl, hk, hb⟩
      have hS1 := hS.call hb
      have HK := hid hk
      clear hS hk hb
      obtain ⟨kb0, kc0, kf0, kl0, kn0⟩ := hS1.at 0 rfl
      go_wp2_with fail
      have hS2 := show St w ((w1.alloc (.cells (bvs exP) 25)).alloc (.cells (bvs exW) 25)) [(w1.heap.size + 1, bvs exW, 25), (w1.heap.size, bvs exP, 25), (w.heap.size, bvs x, 25)] from St.alloc' (St.alloc' hS1 rfl) (by simp)
      with_reducible refine (SE.out _ _ (HK.out.below (by repeat (first | exact Below.refl _ _ | assumption | refine Below.alloc ?_ (by first | omega | (simp; done) | (simp; omega)) _ | refine Below.drew ?_ | refine Below.setCell ?_ (by first | omega | (simp; done) | (simp; omega)) _ | refine below_setRow' ?_ (by first | omega | (simp; done) | (simp; omega)) _ | refine below_drewN' ?_ _)))).mono ?_
      rintro e w2 ⟨rfl, hb⟩
      have hS3 := hS2.call hb
      clear hS1 hS2 hb HK kb0 kc0 kf0 kl0 kn0
      generalize w1.heap.size + 1 = n7 at *
      generalize w1.heap.size = n6 at *
      obtain ⟨kb0, kc0, kf0, kl0, kn0⟩ := hS3.at 0 rfl; obtain ⟨kb1, kc1, kf1, kl1, kn1⟩ := hS3.at 1 rfl; obtain ⟨kb2, kc2, kf2, kl2, kn2⟩ := hS3.at 2 rfl
      go_wp2_with fail
      have hS4 := hS3.alloc (bvs exW) 25
      clear hS3 kb0 kc0 kf0 kl0 kn0 kb1 kc1 kf1 kl1 kn1 kb2 kc2 kf2 kl2 kn2
      with_reducible refine (SG.out _ hS4.below).mono ?_
      rintro e w3 ⟨rfl, hb⟩
      have hS5 := hS4.call hb
      clear hS4 hb
      generalize w2.heap.size = n8 at *
      obtain ⟨kb0, kc0, kf0, kl0, kn0⟩ := hS5.at 0 rfl; obtain ⟨kb1, kc1, kf1, kl1, kn1⟩ := hS5.at 1 rfl; obtain ⟨kb2, kc2, kf2, kl2, kn2⟩ := hS5.at 2 rfl; obtain ⟨kb3, kc3, kf3, kl3, kn3⟩ := hS5.at 3 rfl
      go_wp2_with fail
      have hS6 := hS5.alloc (bvs (zs 16)) 25
      clear hS5 kb0 kc0 kf0 kl0 kn0 kb1 kc1 kf1 kl1 kn1 kb2 kc2 kf2 kl2 kn2 kb3 kc3 kf3 kl3 kn3
      with_reducible refine (OG.out _ hS6.below).mono ?_
      rintro e w4 ⟨rfl, hb⟩
      have hS7 := hS6.call hb
      clear hS6 hb
      generalize w3.heap.size = n10 at *
      obtain ⟨kb0, kc0, kf0, kl0, kn0⟩ := hS7.at 0 rfl; obtain ⟨kb1, kc1, kf1, kl1, kn1⟩ := hS7.at 1 rfl; obtain ⟨kb2, kc2, kf2, kl2, kn2⟩ := hS7.at 2 rfl; obtain ⟨kb3, kc3, kf3, kl3, kn3⟩ := hS7.at 3 rfl; obtain ⟨kb4, kc4, kf4, kl4, kn4⟩ := hS7.at 4 rfl
      go_wp2_with fail
      have hS8 := hS7.alloc (bvs (zs 16)) 25
      clear hS7 kb0 kc0 kf0 kl0 kn0 kb1 kc1 kf1 kl1 kn1 kb2 kc2 kf2 kl2 kn2 kb3 kc3 kf3 kl3 kn3 kb4 kc4 kf4 kl4 kn4
      with_reducible refine (RR.out _ hS8.below).mono ?_
      rintro e w5 ⟨rfl, rfl⟩
      generalize hWW : w4.alloc (.cells (bvs (zs 16)) 25) = W5 at *
      generalize w4.heap.size = n12 at *
      clear hWW
      obtain ⟨kb0, kc0, kf0, kl0, kn0⟩ := hS8.at 0 rfl; obtain ⟨kb1, kc1, kf1, kl1, kn1⟩ := hS8.at 1 rfl
      have hB := hS8.below
      clear hS8
      go_wp2_with fail
      with_reducible refine (IE.out _).mono ?_
      rintro e w2 ⟨rfl, rfl⟩
      go_wp2_with fail
      with_reducible refine (IE.out _).mono ?_
      rintro e w2 ⟨rfl, rfl⟩
      go_wp2
      go_ret
      exact ⟨rfl, hB⟩
  · subst hvs
    have g60 : ¬ (n : Int) ≤ 65536 := by omega
    clear hv hnn hm0 hx
    go_enter Try.func17, Try.ntmps17
    go_wp2
    go_ret
    exact ⟨rfl, (by repeat (first | exact Below.refl _ _ | assumption | refine Below.alloc ?_ (by first | omega | (simp; done) | (simp; omega)) _ | refine Below.drew ?_ | refine Below.setCell ?_ (by first | omega | (simp; done) | (simp; omega)) _ | refine below_setRow' ?_ (by first | omega | (simp; done) | (simp; omega)) _ | refine below_drewN' ?_ _))⟩
end Go.Proofs.Ytkfbfgjfdjhjdaa
