/-
  The law CipherTurns, walked. No condition.
-/
import Derived.Test.YtkfbfgjfdjhjdaaTurnsP
import Derived.Test.YtkfbfgjfdjhjdaaPartsW
import Derived.Test.YtkfbfgjfdjhjdaaOpenS
namespace Go.Proofs.Ytkfbfgjfdjhjdaa
open Go.ChangeShapes Go.WideShapes Go.ChangeAt Go.RowKit
attribute [local irreducible] xorL sboxL subB
set_option maxRecDepth 100000 in
set_option maxHeartbeats 4000000 in
theorem cipherTurns_any (ks : List (List UInt8)) (x : List UInt8) (hx : x.length = 16) (v : Value) (w : World) (hv : KeysAt w v ks) (hn : ks.length ≤ maxLen) :
    Calls Try.prog 16 #[v, .agg (bvs x)] w fun e w' => e = .returned (.bool true) ∧ Below w.heap.size w w' := by
  obtain ⟨n, hnn⟩ : ∃ n, n = ks.length := ⟨_, rfl⟩
  obtain ⟨p, c, hvs⟩ : ∃ p c, v = .slice p n c := by
    obtain ⟨_, p, c, h, _⟩ := hv; exact ⟨p, c, by rw [hnn]; exact h⟩
  unfold maxLen at hn
  rw [← hnn] at hn
  by_cases h60 : n ≤ 60
  · obtain ⟨E, hE⟩ : ∃ E : List UInt8 → List UInt8, E = fun y => encN ks y ks.length := ⟨_, rfl⟩
    obtain ⟨D, hD⟩ : ∃ D : List UInt8 → List UInt8, D = fun y => decN ks y ks.length := ⟨_, rfl⟩
    have cE : ∀ y, y.length = 16 → ∀ w', Below w.heap.size w w' → Calls Try.prog 37 #[v, .agg (bvs y)] w' fun e w2 => e = .returned (.agg (bvs (E y))) ∧ Below w'.heap.size w' w2 := fun y hy w' hb => by
      rw [hE]; exact encrypt_any ks y hy v w' (hv.below hb) (by omega)
    have cD : ∀ y, y.length = 16 → ∀ w', Below w.heap.size w w' → Calls Try.prog 44 #[v, .agg (bvs y)] w' fun e w2 => e = .returned (.agg (bvs (D y))) ∧ Below w'.heap.size w' w2 := fun y hy w' hb => by
      rw [hD]; exact decrypt_any ks y hy v w' (hv.below hb) (by omega)
    have lE : ∀ y, y.length = 16 → (E y).length = 16 := fun y hy => by rw [hE]; exact encN_len hv.1 hy _ (Nat.le_refl _)
    have lD : ∀ y, y.length = 16 → (D y).length = 16 := fun y hy => by rw [hD]; exact decN_len hv.1 hy _ (Nat.le_refl _)
    have q1 : (xorL kk3 kk1 == kk2) = true := by rw [kk_sum]; simp
    have q2 : (D (E x) == x) = true := by rw [hE, hD]; simp only [dec_enc_all hv.1 hx]; simp
    have q3 : (E (D x) == x) = true := by rw [hE, hD]; simp only [enc_dec_all hv.1 hx]; simp
    have s1 : csz (bvs x) = 16 := by rw [csz_bvs, hx]
    have s2 : csz (bvs kk1) = 16 := by rw [csz_bvs, kk_len.1]
    have s3 : csz (bvs kk2) = 16 := by rw [csz_bvs, kk_len.2.1]
    have s4 : csz (bvs kk3) = 16 := by rw [csz_bvs, kk_len.2.2]
    have s5 : csz (bvs (xorL kk3 kk1)) = 16 := by rw [kk_sum]; exact s3
    have s6 : csz (bvs (E x)) = 16 := by rw [csz_bvs, lE x hx]
    have s7 : csz (bvs (D x)) = 16 := by rw [csz_bvs, lD x hx]
    have s8 : csz (bvs (D (E x))) = 16 := by rw [csz_bvs, lD _ (lE x hx)]
    have s9 : csz (bvs (E (D x))) = 16 := by rw [csz_bvs, lE _ (lD x hx)]
    subst hvs
    have CE := hid cE; have CD := hid cD; have HX := hid hx; have HEX := hid (lE x hx); have HDX := hid (lD x hx)
    clear cE cD lE lD hE hD hx hv hnn
    have z := zs16; have e0 := zs_ne; have e1 := kk1_set; have e2 := kk2_set; have e3 := kk3_set
    have g60 : (n : Int) ≤ 60 := by omega
    go_enter Try.func16, Try.ntmps16
    go_wp2_with fail
    have hS : St w (w.alloc (.cells (bvs x) 25)) [(w.heap.size, bvs x, 25)] := (St.alloc' (St.start w) (by first | rfl | simp))
    generalize w.alloc (.cells (bvs x) 25) = W at *
    refine region_mono_lit 24 (by kernel_rfl) (by kernel_rfl) ?_
    dsimp only [List.take, List.drop]
    repeat (first | (refine wpM_skip (fun _ => rfl) ?_; simp only [Act.put, List.setIfInBounds_toArray, List.set_cons_zero, List.set_cons_succ]) | (refine wpM_alloc rfl (fun _ => rfl) _ (by intro w; go_simp; rfl) ?_; simp only [Act.put, List.setIfInBounds_toArray, List.set_cons_zero, List.set_cons_succ]) | (refine wpM_slice' rfl (fun _ => rfl) (fun K hK => ?_); apply Exists.intro; apply Exists.intro; apply Exists.intro; apply Exists.intro; refine ⟨fun pB w' hw' hF => ?_, hK _ _ ?_⟩; (focus (have zS := hS.cls hw'; obtain ⟨zb0, zc0, zf0, zl0, zn0⟩ := zS.at 0 rfl; clear zS; (first | (have yd := facts_of (hF.at (List.Mem.head _) (by decide +kernel)); obtain ⟨yb0, yc0, yf0, yl0⟩ := yd) | skip); (first | (have yd := facts_of (hF.at (List.Mem.tail _ (List.Mem.head _)) (by decide +kernel)); obtain ⟨yb1, yc1, yf1, yl1⟩ := yd) | skip); (first | (have yd := facts_of (hF.at (List.Mem.tail _ (List.Mem.tail _ (List.Mem.head _))) (by decide +kernel)); obtain ⟨yb2, yc2, yf2, yl2⟩ := yd) | skip); go_simp; (first | done | rfl | exact ⟨⟨rfl, rfl⟩, rfl⟩ | (refine ⟨?_, ?_⟩ <;> rfl) | (refine ⟨⟨?_, ?_⟩, ?_⟩ <;> rfl) | (refine ⟨⟨?_, ?_⟩, ⟨?_, ?_⟩⟩ <;> rfl)))); clear hK K; simp only [Act.put, List.setIfInBounds_toArray, List.set_cons_zero, List.set_cons_succ]) | (refine wpM_want (fun _ => rfl) (fun K hK => ?_); apply Exists.intro; refine ⟨fun pB w' hw' hF => ?_, hK _ _ ?_⟩; (focus (have zS := hS.cls hw'; obtain ⟨zb0, zc0, zf0, zl0, zn0⟩ := zS.at 0 rfl; clear zS; (first | (have yd := facts_of (hF.at (List.Mem.head _) (by decide +kernel)); obtain ⟨yb0, yc0, yf0, yl0⟩ := yd) | skip); (first | (have yd := facts_of (hF.at (List.Mem.tail _ (List.Mem.head _)) (by decide +kernel)); obtain ⟨yb1, yc1, yf1, yl1⟩ := yd) | skip); (first | (have yd := facts_of (hF.at (List.Mem.tail _ (List.Mem.tail _ (List.Mem.head _))) (by decide +kernel)); obtain ⟨yb2, yc2, yf2, yl2⟩ := yd) | skip); go_simp; (try (go_bits; go_simp)); first | done | rfl | (first | (go_at_call 37; first | ((with_reducible apply enc1_any kk1 kk3 kk_len.1 kk_len.2.2); first | exact yb0 | exact yb1) | (with_reducible exact CE.out _ HX.out _ (hS.cls hw').below) | (with_reducible exact CE.out _ HDX.out _ (hS.cls hw').below)) | (go_at_call 44; first | (with_reducible exact CD.out _ HX.out _ (hS.cls hw').below) | (with_reducible exact CD.out _ HEX.out _ (hS.cls hw').below))))); clear hK K; simp only [Act.put, List.setIfInBounds_toArray, List.set_cons_zero, List.set_cons_succ]))
    refine wpM_nil ?_
    intro p w' hc hF hN
    have hB := (hS.cls hc).below
    clear hF hN hc hS
    dsimp only
    go_wp2
    go_ret
    exact ⟨rfl, hB⟩
  · subst hvs
    have g60 : ¬ (n : Int) ≤ 60 := by omega
    clear hv hnn
    go_enter Try.func16, Try.ntmps16
    go_wp2
    go_ret
    exact ⟨rfl, (by repeat (first | exact Below.refl _ _ | assumption | refine Below.alloc ?_ (by first | omega | (simp; done) | (simp; omega)) _ | refine Below.drew ?_ | refine Below.setCell ?_ (by first | omega | (simp; done) | (simp; omega)) _ | refine below_setRow' ?_ (by first | omega | (simp; done) | (simp; omega)) _ | refine below_drewN' ?_ _))⟩
end Go.Proofs.Ytkfbfgjfdjhjdaa
