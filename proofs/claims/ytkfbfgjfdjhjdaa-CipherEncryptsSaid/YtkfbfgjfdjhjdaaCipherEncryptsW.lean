/-
  The law CipherEncrypts, walked. No condition.
-/
import Derived.Test.YtkfbfgjfdjhjdaaRefEncrypt
import Derived.Test.YtkfbfgjfdjhjdaaPartsW
import Derived.Test.YtkfbfgjfdjhjdaaGrow
namespace Go.Proofs.Ytkfbfgjfdjhjdaa
open Go.ChangeShapes Go.WideShapes Go.ChangeAt Go.RowKit
theorem keysAt_of {w : World} {v : Value} {ks : List (List UInt8)} (h : RowsAt w 16 v ks) : KeysAt w v ks := by
  obtain ⟨h1, p, c, h2, _, h3⟩ := h
  exact ⟨h1, p, c, h2, h3⟩
theorem rowsAt_of_gr {w0 wr : World} {e n m : Nat} {v : Value} {ks : List (List UInt8)} {L : List (Nat × Array Value × TypeId)} (hn : 0 < n) (hk : ∀ k ∈ ks, k.length = n) (hm : ks.length = m) (h : Gr w0 wr e n v m (flat ks) L) : RowsAt wr n v ks := by
  subst hm
  rcases h.own.2 with ⟨rfl, h0⟩ | ⟨g, cap, cur, rfl, _, h3, _, _, _, h7⟩
  · have : ks = [] := List.eq_nil_of_length_eq_zero h0
    subst this
    exact ⟨hk, none, 0, rfl, fun _ => rfl, fun i k hi => by simp at hi⟩
  · refine ⟨hk, _, cap, rfl, (fun h => by cases h), fun i k hi => ?_⟩
    obtain ⟨c1, c2⟩ := row_of_flat hn hk h7 hi
    exact ⟨g, 0, cur, e, _, rfl, h3, by omega, by rw [Nat.zero_add]; exact c2⟩
@[go_sem] theorem run_keys0 (w : World) : (buildSliceR 42 0 #[]).run Try.prog w = .ok (.slice (some ⟨w.heap.size, 0, none⟩) 0 0) (w.alloc (.cells #[] 25)) := by
  obtain ⟨ht, i, z, hi, hz, hsz, _⟩ := elemB_iff elem_42
  unfold buildSliceR
  rw [if_pos rfl]
  unfold Instr.buildSlice
  have e0 : ∀ f : Nat → Value, Array.map f (Array.range 0) = #[] := fun f => by apply Array.ext <;> simp
  simp [run_underlying ht, sizeOf, typeInfo, hi, Instr.fill, newRow, e0]
attribute [local irreducible] xorL sboxL subB
set_option maxRecDepth 100000 in
set_option maxHeartbeats 4000000 in
theorem cipherEncrypts_any (ks : List (List UInt8)) (x : List UInt8) (hx : x.length = 16) (v : Value) (w : World) (hv : RowsAt w 16 v ks) (hn : ks.length ≤ maxLen) :
    Calls Try.prog 13 #[v, .agg (bvs x)] w fun e w' => e = .returned (.bool true) ∧ Below w.heap.size w w' := by
  obtain ⟨n, hnn⟩ : ∃ n, n = ks.length := ⟨_, rfl⟩
  obtain ⟨p, c, hvs⟩ : ∃ p c, v = .slice p n c := by
    obtain ⟨_, p, c, h, _⟩ := hv; exact ⟨p, c, by rw [hnn]; exact h⟩
  unfold maxLen at hn
  rw [← hnn] at hn
  by_cases h60 : n ≤ 60
  · obtain ⟨E, hE⟩ : ∃ E : List UInt8, E = encN ks x ks.length := ⟨_, rfl⟩
    have cE : ∀ v' w', RowsAt w' 16 v' ks → Calls Try.prog 37 #[v', .agg (bvs x)] w' fun e w2 => e = .returned (.agg (bvs E)) ∧ Below w'.heap.size w' w2 := fun v' w' hb => by
      rw [hE]; exact encrypt_any ks x hx v' w' (keysAt_of hb) (by omega)
    have cR : ∀ w', Below w.heap.size w w' → Calls Try.prog 38 #[v, .agg (bvs x)] w' fun e w2 => e = .returned (.agg (bvs E)) ∧ Below w'.heap.size w' w2 := fun w' hb => by
      rw [hE]; exact refEncrypt_any ks x hx v w' (keysAt_of (hv.below hb)) (by omega)
    have lE : E.length = 16 := by rw [hE]; exact encN_len hv.1 hx _ (Nat.le_refl _)
    have q1 : (xorL kk3 kk1 == kk2) = true := by rw [kk_sum]; simp
    have s1 : csz (bvs x) = 16 := by rw [csz_bvs, hx]
    have s2 : csz (bvs kk1) = 16 := by rw [csz_bvs, kk_len.1]
    have s3 : csz (bvs kk2) = 16 := by rw [csz_bvs, kk_len.2.1]
    have s4 : csz (bvs kk3) = 16 := by rw [csz_bvs, kk_len.2.2]
    have s5 : csz (bvs (xorL kk3 kk1)) = 16 := by rw [kk_sum]; exact s3
    have s6 : csz (bvs E) = 16 := by rw [csz_bvs, lE]
    have CE := hid cE; have CR := hid cR; have HX := hid hx; have HV := hid hv
    have g60 : (n : Int) ≤ 60 := by omega
    subst hvs
    have hG : Gr w ((w.alloc (.cells (bvs x) 25)).alloc (.cells #[] 25)) 25 16 (.slice (some ⟨w.heap.size + 1, 0, none⟩) 0 0) 0 [] [(w.heap.size, bvs x, 25)] :=
      Gr.of (cs := #[]) (St.alloc' (St.alloc' (St.start w) (by first | rfl | simp)) (by first | rfl | simp)) (Nat.le_refl 0) (Nat.zero_le _) rfl
    have hsrc : SrcAt ((w.alloc (.cells (bvs x) 25)).alloc (.cells #[] 25)) (.slice p n c) 16 n (flat ks) := by
      have h1 := (hv.below (w' := (w.alloc (.cells (bvs x) 25)).alloc (.cells #[] 25)) (by repeat (first | exact Below.refl _ _ | assumption | refine Below.alloc ?_ (by first | omega | (simp; done) | (simp; omega)) _ | refine Below.drew ?_ | refine Below.setCell ?_ (by first | omega | (simp; done) | (simp; omega)) _ | refine below_setRow' ?_ (by first | omega | (simp; done) | (simp; omega)) _ | refine below_drewN' ?_ _))).src (by omega)
      rwa [← hnn] at h1
    have hb1 : 0 + n ≤ maxLen := by unfold maxLen; omega
    have hb2 : (0 + n) * 16 ≤ 140737488355328 := by omega
    have HG := hid hG; have HSRC := hid hsrc; have HB1 := hid hb1; have HB2 := hid hb2
    have HN := hid hnn
    clear cE cR hE hx hv hnn hG hsrc hb1 hb2
    have z := zs16; have e0 := zs_ne; have e1 := kk1_set; have e2 := kk2_set; have e3 := kk3_set
    go_enter Try.func13, Try.ntmps13
    go_wp2_with (at_builtin; refine wp_append elem_42 rfl rfl HG.out rfl rfl HSRC.out HB1.out HB2.out ?_; intro v2 w2 hG2 _; rw [Nat.zero_add, List.nil_append] at hG2; obtain ⟨kb0, kc0, kf0, kl0, kn0⟩ := hG2.st.at 0 rfl)
    have hK2 := rowsAt_of_gr (by omega) HV.out.1 HN.out.symm hG2
    have HK2 := hid hK2
    have HG2 := hid hG2
    clear hK2 hG2
    with_reducible refine (CE.out v2 _ HK2.out).mono ?_
    rintro e w3 ⟨rfl, hb⟩
    have hG3 := HG2.out.call hb
    have hK3 := HK2.out.below hb
    clear HG2 HK2 hb kb0 kc0 kf0 kl0 kn0
    have hlen2 : ∃ p2 c2, v2 = .slice p2 n c2 := by
      obtain ⟨_, p2, c2, h2, _⟩ := hK3
      exact ⟨p2, c2, by rw [HN.out]; exact h2⟩
    obtain ⟨p2, c2, hv2⟩ := hlen2
    rw [hv2] at hK3 hG3 ⊢
    clear hv2
    go_wp2_with fail
    have hG4 := hG3.alloc (bvs E) 25
    clear hG3
    have hK4 := hK3.below (w' := w3.alloc (.cells (bvs E) 25)) ((Below.refl _ _).alloc (Nat.le_refl _) _)
    clear hK3
    generalize w3.alloc (.cells (bvs E) 25) = W at *
    generalize w3.heap.size = n3 at *
    have HK4 := hid hK4
    have hS4 := hG4.st
    clear hK4 hG4
    go_loopw [7, 19] (fun u7 u19 wr => ∃ k : Nat, k ≤ n ∧ u19 = .int .i64 k ∧ St w wr [(n3, bvs E, 25), (w.heap.size, bvs x, 25)] ∧ RowsAt wr 16 (.slice p2 n c2) ks)
      (fun _ i _ => n - (intOf i).toNat)
    case atStart => exact ⟨0, by omega, rfl, hS4, HK4.out⟩
    case round =>
      clear hS4 HK4
      obtain ⟨k, hk, rfl, hS, hK⟩ := hrel
      by_cases hlt : k < n
      · have hkn : k < ks.length := by rw [← HN.out]; exact hlt
        obtain ⟨hkey, b1, o1, cs1, t1, fr1, hp1, hb1, hf1, hc1⟩ := hK.row (List.getElem?_eq_getElem hkn)
        obtain ⟨_, b2, o2, cs2, t2, fr2, hp2, hb2, hf2, hc2⟩ := (HV.out.below hS.below).row (List.getElem?_eq_getElem hkn)
        have HK := hid hK
        generalize ks[k] = key at *
        have s7 : csz (bvs key) = 16 := by rw [csz_bvs, hkey]
        have HP := hid hp1
        clear hK hkey hkn
        subst hp1 hp2
        have hlt2 : (k : Int) < (n : Int) := by omega
        go_wp2_with fail
        refine region_cls (by kernel_rfl) (by kernel_rfl) ?_
        repeat (first | (refine BigFrame.wpQuiet_skip rfl ?_; simp only [Act.put, List.setIfInBounds_toArray, List.set_cons_zero, List.set_cons_succ]) | (refine BigFrame.wpQuiet_want rfl (fun K hK => ?_); apply Exists.intro; refine ⟨fun w' hw' => ?_, hK _ ?_⟩; (focus (have zS := hS.cls hw'; obtain ⟨zb0, zc0, zf0, zl0, zn0⟩ := zS.at 0 rfl; obtain ⟨zb1, zc1, zl1⟩ := hw'.keepF hb1; obtain ⟨zb2, zc2, zl2⟩ := hw'.keepF hb2; clear zS; go_simp; (try (go_bits; go_simp)); first | done | rfl | (fail))); clear hK K; simp only [Act.put, List.setIfInBounds_toArray, List.set_cons_zero, List.set_cons_succ]))
        refine wpQuiet_nil ?_
        intro w4 hc
        have hS2 := hS.cls hc
        have HK2 := hid (HK.out.below hc)
        clear hS hc HK hb1 hb2
        go_wp2
        go_roundw
        case rel => exact ⟨k + 1, by omega, by go_num, hS2, HK2.out⟩
        case measure => simp [intOf]; omega
      · obtain rfl : k = n := by omega
        have hV := hid (HV.out.below hS.below)
        have HS := hid hS
        clear hK hlt hk
        go_wp2_with fail
        generalize hWW : wr = W5 at *
        clear hWW
        have hS := HS.out
        refine region_mono_lit 13 (by kernel_rfl) (by kernel_rfl) ?_
        dsimp only [List.take, List.drop]
        repeat (first | (refine wpM_skip (fun _ => rfl) ?_; simp only [Act.put, List.setIfInBounds_toArray, List.set_cons_zero, List.set_cons_succ]) | (refine wpM_alloc rfl (fun _ => rfl) _ (by intro w; go_simp; rfl) ?_; simp only [Act.put, List.setIfInBounds_toArray, List.set_cons_zero, List.set_cons_succ]) | (refine wpM_slice' rfl (fun _ => rfl) (fun K hK => ?_); apply Exists.intro; apply Exists.intro; apply Exists.intro; apply Exists.intro; refine ⟨fun pB w' hw' hF => ?_, hK _ _ ?_⟩; (focus (have zS := hS.cls hw'; obtain ⟨zb0, zc0, zf0, zl0, zn0⟩ := zS.at 0 rfl; obtain ⟨zb1, zc1, zf1, zl1, zn1⟩ := zS.at 1 rfl; clear zS; (first | (have yd := facts_of (hF.at (List.Mem.head _) (by decide +kernel)); obtain ⟨yb0, yc0, yf0, yl0⟩ := yd) | skip); (first | (have yd := facts_of (hF.at (List.Mem.tail _ (List.Mem.head _)) (by decide +kernel)); obtain ⟨yb1, yc1, yf1, yl1⟩ := yd) | skip); (first | (have yd := facts_of (hF.at (List.Mem.tail _ (List.Mem.tail _ (List.Mem.head _))) (by decide +kernel)); obtain ⟨yb2, yc2, yf2, yl2⟩ := yd) | skip); go_simp; (first | done | rfl | exact ⟨⟨rfl, rfl⟩, rfl⟩ | (refine ⟨?_, ?_⟩ <;> rfl) | (refine ⟨⟨?_, ?_⟩, ?_⟩ <;> rfl) | (refine ⟨⟨?_, ?_⟩, ⟨?_, ?_⟩⟩ <;> rfl)))); clear hK K; simp only [Act.put, List.setIfInBounds_toArray, List.set_cons_zero, List.set_cons_succ]) | (refine wpM_want (fun _ => rfl) (fun K hK => ?_); apply Exists.intro; refine ⟨fun pB w' hw' hF => ?_, hK _ _ ?_⟩; (focus (have zS := hS.cls hw'; obtain ⟨zb0, zc0, zf0, zl0, zn0⟩ := zS.at 0 rfl; obtain ⟨zb1, zc1, zf1, zl1, zn1⟩ := zS.at 1 rfl; clear zS; (first | (have yd := facts_of (hF.at (List.Mem.head _) (by decide +kernel)); obtain ⟨yb0, yc0, yf0, yl0⟩ := yd) | skip); (first | (have yd := facts_of (hF.at (List.Mem.tail _ (List.Mem.head _)) (by decide +kernel)); obtain ⟨yb1, yc1, yf1, yl1⟩ := yd) | skip); (first | (have yd := facts_of (hF.at (List.Mem.tail _ (List.Mem.tail _ (List.Mem.head _))) (by decide +kernel)); obtain ⟨yb2, yc2, yf2, yl2⟩ := yd) | skip); go_simp; (try (go_bits; go_simp)); first | done | rfl | (first | (go_at_call 37; ((with_reducible apply enc1_any kk1 kk3 kk_len.1 kk_len.2.2); first | exact yb0 | exact yb1)) | (go_at_call 38; exact CR.out _ (hS.cls hw').below)))); clear hK K; simp only [Act.put, List.setIfInBounds_toArray, List.set_cons_zero, List.set_cons_succ]))
        refine wpM_nil ?_
        intro p w' hc hF hN
        have hB := (hS.cls hc).below
        clear hF hN hc hS HS
        dsimp only
        go_wp2
        go_ret
        exact ⟨rfl, hB⟩
  · subst hvs
    have g60 : ¬ (n : Int) ≤ 60 := by omega
    clear hv hnn
    go_enter Try.func13, Try.ntmps13
    go_wp2
    go_ret
    exact ⟨rfl, (by repeat (first | exact Below.refl _ _ | assumption | refine Below.alloc ?_ (by first | omega | (simp; done) | (simp; omega)) _ | refine Below.drew ?_ | refine Below.setCell ?_ (by first | omega | (simp; done) | (simp; omega)) _ | refine below_setRow' ?_ (by first | omega | (simp; done) | (simp; omega)) _ | refine below_drewN' ?_ _))⟩
end Go.Proofs.Ytkfbfgjfdjhjdaa
