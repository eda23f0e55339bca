/-
  The law TweakAlone: for every key, number, text, place and byte it answers true. No condition.
-/
import Derived.Test.YtbofahaphgnblaaRows
import Derived.Test.YtbofahaphgnblaaJC0

namespace Go.Proofs.Ytbofahaphgnblaa
open Go.ChangeShapes Go.WideShapes Go.ChangeAt Go.RowKit
theorem alone_eq {key : List UInt8} (hk : key.length = 32 ∨ key.length = 64) (n : Nat) {T : List UInt8} {m kk : Nat} (hT : T.length = 16 * m) (hkk : kk < 16 * m) {y : UInt8} (hy : y ≠ T.getD kk 0) {j : Nat} (hj : j < m) :
    (blockAt (hideV key n T) j == blockAt (hideV key n (T.set kk y)) j) = decide (kk / 16 ≠ j) := by
  have e1 : hideV key n T = headL (hideB (key.take (key.length / 2))) (tweakV (key.drop (key.length / 2)) n) T m := by
    unfold hideV turnL
    rw [if_pos (by omega), hT, show 16 * m / 16 = m by omega]
  have e2 : hideV key n (T.set kk y) = headL (hideB (key.take (key.length / 2))) (tweakV (key.drop (key.length / 2)) n) (T.set kk y) m := by
    unfold hideV turnL
    rw [if_pos (by rw [List.length_set]; omega), List.length_set, hT, show 16 * m / 16 = m by omega]
  have h1 := headL_same (hide_wide hk n) (g := showB (key.take (key.length / 2))) (fun j _ hx => show_hide (halves_len hk).1 (tweakV_len (halves_len hk).2 n j) hx) (l := T) (l' := T.set kk y) (m := m) (i := j) (by omega) (by rw [List.length_set]; omega) hj
  have h2 := block_set (l := T) (k := kk) (b := y) (by omega) hy (i := j)
  rw [e1, e2, Bool.eq_iff_iff, beq_iff_eq, decide_eq_true_eq, h1, ← h2]
  exact eq_comm
theorem or_one_ne (x b : UInt8) : x ^^^ (1 ||| b) ≠ x := by
  intro h
  have h1 : (x ^^^ (1 ||| b)) ^^^ x = 0 := by rw [h, UInt8.xor_self]
  rw [UInt8.xor_comm, ← UInt8.xor_assoc, UInt8.xor_self, UInt8.zero_xor] at h1
  have h2 := congrArg (fun z : UInt8 => z.toNat.testBit 0) h1
  simp [Nat.testBit_or] at h2
end Go.Proofs.Ytbofahaphgnblaa

namespace Go.Proofs.Ytbofahaphgnblaa
open Go.ChangeShapes Go.WideShapes Go.ChangeAt Go.RowKit
attribute [local irreducible] xorL sboxL subB sealV openV
theorem grow_grow (w : World) (g h : Laid) : grow (grow w g) h = grow w ⟨g.objs ++ h.objs, h.drawn⟩ := by
  unfold grow
  simp only [Array.append_assoc]
theorem or_u8 (b : UInt8) : bits .or .u8 1 (b.toNat : Int) = ((1 ||| b : UInt8).toNat : Int) := by
  have h : ∀ n : Fin 256, bits .or .u8 1 (((UInt8.ofNat n).toNat : Int)) = ((1 ||| (UInt8.ofNat n) : UInt8).toNat : Int) := by decide +kernel
  have := h ⟨b.toNat, b.toNat_lt⟩
  simpa using this
set_option maxRecDepth 100000 in
set_option maxHeartbeats 4000000 in
theorem apart_any (key l : List UInt8) (n at' : Int) (b : UInt8) (v tv : Value) (w : World) (hv : BytesAt w v key) (ht : BytesAt w tv l) :
    Calls Try.prog 32 #[v, .int .i64 n, tv, .int .i64 at', .int .u8 (b.toNat : Int)] w fun e w' => e = .returned (.bool true) ∧ Below w.heap.size w w' := by
  obtain ⟨p, c, rfl, hc⟩ := hv.slice
  obtain ⟨tp, tc, rfl, htc⟩ := ht.slice
  have A := hid alive6_any
  by_cases hk : key.length = 32 ∨ key.length = 64
  · by_cases hl : l.length < 16 ∨ 2000 < l.length
    · generalize key.length = nk at *
      generalize l.length = nt at *
      clear hv ht
      rcases hl with hl | hl
      · have t1 : decide ((nt : Int) < 16) = true := by simp; omega
        rcases hk with rfl | rfl
        all_goals
          go_enter Try.func32, Try.ntmps32
          go_wp2_with fail
          (with_reducible refine (A.out _).mono ?_)
          rintro e wg ⟨rfl, hb⟩
          obtain ⟨g1, rfl⟩ := grow_of hb
          clear hb
          go_wp2
          go_ret
          exact ⟨rfl, (by repeat (first | (with_reducible exact Below.refl _ _) | (with_reducible assumption) | (with_reducible exact grow_below _ _) | (with_reducible exact St.below (by assumption)) | (with_reducible refine below_grow ?_ _) | (with_reducible refine Below.alloc ?_ (by first | omega | (simp; done) | (simp [go_sem]; done) | (simp [go_sem]; omega)) _) | (with_reducible exact (St.put1 (by assumption) _).below) | (with_reducible exact (St.put2 (by assumption) _ _).below) | (with_reducible exact (St.put3 (by assumption) _ _ _).below) | (with_reducible exact (St.put4 (by assumption) _ _ _ _).below) | (with_reducible refine below_put ?_ (by first | omega | (simp [go_sem]; omega)) _ _) | (with_reducible refine Below.drew ?_) | (with_reducible refine Below.setCell ?_ (by first | omega | (simp [go_sem]; omega)) _) | (with_reducible refine below_setRow' ?_ (by first | omega | (simp [go_sem]; omega)) _) | (with_reducible refine below_drewN' ?_ _)))⟩
      · have t1 : decide ((nt : Int) < 16) = false := by simp; omega
        have t2 : decide (2000 < (nt : Int)) = true := by simp; omega
        rcases hk with rfl | rfl
        all_goals
          go_enter Try.func32, Try.ntmps32
          go_wp2_with fail
          (with_reducible refine (A.out _).mono ?_)
          rintro e wg ⟨rfl, hb⟩
          obtain ⟨g1, rfl⟩ := grow_of hb
          clear hb
          go_wp2
          go_ret
          exact ⟨rfl, (by repeat (first | (with_reducible exact Below.refl _ _) | (with_reducible assumption) | (with_reducible exact grow_below _ _) | (with_reducible exact St.below (by assumption)) | (with_reducible refine below_grow ?_ _) | (with_reducible refine Below.alloc ?_ (by first | omega | (simp; done) | (simp [go_sem]; done) | (simp [go_sem]; omega)) _) | (with_reducible exact (St.put1 (by assumption) _).below) | (with_reducible exact (St.put2 (by assumption) _ _).below) | (with_reducible exact (St.put3 (by assumption) _ _ _).below) | (with_reducible exact (St.put4 (by assumption) _ _ _ _).below) | (with_reducible refine below_put ?_ (by first | omega | (simp [go_sem]; omega)) _ _) | (with_reducible refine Below.drew ?_) | (with_reducible refine Below.setCell ?_ (by first | omega | (simp [go_sem]; omega)) _) | (with_reducible refine below_setRow' ?_ (by first | omega | (simp [go_sem]; omega)) _) | (with_reducible refine below_drewN' ?_ _)))⟩
    · have h1 : 16 ≤ l.length := by omega
      have h2 : l.length ≤ 2000 := by omega
      obtain ⟨m, hm⟩ : ∃ m, m = l.length / 16 := ⟨_, rfl⟩
      obtain ⟨N, hN⟩ : ∃ N, N = 16 * m := ⟨_, rfl⟩
      obtain ⟨T, hT⟩ : ∃ T, T = l.take N := ⟨_, rfl⟩
      have lT : T.length = N := by rw [hT, List.length_take]; omega
      have m1 : 1 ≤ m := by omega
      have m2 : m ≤ 125 := by omega
      obtain ⟨kk, hkk⟩ : ∃ kk, kk = u64N at' % N := ⟨_, rfl⟩
      have k1 : kk < N := by rw [hkk]; exact Nat.mod_lt _ (by omega)
      obtain ⟨z1, hz1⟩ : ∃ z1, z1 = 1 ||| b := ⟨_, rfl⟩
      obtain ⟨y, hy⟩ : ∃ y, y = T.getD kk 0 ^^^ z1 := ⟨_, rfl⟩
      have HT0 := hid (ht.take N (by omega))
      rw [← hT] at HT0
      have LH := hideV_len hk (u64N n) (l := T) (by omega)
      have LG := hideV_len hk (u64N n) (l := T.set kk y) (by rw [List.length_set]; omega)
      rw [List.length_set] at LG
      have HQ := hid (fun j (hj : j < m) => alone_eq hk (u64N n) (T := T) (m := m) (kk := kk) (by rw [lT, hN]) (by rw [← hN]; exact k1) (y := y) (by rw [hy, hz1]; exact or_one_ne _ _) hj)
      have B1 := hid (fun v tv w (hv : BytesAt w v key) (ht : BytesAt w tv T) => hide_g key T hk (by omega) (by omega) n v tv w hv ht)
      have B2 := hid (fun v tv w (hv : BytesAt w v key) (ht : BytesAt w tv (T.set kk y)) => hide_g key (T.set kk y) hk (by rw [List.length_set]; omega) (by rw [List.length_set]; omega) n v tv w hv ht)
      rw [lT] at B1
      rw [List.length_set, lT] at B2
      rw [lT] at LH LG
      have HXK := hid (bvs_get (l := T) (k := kk) (by omega))
      have HV := hid hv
      have HLH := hid LH; have HLG := hid LG; have HLT := hid lT
      have hdiv : ((l.length : Int).tdiv 16) = (m : Int) := by rw [Int.tdiv_eq_ediv_of_nonneg (by omega), hm]; omega
      have hKt := (show (IntKind.u64.wrap at').tmod (N : Int) = (kk : Int) by
        rw [u64N_is, hkk, Int.tmod_eq_emod_of_nonneg (by omega)]; exact (Int.natCast_emod _ _).symm)
      have HY := hid hy
      have ho := or_u8 b
      rw [← hz1] at ho
      generalize hideV key (u64N n) T = H at *
      generalize hideV key (u64N n) (T.set kk y) = G at *
      have HNT := hid htc
      have qN : (m : Int) * 16 = (N : Int) := by omega
      have q1 : 0 ≤ (N : Int) := by omega
      have q2 : (N : Int) ≤ (tc : Int) := by omega
      have q3 : ((N : Int)).toNat = N := by omega
      have q4 : ¬ tc = 0 := by omega
      have q5 : N ≤ tc := by omega
      have HTN := hid (show 0 < N ∧ N ≤ 1000000000 by omega)
      have HN := hid hN
      clear hv ht LH LG hy hz1 hkk hT hm lT hN
      generalize l.length = nt at *
      generalize key.length = nk at *
      have t1 : decide ((nt : Int) < 16) = false := by simp; omega
      have t2 : decide (2000 < (nt : Int)) = false := by simp; omega
      rcases hk with rfl | rfl
      all_goals
        go_enter Try.func32, Try.ntmps32
        go_wp2_with fail
        (with_reducible refine (A.out _).mono ?_)
        rintro e wg ⟨rfl, hb⟩
        obtain ⟨g1, rfl⟩ := grow_of hb
        clear hb
        go_wp2_with (at_builtin; refine wp_append_empty rfl rfl rfl rfl (HT0.out.below (by repeat (first | (with_reducible exact Below.refl _ _) | (with_reducible assumption) | (with_reducible exact grow_below _ _) | (with_reducible exact St.below (by assumption)) | (with_reducible refine below_grow ?_ _) | (with_reducible refine Below.alloc ?_ (by first | omega | (simp; done) | (simp [go_sem]; done) | (simp [go_sem]; omega)) _) | (with_reducible exact (St.put1 (by assumption) _).below) | (with_reducible exact (St.put2 (by assumption) _ _).below) | (with_reducible exact (St.put3 (by assumption) _ _ _).below) | (with_reducible exact (St.put4 (by assumption) _ _ _ _).below) | (with_reducible refine below_put ?_ (by first | omega | (simp [go_sem]; omega)) _ _) | (with_reducible refine Below.drew ?_) | (with_reducible refine Below.setCell ?_ (by first | omega | (simp [go_sem]; omega)) _) | (with_reducible refine below_setRow' ?_ (by first | omega | (simp [go_sem]; omega)) _) | (with_reducible refine below_drewN' ?_ _)))) HLT.out HTN.out.1 HTN.out.2 ?_; intro k hk)
        (with_reducible refine (B1.out _ _ _ (HV.out.below (by repeat (first | (with_reducible exact Below.refl _ _) | (with_reducible assumption) | (with_reducible exact grow_below _ _) | (with_reducible exact St.below (by assumption)) | (with_reducible refine below_grow ?_ _) | (with_reducible refine Below.alloc ?_ (by first | omega | (simp; done) | (simp [go_sem]; done) | (simp [go_sem]; omega)) _) | (with_reducible exact (St.put1 (by assumption) _).below) | (with_reducible exact (St.put2 (by assumption) _ _).below) | (with_reducible exact (St.put3 (by assumption) _ _ _).below) | (with_reducible exact (St.put4 (by assumption) _ _ _ _).below) | (with_reducible refine below_put ?_ (by first | omega | (simp [go_sem]; omega)) _ _) | (with_reducible refine Below.drew ?_) | (with_reducible refine Below.setCell ?_ (by first | omega | (simp [go_sem]; omega)) _) | (with_reducible refine below_setRow' ?_ (by first | omega | (simp [go_sem]; omega)) _) | (with_reducible refine below_drewN' ?_ _)))) (bytesAt_pre (R := zs k) (by go_simp; first | done | rfl | exact ⟨rfl, rfl⟩) HLT.out (by omega))).mono ?_)
        rintro e wz ⟨ga, gb, rfl, rfl⟩
        have hx := bvs_get (l := T ++ zs k) (k := kk) (by rw [List.length_append, HLT.out]; omega)
        rw [show (T ++ zs k).getD kk 0 = T.getD kk 0 by rw [List.getD_eq_getElem?_getD, List.getD_eq_getElem?_getD, List.getElem?_append_left (by rw [HLT.out]; exact k1)]] at hx
        have hs : csz (bvs (T ++ zs k)) = N + k := by rw [csz_bvs, List.length_append, HLT.out, zs_len]
        have hST := hid (show (bvs (T ++ zs k)).setIfInBounds kk (.int .u8 (y.toNat : Int)) = bvs (T.set kk y ++ zs k) by rw [bvs_set, List.set_append_left _ _ (by rw [HLT.out]; exact k1)])
        generalize T.getD kk 0 = x0 at *
        have hxo := xor_u8 x0 z1
        rw [← HY.out] at hxo
        generalize bvs (T ++ zs k) = cT at *
        go_wp2_with fail
        rw [hST.out]
        (with_reducible refine (B2.out _ _ _ (HV.out.below (by repeat (first | (with_reducible exact Below.refl _ _) | (with_reducible assumption) | (with_reducible exact grow_below _ _) | (with_reducible exact St.below (by assumption)) | (with_reducible refine below_grow ?_ _) | (with_reducible refine Below.alloc ?_ (by first | omega | (simp; done) | (simp [go_sem]; done) | (simp [go_sem]; omega)) _) | (with_reducible exact (St.put1 (by assumption) _).below) | (with_reducible exact (St.put2 (by assumption) _ _).below) | (with_reducible exact (St.put3 (by assumption) _ _ _).below) | (with_reducible exact (St.put4 (by assumption) _ _ _ _).below) | (with_reducible refine below_put ?_ (by first | omega | (simp [go_sem]; omega)) _ _) | (with_reducible refine Below.drew ?_) | (with_reducible refine Below.setCell ?_ (by first | omega | (simp [go_sem]; omega)) _) | (with_reducible refine below_setRow' ?_ (by first | omega | (simp [go_sem]; omega)) _) | (with_reducible refine below_drewN' ?_ _)))) (bytesAt_pre (R := zs k) (by go_simp; first | done | rfl | exact ⟨rfl, rfl⟩) (by rw [List.length_set, HLT.out]) (by omega))).mono ?_)
        rintro e wz ⟨gc, gd, rfl, rfl⟩
        go_wp2_with fail
        have hBW : Below w.heap.size w (grow ((grow (grow ((grow (((grow w g1).alloc (.cells (bvs []) 5)).alloc (.cells (bvs (T.set kk y ++ zs k)) 5)) ga).alloc (.cells (bvs H) 5)) gb) gc).alloc (.cells (bvs G) 5)) gd) := (by repeat (first | (with_reducible exact Below.refl _ _) | (with_reducible assumption) | (with_reducible exact grow_below _ _) | (with_reducible exact St.below (by assumption)) | (with_reducible refine below_grow ?_ _) | (with_reducible refine Below.alloc ?_ (by first | omega | (simp; done) | (simp [go_sem]; done) | (simp [go_sem]; omega)) _) | (with_reducible exact (St.put1 (by assumption) _).below) | (with_reducible exact (St.put2 (by assumption) _ _).below) | (with_reducible exact (St.put3 (by assumption) _ _ _).below) | (with_reducible exact (St.put4 (by assumption) _ _ _ _).below) | (with_reducible refine below_put ?_ (by first | omega | (simp [go_sem]; omega)) _ _) | (with_reducible refine Below.drew ?_) | (with_reducible refine Below.setCell ?_ (by first | omega | (simp [go_sem]; omega)) _) | (with_reducible refine below_setRow' ?_ (by first | omega | (simp [go_sem]; omega)) _) | (with_reducible refine below_drewN' ?_ _)))
        have hbH : blk (grow ((grow (grow ((grow (((grow w g1).alloc (.cells (bvs []) 5)).alloc (.cells (bvs (T.set kk y ++ zs k)) 5)) ga).alloc (.cells (bvs H) 5)) gb) gc).alloc (.cells (bvs G) 5)) gd) (w.heap.size + (g1.n + (2 + ga.n))) = some (.cells (bvs H) 5 (0, 0)) := (by go_simp; first | done | rfl | exact ⟨rfl, rfl⟩)
        have hbG : blk (grow ((grow (grow ((grow (((grow w g1).alloc (.cells (bvs []) 5)).alloc (.cells (bvs (T.set kk y ++ zs k)) 5)) ga).alloc (.cells (bvs H) 5)) gb) gc).alloc (.cells (bvs G) 5)) gd) (w.heap.size + (g1.n + (2 + (ga.n + (1 + (gb.n + gc.n)))))) = some (.cells (bvs G) 5 (0, 0)) := (by go_simp; first | done | rfl | exact ⟨rfl, rfl⟩)
        generalize grow ((grow (grow ((grow (((grow w g1).alloc (.cells (bvs []) 5)).alloc (.cells (bvs (T.set kk y ++ zs k)) 5)) ga).alloc (.cells (bvs H) 5)) gb) gc).alloc (.cells (bvs G) 5)) gd = W at *
        generalize w.heap.size + (g1.n + (2 + ga.n)) = bh at *
        generalize w.heap.size + (g1.n + (2 + (ga.n + (1 + (gb.n + gc.n))))) = bg at *
        have HB := hid hBW; have HBH := hid hbH; have HBG := hid hbG
        have HKK := hid k1
        clear hBW hbH hbG hxo ho hKt hdiv hx hs qN q2 q4 q5 k1
        go_loopw [16, 17] (fun u16 _ wr => ∃ (j : Nat) (g : Laid), j ≤ m ∧ u16 = .int .i64 ((16 * j : Nat) : Int) ∧ wr = grow W g) (fun u16 _ _ => m - (intOf u16).toNat / 16)
        case atStart => exact ⟨0, ⟨#[], W.drawn⟩, by omega, rfl, by simp [grow]⟩
        case round =>
          obtain ⟨j, g, hj, rfl, rfl⟩ := hrel
          by_cases hlt : j < m
          · have hp : 16 * j + 16 ≤ N := by have := HN.out; omega
            have T1 := fun gx => ((bytesAt_bvs (o := 16 * j) (n := 16) (c := N - 16 * j) HBH.out (by rw [HLH.out]; omega) (by omega)).below (below_grow (grow_below W g) gx)).text (P := Try.prog) Try.underlying22 Try.underlying5 Try.underlying9
            have T2 := fun gx => ((bytesAt_bvs (o := 16 * j) (n := 16) (c := N - 16 * j) HBG.out (by rw [HLG.out]; omega) (by omega)).below (below_grow (grow_below W g) gx)).text (P := Try.prog) Try.underlying22 Try.underlying5 Try.underlying9
            have hq := HQ.out j hlt
            unfold blockAt at hq
            have d1 : ((kk : Int)).tdiv 16 = ((kk / 16 : Nat) : Int) := by rw [Int.tdiv_eq_ediv_of_nonneg (by omega)]; omega
            have d2 : (((16 * j : Nat) : Int)).tdiv 16 = (j : Int) := by rw [Int.tdiv_eq_ediv_of_nonneg (by omega)]; omega
            generalize ((H.drop (16 * j)).take 16) = Hj at *
            generalize ((G.drop (16 * j)).take 16) = Gj at *
            have HJ := hid (show (m - (intOf (.int .i64 ((16 * j : Nat) : Int))).toNat / 16) = m - j by simp [intOf]; omega)
            have HJ2 := hid (show (((16 * j : Nat) : Int) + 16) = ((16 * (j + 1) : Nat) : Int) by omega)
            have b1 : 16 * j < N := by omega
            have b2 : 0 ≤ ((16 * j : Nat) : Int) := by omega
            have b3 : ((16 * j : Nat) : Int) + 16 ≤ (N : Int) := by omega
            have b4 : (((16 * j : Nat) : Int) + 16).toNat = 16 * j + 16 := by omega
            have b5 : (((16 * j : Nat) : Int)).toNat = 16 * j := by omega
            have b6 : ((16 * j : Nat) : Int) ≤ ((16 * j : Nat) : Int) + 16 := by omega
            have b7 : ¬ N = 16 * j := by omega
            have b8 : 0 ≤ ((16 * j : Nat) : Int) + 16 := by omega
            have b9 : 16 * j + 16 - 16 * j = 16 := by omega
            have b0 : wrap64 (((16 * j : Nat) : Int) + 16) = ((16 * j : Nat) : Int) + 16 := by have := HN.out; unfold wrap64; omega
            have HP := hid hp
            have HBN := hid (show N ≤ 2000 by have := HN.out; omega)
            by_cases hkj : kk / 16 = j
            · have e1 : (Hj == Gj) = false := by rw [hq]; simp; exact hkj
              rw [hkj] at d1
              clear hq hp
              generalize hpl : 16 * j = pl at *
              have HPL := hid hpl
              clear hpl
              go_wp2_with fail
              refine region_cls (by kernel_rfl) (by kernel_rfl) ?_
              repeat (first | (refine BigFrame.wpQuiet_skip rfl ?_; simp only [Act.put, List.setIfInBounds_toArray, List.set_cons_zero, List.set_cons_succ]) | (refine BigFrame.wpQuiet_want rfl (fun K hK => ?_); apply Exists.intro; refine ⟨fun w' hw' => ?_, hK _ ?_⟩; (focus (have zw := hw'; obtain ⟨zg, rfl⟩ := grow_of hw'; go_simp; (try (go_bits; go_simp)); first | done | rfl | (fail))); clear hK K; simp only [Act.put, List.setIfInBounds_toArray, List.set_cons_zero, List.set_cons_succ]))
              refine wpQuiet_nil ?_
              intro wq hcq
              obtain ⟨gq, rfl⟩ := grow_of hcq
              clear hcq
              go_wp2
              refine ⟨⟨j + 1, _, hlt, ?_, grow_grow ..⟩, ?_⟩
              · rw [b0, HJ2.out]
              · rw [b0, HJ2.out, HJ.out]; simp [intOf]; omega
            · have e1 : (Hj == Gj) = true := by rw [hq]; simp; exact hkj
              have e2 : (((kk / 16 : Nat) : Int) != (j : Int)) = true := by simp; omega
              have e6 : wrap64 (((kk / 16 : Nat) : Int)) = ((kk / 16 : Nat) : Int) := by have := HKK.out; have := HBN.out; unfold wrap64; omega
              generalize kk / 16 = kq at *
              clear hq hp
              generalize hpl : 16 * j = pl at *
              have HPL := hid hpl
              clear hpl
              go_wp2_with fail
              refine region_cls (by kernel_rfl) (by kernel_rfl) ?_
              repeat (first | (refine BigFrame.wpQuiet_skip rfl ?_; simp only [Act.put, List.setIfInBounds_toArray, List.set_cons_zero, List.set_cons_succ]) | (refine BigFrame.wpQuiet_want rfl (fun K hK => ?_); apply Exists.intro; refine ⟨fun w' hw' => ?_, hK _ ?_⟩; (focus (have zw := hw'; obtain ⟨zg, rfl⟩ := grow_of hw'; go_simp; (try (go_bits; go_simp)); first | done | rfl | (fail))); clear hK K; simp only [Act.put, List.setIfInBounds_toArray, List.set_cons_zero, List.set_cons_succ]))
              refine wpQuiet_nil ?_
              intro wq hcq
              obtain ⟨gq, rfl⟩ := grow_of hcq
              clear hcq
              go_wp2
              refine ⟨⟨j + 1, _, hlt, ?_, grow_grow ..⟩, ?_⟩
              · rw [b0, HJ2.out]
              · rw [b0, HJ2.out, HJ.out]; simp [intOf]; omega
          · obtain rfl : j = m := by omega
            have b1 : ¬ 16 * j < N := by have := HN.out; omega
            generalize 16 * j = pl at *
            go_wp2
            go_ret
            exact ⟨rfl, below_grow HB.out g⟩
  · generalize key.length = nk at *
    generalize l.length = nt at *
    have t1 : ((nk : Int) != 32) = true := by simp; omega
    have t2 : ((nk : Int) != 64) = true := by simp; omega
    have t3 : ((nk : Int) == 32) = false := by simp; omega
    have t4 : ((nk : Int) == 64) = false := by simp; omega
    clear hv ht
    go_enter Try.func32, Try.ntmps32
    go_wp2_with fail
    (with_reducible refine (A.out _).mono ?_)
    rintro e wg ⟨rfl, hb⟩
    obtain ⟨g1, rfl⟩ := grow_of hb
    clear hb
    go_wp2
    go_ret
    exact ⟨rfl, (by repeat (first | (with_reducible exact Below.refl _ _) | (with_reducible assumption) | (with_reducible exact grow_below _ _) | (with_reducible exact St.below (by assumption)) | (with_reducible refine below_grow ?_ _) | (with_reducible refine Below.alloc ?_ (by first | omega | (simp; done) | (simp [go_sem]; done) | (simp [go_sem]; omega)) _) | (with_reducible exact (St.put1 (by assumption) _).below) | (with_reducible exact (St.put2 (by assumption) _ _).below) | (with_reducible exact (St.put3 (by assumption) _ _ _).below) | (with_reducible exact (St.put4 (by assumption) _ _ _ _).below) | (with_reducible refine below_put ?_ (by first | omega | (simp [go_sem]; omega)) _ _) | (with_reducible refine Below.drew ?_) | (with_reducible refine Below.setCell ?_ (by first | omega | (simp [go_sem]; omega)) _) | (with_reducible refine below_setRow' ?_ (by first | omega | (simp [go_sem]; omega)) _) | (with_reducible refine below_drewN' ?_ _)))⟩
end Go.Proofs.Ytbofahaphgnblaa

namespace Go.Proofs.Ytbofahaphgnblaa
open Go.ChangeShapes Go.WideShapes Go.ChangeAt Go.RowKit
set_option maxRecDepth 100000 in
set_option maxHeartbeats 1000000 in
theorem tweakAlone_any (key l : List UInt8) (n at' : Int) (b : UInt8) (kv tv : Value) (w : World) (hv : BytesAt w kv key) (ht : BytesAt w tv l) :
    Calls Try.prog 7 #[.agg #[kv, .int .i64 n, tv, .int .i64 at', .int .u8 (b.toNat : Int)]] w fun e w' => e = .returned (.bool true) ∧ Below w.heap.size w w' := by
  obtain ⟨p, c, rfl, hc⟩ := hv.slice
  obtain ⟨tp, tc, rfl, htc⟩ := ht.slice
  have HV := hid hv; have HT := hid ht
  clear hv ht hc htc
  have HA := hid (fun kv tv w hv ht => apart_any key l n at' b kv tv w hv ht)
  generalize key.length = nk at *
  generalize l.length = nl at *
  go_enter Try.func7, Try.ntmps7
  go_wp2_with fail
  (with_reducible refine (HA.out _ _ _ (HV.out.below (by repeat (first | (with_reducible exact Below.refl _ _) | (with_reducible assumption) | (with_reducible exact grow_below _ _) | (with_reducible exact St.below (by assumption)) | (with_reducible refine below_grow ?_ _) | (with_reducible refine Below.alloc ?_ (by first | omega | (simp; done) | (simp [go_sem]; done) | (simp [go_sem]; omega)) _) | (with_reducible exact (St.put1 (by assumption) _).below) | (with_reducible exact (St.put2 (by assumption) _ _).below) | (with_reducible exact (St.put3 (by assumption) _ _ _).below) | (with_reducible exact (St.put4 (by assumption) _ _ _ _).below) | (with_reducible refine below_put ?_ (by first | omega | (simp [go_sem]; omega)) _ _) | (with_reducible refine Below.drew ?_) | (with_reducible refine Below.setCell ?_ (by first | omega | (simp [go_sem]; omega)) _) | (with_reducible refine below_setRow' ?_ (by first | omega | (simp [go_sem]; omega)) _) | (with_reducible refine below_drewN' ?_ _)))) (HT.out.below (by repeat (first | (with_reducible exact Below.refl _ _) | (with_reducible assumption) | (with_reducible exact grow_below _ _) | (with_reducible exact St.below (by assumption)) | (with_reducible refine below_grow ?_ _) | (with_reducible refine Below.alloc ?_ (by first | omega | (simp; done) | (simp [go_sem]; done) | (simp [go_sem]; omega)) _) | (with_reducible exact (St.put1 (by assumption) _).below) | (with_reducible exact (St.put2 (by assumption) _ _).below) | (with_reducible exact (St.put3 (by assumption) _ _ _).below) | (with_reducible exact (St.put4 (by assumption) _ _ _ _).below) | (with_reducible refine below_put ?_ (by first | omega | (simp [go_sem]; omega)) _ _) | (with_reducible refine Below.drew ?_) | (with_reducible refine Below.setCell ?_ (by first | omega | (simp [go_sem]; omega)) _) | (with_reducible refine below_setRow' ?_ (by first | omega | (simp [go_sem]; omega)) _) | (with_reducible refine below_drewN' ?_ _))))).mono ?_)
  rintro e wz ⟨rfl, hb⟩
  obtain ⟨g, rfl⟩ := grow_of hb
  clear hb
  go_wp2
  go_ret
  exact ⟨rfl, (by repeat (first | (with_reducible exact Below.refl _ _) | (with_reducible assumption) | (with_reducible exact grow_below _ _) | (with_reducible exact St.below (by assumption)) | (with_reducible refine below_grow ?_ _) | (with_reducible refine Below.alloc ?_ (by first | omega | (simp; done) | (simp [go_sem]; done) | (simp [go_sem]; omega)) _) | (with_reducible exact (St.put1 (by assumption) _).below) | (with_reducible exact (St.put2 (by assumption) _ _).below) | (with_reducible exact (St.put3 (by assumption) _ _ _).below) | (with_reducible exact (St.put4 (by assumption) _ _ _ _).below) | (with_reducible refine below_put ?_ (by first | omega | (simp [go_sem]; omega)) _ _) | (with_reducible refine Below.drew ?_) | (with_reducible refine Below.setCell ?_ (by first | omega | (simp [go_sem]; omega)) _) | (with_reducible refine below_setRow' ?_ (by first | omega | (simp [go_sem]; omega)) _) | (with_reducible refine below_drewN' ?_ _)))⟩
end Go.Proofs.Ytbofahaphgnblaa

namespace Go.Proofs.Ytbofahaphgnblaa
open Go.ChangeShapes Go.WideShapes Go.ChangeAt Go.RowKit
open Go.ChangeShapes Go.WideShapes Go.ChangeAt Go.RowKit
theorem trod_bytes8 {P : Program} {H : Type} {enc : TypeId × Value → H} {w : World} {base fuel : Nat} {sp : Nat → Bool} {held : Bool} {t e : Nat} {cs : List Value} {x : DataW H × List MemPlace}
    (ht : P.underlying t = some (.slice e)) (he : P.underlying e = some (.int .u8)) (hc : P.cellsOf e = 1) (hf : DataW.trod enc P w base sp held fuel t cs = some x) : ∃ v l, cs = [v] ∧ BytesAt w v l ∧ l.length ≤ maxLen := by
  have hv : ∃ a n c, cs = [.slice a n c] := by
    rcases Go.Deep.open_slice1 ht hc hf with ⟨hcs, _⟩ | ⟨a, len, cap, m, n2, V, D, Pl, hcs, _⟩
    · exact ⟨_, _, _, hcs⟩
    · exact ⟨_, _, _, hcs⟩
  obtain ⟨a, n, c, rfl⟩ := hv
  obtain ⟨l, h1, h2⟩ := open_bytes (v := .slice a n c) (d := x.1) (p := x.2) ht he hc ⟨_, _, _, rfl⟩ ⟨fuel, hf⟩
  exact ⟨_, l, rfl, h1, h2⟩
theorem trod_int1 {P : Program} {H : Type} {enc : TypeId × Value → H} {w : World} {base fuel : Nat} {sp : Nat → Bool} {held : Bool} {t : Nat} {k : IntKind} {cs : List Value} {x : DataW H × List MemPlace}
    (ht : P.underlying t = some (.int k)) (hf : DataW.trod enc P w base sp held fuel t cs = some x) : ∃ n, cs = [.int k n] ∧ (Lit.int k n).wf = true := by
  obtain ⟨n, h1, _, h3⟩ := DataW.trod_int ht hf
  exact ⟨n, h1, h3⟩
theorem five_parts {L : List Value} {a b c d e : Value} (h : L.length = 5) (h0 : (L.drop 0).take 1 = [a]) (h1 : (L.drop 1).take 1 = [b]) (h2 : (L.drop 2).take 1 = [c]) (h3 : (L.drop 3).take 1 = [d]) (h4 : (L.drop 4).take 1 = [e]) : L = [a, b, c, d, e] := by
  match L, h with
  | [a', b', c', d', e'], _ => simp at h0 h1 h2 h3 h4; simp [h0, h1, h2, h3, h4]
set_option maxRecDepth 100000
theorem cells_turned6 : Try.prog.cellsOf 55 = 5 := by kernel_rfl
theorem open_turned6 {H : Type} {enc : TypeId × Value → H} {w W : World} {r : Reach} {b0 base : Nat} {sp : Nat → Bool} {held : Bool} {v : Value} {d : DataW H} {p : List MemPlace}
    (hv : Value.okWide Try.prog W r b0 55 v) (ht : DataW.Trod enc Try.prog w base sp held 55 v d p) :
    ∃ kv tv : Value, ∃ key l : List UInt8, ∃ n at' : Int, ∃ b : UInt8, BytesAt w kv key ∧ BytesAt w tv l ∧ v = .agg #[kv, .int .i64 n, tv, .int .i64 at', .int .u8 (b.toNat : Int)] := by
  have hu := Try.underlying55
  obtain ⟨cs, rfl, hsz⟩ := okWide_struct hu hv
  rw [cells_turned6] at hsz
  obtain ⟨fuel, hf⟩ := ht
  obtain ⟨xs, n, rfl, hx, hl, hxl, hi⟩ := DataW.trod_struct hu hf
  have hxl5 : xs.length = 5 := hxl
  have g (i : Nat) (h : i < 5) : xs[i]? = some xs[i] := List.getElem?_eq_getElem (by omega)
  have h0 := (hi 0 _ rfl).trans (g 0 (by omega))
  have h1 := (hi 1 _ rfl).trans (g 1 (by omega))
  have h2 := (hi 2 _ rfl).trans (g 2 (by omega))
  have h3 := (hi 3 _ rfl).trans (g 3 (by omega))
  have h4 := (hi 4 _ rfl).trans (g 4 (by omega))
  obtain ⟨kv, key, e0, B0, _⟩ := trod_bytes8 Try.underlying22 Try.underlying5 (by kernel_rfl) h0
  obtain ⟨m, e1, _⟩ := trod_int1 Try.underlying3 h1
  obtain ⟨tv, l, e2, B2, _⟩ := trod_bytes8 Try.underlying22 Try.underlying5 (by kernel_rfl) h2
  obtain ⟨q, e3, _⟩ := trod_int1 Try.underlying3 h3
  obtain ⟨y, e4, wf⟩ := trod_int1 Try.underlying5 h4
  obtain ⟨b, rfl⟩ := byte_of wf
  refine ⟨kv, tv, key, l, m, q, b, B0, B2, ?_⟩
  have hL := five_parts (L := cs.toList) (by simpa using hsz) e0 e1 e2 e3 e4
  rw [← Array.toArray_toList (xs := cs), hL]
end Go.Proofs.Ytbofahaphgnblaa

namespace Go.Proofs.Ytbofahaphgnblaa
open Go.ChangeShapes Go.WideShapes Go.ChangeAt Go.RowKit

theorem Try.own : ownKnob Try.prog.godebug = none := by kernel_rfl
theorem Try.laidOut : laidOutB Try.prog = true := by kernel_rfl

set_option maxRecDepth 100000 in
theorem tweakAlone_lifted (os : Os) (started : os.Started) (H : Type) (enc : TypeId × Value → H) :
    ReturnsInHanded {} Try.checked os 7 .any (Rows.tweakAloneSpec.pre6 enc Try.prog Try.f7 Rows.tweakAloneRow.domain false) (Rows.tweakAloneSpec.post enc Try.prog Try.f7 false true false false) := by
  refine law_lift (C := Try.checked) Try.own started (by kernel_rfl) Try.func7
    (ChangeSpec.witness6 (enc := enc) (C := Try.checked) false ⟨#[], #[.agg #[.slice none 0 0, .int .i64 0, .slice none 0 0, .int .i64 0, .int .u8 0]], []⟩ 8 (by kernel_rfl) (by kernel_rfl) (by kernel_rfl) (by kernel_rfl))
    rfl (by kernel_rfl) Try.underlying4 (fun ds h => by match ds, h with | [a], _ => exact ⟨rfl, rfl, rfl⟩) Try.laidOut (by kernel_rfl) ?_
  intro W base args ds p hval0 hA0 hlt hsz0
  have hval : ∀ (j : Nat) t v, Try.f7.params[j]? = some t → args[j]? = some v → Value.okWide Try.prog W .any base t v := hval0
  have hA : DataW.TrodAll enc Try.prog W 0 (fun _ => true) true Try.f7.params.toList args.toList ds p := hA0
  have hsz : (DataW.weightsEach Try.prog Try.f7.params.toList ds).all (· ≤ reachBytes) = true := hsz0
  rw [Try.params7] at hA hval hsz
  obtain ⟨v0, d0, rfl, rfl, h0⟩ := trodAll_one hA

  obtain ⟨kv, tv, key, l, n, at6, b, hB, hT, rfl⟩ := open_turned6 (hval 0 _ v0 rfl rfl) h0
  exact tweakAlone_any key l n at6 b kv tv W hB hT

theorem tweakAlone_holds : Rows.TweakAloneSaid :=
  OpenClaim.holds_of_wide 7 Try.f7 rfl rfl rfl rfl rfl rfl rfl ⟨rfl, rfl, rfl, rfl, rfl⟩ rfl rfl rfl rfl rfl (by kernel_rfl) Try.func7 (by kernel_rfl)
    (of_decide_eq_true (by kernel_rfl)) (by unfold Func.isWrapper; rw [if_neg (by decide +kernel)]; exact ⟨rfl, rfl⟩)
    (fun os started H enc _ => tweakAlone_lifted os started H enc)

end Go.Proofs.Ytbofahaphgnblaa
