/-
  Laws that the claims of this seat use, of several texts in one: Rounds, Rounds8, KeySlice, RefEncrypt, RefRounds, RefRounds8, RoundsG, SealP. No condition of their own.
-/
import Derived.Great.BuildSlice
import Derived.Test.YtkfggilildiflabJA1

namespace Go.Proofs.Ytkfggilildiflab
open Go.ChangeShapes Go.WideShapes Go.ChangeAt Go.RowKit

/-- What Rounds answers: round keys, no error. -/
def RoundsOf (w : World) (ks : List (List UInt8)) (e : Ending) (w' : World) : Prop := ∃ v, e = .returned (.tuple #[v, .nilIface]) ∧ RowsAt w' 16 v ks ∧ Below w.heap.size w w'
theorem word_cut {cs : Array Value} {o : Nat} {key : List UInt8} (h : ∀ i x, key[i]? = some x → cs[o + i]? = some (bv x)) (k : Nat) (hk : 4 * k + 4 ≤ key.length) : o + 4 * k + 4 ≤ csz cs ∧ cut cs (o + 4 * k) 4 = bvs ((key.drop (4 * k)).take 4) := by
  refine cut_of_cells (by simp; omega) (by omega) fun i x hi => ?_
  have hil : i < 4 := by have := (List.getElem?_eq_some_iff.1 hi).1; simp at this; omega
  rw [List.getElem?_take, if_pos hil, List.getElem?_drop] at hi
  rw [Nat.add_assoc]
  exact h _ _ hi
theorem flat_snoc (ws : List (List UInt8)) (w : List UInt8) : flat (ws ++ [w]) = flat ws ++ w.map bv := by simp [flat]
theorem rotate_is (l : List UInt8) (hl : l.length = 4) (w : World) : Calls Try.prog 97 #[.agg (bvs l)] w fun e w' => e = .returned (.agg (bvs [l.getD 1 0, l.getD 2 0, l.getD 3 0, l.getD 0 0])) ∧ Below w.heap.size w w' := by
  obtain ⟨a, b, c, d, rfl⟩ := len4 hl
  exact rotate_any a b c d w
theorem turnW_A {t : List UInt8} {n k : Nat} (h : k % n = 0) : turnW t n k = xorL ([t.getD 1 0, t.getD 2 0, t.getD 3 0, t.getD 0 0].map subB) [conB (k / n : Nat), 0, 0, 0] := by unfold turnW; rw [if_pos h]
theorem turnW_B {t : List UInt8} {n k : Nat} (h : ¬ k % n = 0) (h2 : 6 < n ∧ k % n = 4) : turnW t n k = t.map subB := by unfold turnW; rw [if_neg h, if_pos h2]
theorem turnW_C {t : List UInt8} {n k : Nat} (h : ¬ k % n = 0) (h2 : ¬ (6 < n ∧ k % n = 4)) : turnW t n k = t := by unfold turnW; rw [if_neg h, if_neg h2]
theorem xor_first (a b c d x : UInt8) : xorL [a, b, c, d] [x, 0, 0, 0] = [a ^^^ x, b, c, d] := by simp [xorL]
theorem kws_at {key : List UInt8} {n m : Nat} {j : Nat} (hj : j < m) : (kws key n m)[j]? = some ((kws key n m).getD j []) := by
  have : j < (kws key n m).length := by rw [kws_len]; exact hj
  simp [List.getD_eq_getElem?_getD, List.getElem?_eq_getElem this]
theorem xorN_zero' (a b : List UInt8) : xorN a b 0 = a := by unfold xorN; rfl
attribute [irreducible] RoundsOf

set_option maxRecDepth 100000 in
set_option maxHeartbeats 16000000 in
theorem rounds4_any (key : List UInt8) (hk : key.length = 16) (v : Value) (w : World) (hv : BytesAt w v key) : Calls Try.prog 78 #[v] w (RoundsOf w (rkeys key)) := by
  obtain ⟨p, c, rfl, hcap, _, hcs0⟩ := hv
  obtain ⟨b, o, cs, t, fr, rfl, hb, hcs⟩ := hcs0 (by intro h; subst h; simp at hk)
  rw [hk] at hcap
  clear hcs0
  have h4 := kws_four (n := 4) (by omega) (by omega : key.length = 4 * 4)
  have hRK : flat (rkeys key) = flat (kws key 4 44) := by rw [rkeys_flat, hk]
  have hR16 := rkeys_16 (key := key) (by omega)
  have hRL : (rkeys key).length = 11 := by rw [rkeys_len, hk]
  have H4 := hid h4; have HRK := hid hRK; have HR16 := hid hR16; have HRL := hid hRL; have HB := hid hb; have HCS := hid hcs; have HK := hid hk
  clear h4 hRK hR16 hRL hcs hb
  rw [HK.out]
  clear hk
  have z := zs4; have zz := zs16
  go_enter Try.func78, Try.ntmps78
  go_wp2_with (refine wp_make elem_163 rfl rfl (St.start w) 44 rfl rfl rfl (by decide) (by decide) ?_; intro w1 hG1)
  obtain ⟨cur0, hs0, hS0⟩ := hG1.cells0
  clear hG1
  go_loopw [5, 6] (fun u5 u6 wr => ∃ (k : Nat) (cur : Array Value), k ≤ 4 ∧ u6 = .int .i64 (4 * (k : Int)) ∧ u5 = .slice (some ⟨w.heap.size, 0, none⟩) k 44 ∧ Beg cur (44 * 4) (flat (kws key 4 k)) ∧ St w wr [(w.heap.size, cur, 164)])
    (fun _ i _ => 16 - (intOf i).toNat)
  case atStart => exact ⟨0, cur0, by omega, rfl, rfl, by rw [kws_zero]; exact Beg.nil cur0 _ hs0, hS0⟩
  case round =>
    clear hS0 hs0
    obtain ⟨k, cur, hkN, rfl, rfl, hBeg, hS⟩ := hrel
    by_cases hlt : k < 4
    · obtain ⟨hc1, hc2⟩ := word_cut HCS.out k (by rw [HK.out]; omega)
      have hwl : ((key.drop (4 * k)).take 4).length = 4 := by simp [HK.out]; omega
      have hsucc := hid (kws_succ key 4 k)
      rw [if_pos hlt] at hsucc
      have HXl := hid (show (flat (kws key 4 k)).length = k * 4 by rw [flat_len (H4.out k), kws_len])
      generalize (key.drop (4 * k)).take 4 = wd at *
      obtain ⟨i, hI⟩ : ∃ i : Int, i = 4 * (k : Int) := ⟨_, rfl⟩
      have f0 : 0 ≤ i := by omega
      have f1 : i < 16 := by omega
      have f2 : i + 4 ≤ 16 := by omega
      have f3 : i.toNat = 4 * k := by omega
      have f4 : (i + 4).toNat = 4 * k + 4 := by omega
      have f5 : ¬ 16 = 4 * k := by omega
      have f6 : i ≤ i + 4 := by omega
      have f7 : i ≤ 16 := by omega
      have f8 : i + 4 ≤ (c : Int) := by omega
      have f9 : i ≤ (c : Int) := by omega
      rw [← hI]
      have HI := hid hI
      clear hI
      have sw : csz (bvs wd) = 4 := by rw [csz_bvs, hwl]
      have HWL := hid hwl
      obtain ⟨hb2, hb3, _⟩ := hS.far HB.out
      have HS := hid (hS.alloc (bvs wd) 164)
      have HSrc := hid (SrcAt.own (m := 1) (c := 1) (size := 4) (news := wd.map bv) HS.out 0 rfl (by rw [List.length_map, hwl]) copy_one' (fun j u hj => by unfold bvs; simpa using hj))
      have HBeg := hid hBeg
      clear hwl hS hBeg
      go_wp2_with (at_builtin; refine wp_append_fits elem_163 rfl rfl HS.out 1 rfl rfl HBeg.out HXl.out rfl HSrc.out (by omega) ?_; intro cur2 hB2 hS2)
      go_roundw
      case rel =>
        refine ⟨k + 1, cur2, by omega, by rw [HI.out]; go_num, rfl, ?_, hS2.tail⟩
        rw [hsucc.out, flat_snoc]; exact hB2
      case measure => simp [intOf]; omega
    · obtain rfl : k = 4 := by omega
      clear hlt hkN
      have HBeg0 := hid hBeg
      clear hBeg
      go_wp2_with fail
      go_loopw [5, 7] (fun u5 u7 wr => ∃ (k : Nat) (cur : Array Value), 4 ≤ k ∧ k ≤ 44 ∧ u7 = .int .i64 k ∧ u5 = .slice (some ⟨w.heap.size, 0, none⟩) k 44 ∧ Beg cur (44 * 4) (flat (kws key 4 k)) ∧ St w wr [(w.heap.size, cur, 164)])
        (fun _ i _ => 44 - (intOf i).toNat)
      case atStart => exact ⟨4, cur, by omega, by omega, rfl, rfl, HBeg0.out, hS⟩
      case round =>
        clear hS HBeg0 cur
        obtain ⟨k, cur, hkN, hkC, rfl, rfl, hBeg, hS⟩ := hrel
        by_cases hlt : k < 44
        · have hr1 := hBeg.row (by omega) (H4.out k) (kws_at (key := key) (n := 4) (m := k) (j := k - 1) (by omega))
          have hr2 := hBeg.row (by omega) (H4.out k) (kws_at (key := key) (n := 4) (m := k) (j := k - 4) (by omega))
          have hTW := get_len (H4.out k) (i := k - 1) (by rw [kws_len]; omega)
          have hPV := get_len (H4.out k) (i := k - 4) (by rw [kws_len]; omega)
          have hKW0 : kword 4 k (kws key 4 k) = xorL (turnW ((kws key 4 k).getD (k - 1) []) 4 k) ((kws key 4 k).getD (k - 4) []) := by unfold kword; rfl
          have HXl := hid (show (flat (kws key 4 k)).length = k * 4 by rw [flat_len (H4.out k), kws_len])
          have HRoom : Hid (k + 1 ≤ 44) := hid (by omega)
          generalize (kws key 4 k).getD (k - 1) [] = tw at *
          generalize (kws key 4 k).getD (k - 4) [] = pv at *
          have HPV := hid hPV
          obtain ⟨x0, x1, x2, x3, rfl⟩ := len4 hTW
          have HBeg := hid hBeg
          obtain ⟨r11, r12⟩ := hr1
          obtain ⟨r21, r22⟩ := hr2
          have stw : csz (bvs [x0, x1, x2, x3]) = 4 := rfl
          have spv : csz (bvs pv) = 4 := by rw [csz_bvs, hPV]
          clear hPV hTW hBeg
          have f1 : (k : Int) < 44 := by omega
          have f2 : (0 : Int) ≤ (k : Int) - 1 := by omega
          have f3 : ((k : Int) - 1).toNat = k - 1 := by omega
          have f4 : (0 : Int) ≤ (k : Int) - 4 := by omega
          have f5 : ((k : Int) - 4).toNat = k - 4 := by omega
          have f6 : (k : Int) - 1 < (k : Int) := by omega
          have f7 : (k : Int) - 4 < (k : Int) := by omega
          obtain ⟨kb0, kc0, kf0, kl0, kn0⟩ := hS.at 0 rfl
          obtain ⟨b8, hb8⟩ : ∃ b8, b8 = wr.heap.size := ⟨_, rfl⟩
          have hS8 := hS.alloc (bvs [x0, x1, x2, x3]) 164
          rw [← hb8] at hS8
          clear hS
          by_cases hA : k % 4 = 0
          · obtain ⟨m, hm⟩ : ∃ m, m = k / 4 := ⟨_, rfl⟩
            rw [turnW_A hA, ← hm] at hKW0
            have gA : ((k : Int) % 4 == 0) = true := by simp; omega
            have gQ : (k : Int) / 4 = (m : Int) := by omega
            have HM := hid hm
            have HA := hid hA
            clear hm hA
            have cS := subWord_any [x1, x2, x3, x0] rfl
            simp only [List.map_cons, List.map_nil, List.getD_cons_succ, List.getD_cons_zero] at hKW0 cS
            rw [xor_first] at hKW0
            generalize subB x1 = s0 at *
            generalize subB x2 = s1 at *
            generalize subB x3 = s2 at *
            generalize subB x0 = s3 at *
            have CS := hid cS
            clear cS
            go_wp2_with fail
            with_reducible refine (rotate_any x0 x1 x2 x3 _).mono ?_
            rintro e w2 ⟨rfl, hb⟩
            rw [← hb8] at *
            have hS9 := hS8.call hb
            clear hS8 hb kb0 kc0 kf0 kl0 kn0
            go_wp2_with fail
            with_reducible refine (CS.out _).mono ?_
            rintro e w3 ⟨rfl, hb⟩
            have hSA := hS9.call hb
            clear hS9 hb
            generalize hcc : conB (m : Int) = cc at *
            have HCC := hid hcc
            clear hcc
            have ss : csz (bvs [s0, s1, s2, s3]) = 4 := rfl
            have sc : csz (bvs [cc, 0, 0, 0]) = 4 := rfl
            have gs : (bvs [s0, s1, s2, s3])[0]? = some (.int .u8 (s0.toNat : Int)) := rfl
            have gc : (bvs [cc, 0, 0, 0])[0]? = some (.int .u8 (cc.toNat : Int)) := rfl
            have cC := hid (constAll_any (m : Int))
            rw [HCC.out] at cC
            obtain ⟨kb0, kc0, kf0, kl0, kn0⟩ := hSA.at 0 rfl
            go_wp2_with fail
            have hSB := hSA.setRow 0 rfl (bvs [s0, s1, s2, s3])
            simp only [List.set_cons_zero] at hSB
            clear hSA kb0 kc0 kf0 kl0 kn0
            generalize w3.setRow b8 (bvs [s0, s1, s2, s3]) = W3 at *
            refine region_tail_lit (by kernel_rfl) (by kernel_rfl) ?_
            dsimp only [List.dropLast, List.getLast?, List.getLast, Option.getD]
            repeat (first | (refine BigFrame.wpQuiet_skip rfl ?_; simp only [Act.put, List.setIfInBounds_toArray, List.set_cons_zero, List.set_cons_succ]) | (refine BigFrame.wpQuiet_want rfl (fun K hK => ?_); apply Exists.intro; refine ⟨fun w' hw' => ?_, hK _ ?_⟩; (focus (have zS := hSB.cls hw'; obtain ⟨zb0, zc0, zf0, zl0, zn0⟩ := zS.at 0 rfl; clear zS; go_simp; (try (go_bits; go_simp)); first | done | rfl | ((go_at_call 98; exact hw'.call (cC.out _))))); clear hK K; simp only [Act.put, List.setIfInBounds_toArray, List.set_cons_zero, List.set_cons_succ]))
            refine wpQuiet_nil ?_
            intro w4 hc
            have hSC := hSB.cls hc
            clear hSB hc
            obtain ⟨kb0, kc0, kf0, kl0, kn0⟩ := hSC.at 0 rfl; obtain ⟨kb1, kc1, kf1, kl1, kn1⟩ := hSC.at 1 rfl
            have hd : ¬ b8 = w.heap.size := by have := hSC.2.2; simpa using this
            have hd2 : ¬ w.heap.size = b8 := fun h => hd h.symm
            have hST := hSC.setCell 0 rfl 0 (.int .u8 (bits .xor .u8 (s0.toNat : Int) (cc.toNat : Int)))
            simp only [List.set_cons_zero] at hST
            rw [xor_u8, bvs_set, List.set_cons_zero] at hST
            have HTT : Hid ([s0 ^^^ cc, s1, s2, s3].length = 4) := hid rfl
            have hKW := hKW0
            have hx8 := xor_u8 s0 cc
            generalize [s0 ^^^ cc, s1, s2, s3] = tt at *
            clear hKW0
            go_wp2_with fail
            go_loopw [9, 10, 92] (fun u9 u10 u92 wr => ∃ j : Nat, j ≤ 4 ∧ u92 = .int .i64 j ∧ St w wr [(b8, bvs (xorN tt pv j), 164), (w.heap.size, cur, 164)])
              (fun _ _ i _ => 4 - (intOf i).toNat)
            case atStart => exact ⟨0, by omega, rfl, by rw [xorN_zero']; exact hST⟩
            case round =>
              clear hST
              obtain ⟨j, hj, rfl, hS⟩ := hrel
              by_cases hlt2 : j < 4
              · have hx := bvs_get (l := xorN tt pv j) (k := j) (by rw [xorN_len, HTT.out]; omega)
                rw [xorN_get tt pv j j (Nat.le_refl j)] at hx
                have hy := bvs_get (l := pv) (k := j) (by rw [HPV.out]; omega)
                generalize hX : (tt).getD j 0 = a1 at hx
                generalize hY : pv.getD j 0 = a2 at hy
                have HX1 := hid hX; have HY1 := hid hY; clear hX hY
                have f16 : (j : Int) < 4 := by omega
                obtain ⟨kb0, kc0, kf0, kl0, kn0⟩ := hS.at 0 rfl
                go_wp2
                go_roundw
                case rel =>
                  refine ⟨j + 1, by omega, by go_num, ?_⟩
                  have h3 := hS.setCell 0 rfl j (.int .u8 (bits .xor .u8 (a1.toNat : Int) (a2.toNat : Int)))
                  simp only [List.set_cons_zero] at h3
                  rw [xor_u8, bvs_set, show (xorN tt pv j).set j (a1 ^^^ a2) = xorN tt pv (j + 1) by rw [xorN_succ, HX1.out, HY1.out]] at h3
                  rw [xor_u8]
                  exact h3
                case measure => simp [intOf]; omega
              · obtain rfl : j = 4 := by omega
                rw [xorN_all tt pv (by rw [HTT.out, HPV.out]) 4 HTT.out] at hS
                clear hlt2 hj
                have hw4 := xorL_len tt pv 4 HTT.out HPV.out
                have sw : csz (bvs (xorL tt pv)) = 4 := by rw [csz_bvs, hw4]
                have HW := hid hKW
                have HW4 := hid hw4
                have HS := hid (hS.alloc (bvs (xorL tt pv)) 164)
                have HSrc := hid (SrcAt.own (m := 1) (c := 1) (size := 4) (news := (xorL tt pv).map bv) HS.out 0 rfl (by rw [List.length_map, hw4]) copy_one' (fun j u hj => by unfold bvs; simpa using hj))
                obtain ⟨kb0, kc0, kf0, kl0, kn0⟩ := hS.at 0 rfl
                clear hS hw4 hKW
                go_wp2_with (at_builtin; refine wp_append_fits elem_163 rfl rfl HS.out 2 rfl rfl HBeg.out HXl.out rfl HSrc.out HRoom.out ?_; intro cur2 hB2 hS2)
                go_roundw
                case rel =>
                  have h4 := hS2.tail.tail
                  have hB3 : Beg cur2 (44 * 4) (flat (kws key 4 (k + 1))) := by
                    rw [kws_succ, if_neg (by omega), HW.out, flat_snoc]
                    exact hB2
                  first | exact ⟨k + 1, cur2, by omega, by omega, by go_num, rfl, hB3, h4⟩ | ((repeat apply Exists.intro); exact ⟨⟨k + 1, cur2, by omega, by omega, by go_num, rfl, hB3, h4⟩, rfl⟩)
                case measure => simp [intOf]; omega
          · rw [turnW_C hA (by omega)] at hKW0
            have gA : ((k : Int) % 4 == 0) = false := by simp; omega
            have HA := hid hA
            clear hA
            have HTT : Hid ([x0, x1, x2, x3].length = 4) := hid rfl
            have hKW := hKW0
            have hST := hS8
            generalize [x0, x1, x2, x3] = tt at *
            clear hKW0
            go_wp2_with fail
            rw [← hb8]
            clear hb8
            go_loopw [9, 10, 92] (fun u9 u10 u92 wr => ∃ j : Nat, j ≤ 4 ∧ u92 = .int .i64 j ∧ St w wr [(b8, bvs (xorN tt pv j), 164), (w.heap.size, cur, 164)])
              (fun _ _ i _ => 4 - (intOf i).toNat)
            case atStart => exact ⟨0, by omega, rfl, by rw [xorN_zero']; exact hST⟩
            case round =>
              clear hST
              obtain ⟨j, hj, rfl, hS⟩ := hrel
              by_cases hlt2 : j < 4
              · have hx := bvs_get (l := xorN tt pv j) (k := j) (by rw [xorN_len, HTT.out]; omega)
                rw [xorN_get tt pv j j (Nat.le_refl j)] at hx
                have hy := bvs_get (l := pv) (k := j) (by rw [HPV.out]; omega)
                generalize hX : (tt).getD j 0 = a1 at hx
                generalize hY : pv.getD j 0 = a2 at hy
                have HX1 := hid hX; have HY1 := hid hY; clear hX hY
                have f16 : (j : Int) < 4 := by omega
                obtain ⟨kb0, kc0, kf0, kl0, kn0⟩ := hS.at 0 rfl
                go_wp2
                go_roundw
                case rel =>
                  refine ⟨j + 1, by omega, by go_num, ?_⟩
                  have h3 := hS.setCell 0 rfl j (.int .u8 (bits .xor .u8 (a1.toNat : Int) (a2.toNat : Int)))
                  simp only [List.set_cons_zero] at h3
                  rw [xor_u8, bvs_set, show (xorN tt pv j).set j (a1 ^^^ a2) = xorN tt pv (j + 1) by rw [xorN_succ, HX1.out, HY1.out]] at h3
                  rw [xor_u8]
                  exact h3
                case measure => simp [intOf]; omega
              · obtain rfl : j = 4 := by omega
                rw [xorN_all tt pv (by rw [HTT.out, HPV.out]) 4 HTT.out] at hS
                clear hlt2 hj
                have hw4 := xorL_len tt pv 4 HTT.out HPV.out
                have sw : csz (bvs (xorL tt pv)) = 4 := by rw [csz_bvs, hw4]
                have HW := hid hKW
                have HW4 := hid hw4
                have HS := hid (hS.alloc (bvs (xorL tt pv)) 164)
                have HSrc := hid (SrcAt.own (m := 1) (c := 1) (size := 4) (news := (xorL tt pv).map bv) HS.out 0 rfl (by rw [List.length_map, hw4]) copy_one' (fun j u hj => by unfold bvs; simpa using hj))
                obtain ⟨kb0, kc0, kf0, kl0, kn0⟩ := hS.at 0 rfl
                clear hS hw4 hKW
                go_wp2_with (at_builtin; refine wp_append_fits elem_163 rfl rfl HS.out 2 rfl rfl HBeg.out HXl.out rfl HSrc.out HRoom.out ?_; intro cur2 hB2 hS2)
                go_roundw
                case rel =>
                  have h4 := hS2.tail.tail
                  have hB3 : Beg cur2 (44 * 4) (flat (kws key 4 (k + 1))) := by
                    rw [kws_succ, if_neg (by omega), HW.out, flat_snoc]
                    exact hB2
                  first | exact ⟨k + 1, cur2, by omega, by omega, by go_num, rfl, hB3, h4⟩ | ((repeat apply Exists.intro); exact ⟨⟨k + 1, cur2, by omega, by omega, by go_num, rfl, hB3, h4⟩, rfl⟩)
                case measure => simp [intOf]; omega
        · obtain rfl : k = 44 := by omega
          clear hlt hkN hkC
          have h44 := H4.out 44
          have hflat := HRK.out
          have hat := fun j => kws_at (key := key) (n := 4) (m := 44) (j := j)
          have hl44 := kws_len key 4 44
          generalize kws key 4 44 = ws at *
          have HBeg := hid hBeg; have HW4 := hid h44; have HFL := hid hflat; have HAT := hid hat; have HL := hid hl44; have HS := hid hS
          clear hBeg h44 hflat hat hl44 hS
          go_wp2_with (refine wp_make_full elem_143 rfl rfl HS.out 11 rfl rfl rfl rfl (by decide) (by decide) ?_; intro w2 cur2 hs2 _ hS2; have HS2 := hid hs2; clear hs2)
          generalize wr.heap.size = n2 at *
          go_loopw [12, 13, 113] (fun u12 u13 u113 wr => ∃ (k : Nat) (cur2 : Array Value), k ≤ 44 ∧ u113 = .int .i64 k ∧ Beg cur2 (11 * 16) (flat (ws.take k)) ∧ St w wr [(n2, cur2, 149), (w.heap.size, cur, 164)])
            (fun _ _ i _ => 44 - (intOf i).toNat)
          case atStart => exact ⟨0, cur2, by omega, rfl, by rw [List.take_zero]; exact Beg.nil cur2 _ HS2.out, hS2⟩
          case round =>
            clear hS2 HS2
            obtain ⟨k, cur2, hkC, rfl, hB2, hS⟩ := hrel
            by_cases hlt : k < 44
            · obtain ⟨hr1, hr2⟩ := HBeg.out.row (by omega) HW4.out (HAT.out k hlt)
              have hwl := get_len HW4.out (i := k) (by rw [HL.out]; exact hlt)
              have hsucc : ws.take (k + 1) = ws.take k ++ [ws.getD k []] := by
                have hk : k < ws.length := by rw [HL.out]; exact hlt
                rw [List.take_succ_eq_append_getElem hk]
                simp [List.getD_eq_getElem?_getD, List.getElem?_eq_getElem hk]
              have HSU := hid hsucc
              have HXl := hid (show (flat (ws.take k)).length = k * 4 by rw [flat_len (fun x hx => HW4.out x (List.mem_of_mem_take hx)), List.length_take, HL.out, Nat.min_eq_left (Nat.le_of_lt hlt)])
              generalize ws.getD k [] = wd at *
              obtain ⟨q, r, hk, hr⟩ : ∃ q r, k = 4 * q + r ∧ r < 4 := ⟨k / 4, k % 4, by omega, by omega⟩
              have gq : (k : Int) / 4 = (q : Int) := by omega
              have gr : (k : Int) % 4 = (r : Int) := by omega
              have q0 : (q : Int) < 11 := by omega
              have g0 : (0 : Int) ≤ 4 * (r : Int) := by omega
              have g1 : 4 * (r : Int) ≤ 16 := by omega
              have g2 : (4 * (r : Int)).toNat = 4 * r := by omega
              have g3 : ¬ 16 = 4 * r := by omega
              have g4 : (k : Int) < 44 := by omega
              have sw : csz (bvs wd) = 4 := by rw [csz_bvs, hwl]
              have HWL := hid hwl; have HKQ := hid hk; have HR := hid hr
              have HB2 := hid hB2
              have s2 : csz cur2 = 11 * 16 := by rw [csz_is]; exact hB2.1
              clear hwl hk hsucc hB2
              obtain ⟨kb1, kc1, kf1, kl1, kn1⟩ := hS.at 1 rfl
              go_wp2_with fail
              have hS3 := hS.alloc (bvs wd) 164
              clear hS kb1 kc1 kf1 kl1 kn1
              generalize hn1 : wr.heap.size = n1 at *
              generalize wr.alloc (.cells (bvs wd) 164) = W at *
              clear hn1
              refine region_mono_lit 9 (by kernel_rfl) (by kernel_rfl) ?_
              dsimp only [List.take, List.drop]
              repeat (first | (refine wpM_skip (fun _ => rfl) ?_; simp only [Act.put, List.setIfInBounds_toArray, List.set_cons_zero, List.set_cons_succ]) | (refine wpM_alloc rfl (fun _ => rfl) _ (by intro w; go_simp; rfl) ?_; simp only [Act.put, List.setIfInBounds_toArray, List.set_cons_zero, List.set_cons_succ]) | (refine wpM_slice' rfl (fun _ => rfl) (fun K hK => ?_); apply Exists.intro; apply Exists.intro; apply Exists.intro; apply Exists.intro; refine ⟨fun pB w' hw' hF => ?_, hK _ _ ?_⟩; (focus (have zS := hS3.cls hw'; obtain ⟨zb0, zc0, zf0, zl0, zn0⟩ := zS.at 0 rfl; obtain ⟨zb1, zc1, zf1, zl1, zn1⟩ := zS.at 1 rfl; obtain ⟨zb2, zc2, zf2, zl2, zn2⟩ := zS.at 2 rfl; clear zS; (first | (have yd := facts_of (hF.at (List.Mem.head _) (by decide +kernel)); obtain ⟨yb0, yc0, yf0, yl0⟩ := yd) | skip); (first | (have yd := facts_of (hF.at (List.Mem.tail _ (List.Mem.head _)) (by decide +kernel)); obtain ⟨yb1, yc1, yf1, yl1⟩ := yd) | skip); (first | (have yd := facts_of (hF.at (List.Mem.tail _ (List.Mem.tail _ (List.Mem.head _))) (by decide +kernel)); obtain ⟨yb2, yc2, yf2, yl2⟩ := yd) | skip); go_simp; (first | done | rfl | exact ⟨⟨rfl, rfl⟩, rfl⟩ | (refine ⟨?_, ?_⟩ <;> rfl) | (refine ⟨⟨?_, ?_⟩, ?_⟩ <;> rfl) | (refine ⟨⟨?_, ?_⟩, ⟨?_, ?_⟩⟩ <;> rfl)))); clear hK K; simp only [Act.put, List.setIfInBounds_toArray, List.set_cons_zero, List.set_cons_succ]) | (refine wpM_want (fun _ => rfl) (fun K hK => ?_); apply Exists.intro; refine ⟨fun pB w' hw' hF => ?_, hK _ _ ?_⟩; (focus (have zS := hS3.cls hw'; obtain ⟨zb0, zc0, zf0, zl0, zn0⟩ := zS.at 0 rfl; obtain ⟨zb1, zc1, zf1, zl1, zn1⟩ := zS.at 1 rfl; obtain ⟨zb2, zc2, zf2, zl2, zn2⟩ := zS.at 2 rfl; clear zS; (first | (have yd := facts_of (hF.at (List.Mem.head _) (by decide +kernel)); obtain ⟨yb0, yc0, yf0, yl0⟩ := yd) | skip); (first | (have yd := facts_of (hF.at (List.Mem.tail _ (List.Mem.head _)) (by decide +kernel)); obtain ⟨yb1, yc1, yf1, yl1⟩ := yd) | skip); (first | (have yd := facts_of (hF.at (List.Mem.tail _ (List.Mem.tail _ (List.Mem.head _))) (by decide +kernel)); obtain ⟨yb2, yc2, yf2, yl2⟩ := yd) | skip); go_simp; (try (go_bits; go_simp)); first | done | rfl | (first | fail))); clear hK K; simp only [Act.put, List.setIfInBounds_toArray, List.set_cons_zero, List.set_cons_succ]))
              refine wpM_nil ?_
              intro p w' hc hF hN
              have hS4 := hS3.cls hc
              clear hF hN hS3 hc
              dsimp only
              refine wpList_copy_own rfl (.tmp 125) (.tmp 126) 22 22 rfl 5 (by kernel_rfl) (by kernel_rfl) n2 (q * 16 + 4 * r) (16 - 4 * r) (16 - 4 * r) ⟨n1, 0, none⟩ 4 4 rfl rfl cur2 149 (hS4.blk 1 rfl) (wd.map bv) ?len (fun j v hj => ?src) ?fit copy_one' ?_
              case len =>
                rw [List.length_map, HWL.out]
                have := HR.out
                show 4 = min 4 (16 - 4 * r)
                omega
              case src =>
                rw [add_addr, Nat.zero_add, (hS4.at 0 rfl).2.1 j]
                unfold bvs
                simpa using hj
              case fit =>
                have := HR.out
                rw [List.length_map, HWL.out, HB2.out.1]
                omega
              have e : q * 16 + 4 * r = (flat (ws.take k)).length := by rw [HXl.out, HKQ.out]; omega
              rw [e]
              have hB5 := HB2.out.write (wd.map bv) (by rw [HXl.out, List.length_map, HWL.out]; omega)
              have h5 := hS4.setRow 1 rfl ((cur2.toList.take (flat (ws.take k)).length ++ (wd.map bv ++ cur2.toList.drop ((flat (ws.take k)).length + (wd.map bv).length))).toArray)
              generalize (cur2.toList.take (flat (ws.take k)).length ++ (wd.map bv ++ cur2.toList.drop ((flat (ws.take k)).length + (wd.map bv).length))).toArray = cur3 at *
              simp only [List.set_cons_zero, List.set_cons_succ] at h5
              generalize w'.setRow n2 cur3 = W5 at *
              have HB5 := hid hB5
              clear hS4 hB5 e
              go_wp2
              go_roundw
              case rel =>
                have h6 := h5.tail
                have hB6 := HB5.out
                rw [← flat_snoc, ← HSU.out] at hB6
                first | exact ⟨k + 1, cur3, by omega, by go_num, hB6, h6⟩ | ((repeat apply Exists.intro); exact ⟨⟨k + 1, cur3, by omega, by go_num, hB6, h6⟩, rfl⟩)
              case measure => simp [intOf]; omega
            · obtain rfl : k = 44 := by omega
              clear hlt hkC
              rw [List.take_of_length_le (by rw [HL.out]; omega)] at hB2
              have hB := hS.below
              have hblk := hS.blk 0 rfl
              clear hS
              rw [← HFL.out] at hB2
              have HROW := hid (fun (i : Nat) (k : List UInt8) (hi : (rkeys key)[i]? = some k) => hB2.row (by omega) HR16.out hi)
              have HBL := hid hblk
              clear hB2 hblk
              go_wp2
              go_ret2
              unfold RoundsOf
              exact ⟨.slice (some ⟨n2, 0, none⟩) 11 11, rfl, ⟨HR16.out, _, 11, by rw [HRL.out], (fun h => by cases h), fun i k hi => ⟨n2, 0, cur2, _, _, rfl, HBL.out, by rw [Nat.zero_add]; exact (HROW.out i k hi).1, by rw [Nat.zero_add]; exact (HROW.out i k hi).2⟩⟩, hB⟩

set_option maxRecDepth 100000 in
set_option maxHeartbeats 1000000 in
theorem roundsBad_any (key : List UInt8) (h1 : key.length ≠ 16) (h2 : key.length ≠ 32) (v : Value) (w : World) (hv : BytesAt w v key) (_hm : key.length ≤ maxLen) : Calls Try.prog 78 #[v] w fun e w' => e = .returned (.tuple #[.slice none 0 0, .iface 39 (.int .i64 3)]) ∧ w = w' := by
  obtain ⟨p, c, rfl, _⟩ := hv
  unfold maxLen at _hm
  generalize key.length = n at *
  have g1 : ((n : Int) == 16) = false := by simp; omega
  have g2 : ((n : Int) == 32) = false := by simp; omega
  have g3 : ((n : Int) != 16) = true := by simp; omega
  have g4 : ((n : Int) != 32) = true := by simp; omega
  clear h1 h2
  go_enter Try.func78, Try.ntmps78
  go_wp2
  go_ret2
  exact ⟨rfl, rfl⟩
end Go.Proofs.Ytkfggilildiflab

namespace Go.Proofs.Ytkfggilildiflab
open Go.ChangeShapes Go.WideShapes Go.ChangeAt Go.RowKit

set_option maxRecDepth 100000 in
set_option maxHeartbeats 16000000 in
theorem rounds8_any (key : List UInt8) (hk : key.length = 32) (v : Value) (w : World) (hv : BytesAt w v key) : Calls Try.prog 78 #[v] w (RoundsOf w (rkeys key)) := by
  obtain ⟨p, c, rfl, hcap, _, hcs0⟩ := hv
  obtain ⟨b, o, cs, t, fr, rfl, hb, hcs⟩ := hcs0 (by intro h; subst h; simp at hk)
  rw [hk] at hcap
  clear hcs0
  have h4 := kws_four (n := 8) (by omega) (by omega : key.length = 4 * 8)
  have hRK : flat (rkeys key) = flat (kws key 8 60) := by rw [rkeys_flat, hk]
  have hR16 := rkeys_16 (key := key) (by omega)
  have hRL : (rkeys key).length = 15 := by rw [rkeys_len, hk]
  have H4 := hid h4; have HRK := hid hRK; have HR16 := hid hR16; have HRL := hid hRL; have HB := hid hb; have HCS := hid hcs; have HK := hid hk
  clear h4 hRK hR16 hRL hcs hb
  rw [HK.out]
  clear hk
  have z := zs4; have zz := zs16
  go_enter Try.func78, Try.ntmps78
  go_wp2_with (refine wp_make elem_163 rfl rfl (St.start w) 60 rfl rfl rfl (by decide) (by decide) ?_; intro w1 hG1)
  obtain ⟨cur0, hs0, hS0⟩ := hG1.cells0
  clear hG1
  go_loopw [5, 6] (fun u5 u6 wr => ∃ (k : Nat) (cur : Array Value), k ≤ 8 ∧ u6 = .int .i64 (4 * (k : Int)) ∧ u5 = .slice (some ⟨w.heap.size, 0, none⟩) k 60 ∧ Beg cur (60 * 4) (flat (kws key 8 k)) ∧ St w wr [(w.heap.size, cur, 164)])
    (fun _ i _ => 32 - (intOf i).toNat)
  case atStart => exact ⟨0, cur0, by omega, rfl, rfl, by rw [kws_zero]; exact Beg.nil cur0 _ hs0, hS0⟩
  case round =>
    clear hS0 hs0
    obtain ⟨k, cur, hkN, rfl, rfl, hBeg, hS⟩ := hrel
    by_cases hlt : k < 8
    · obtain ⟨hc1, hc2⟩ := word_cut HCS.out k (by rw [HK.out]; omega)
      have hwl : ((key.drop (4 * k)).take 4).length = 4 := by simp [HK.out]; omega
      have hsucc := hid (kws_succ key 8 k)
      rw [if_pos hlt] at hsucc
      have HXl := hid (show (flat (kws key 8 k)).length = k * 4 by rw [flat_len (H4.out k), kws_len])
      generalize (key.drop (4 * k)).take 4 = wd at *
      obtain ⟨i, hI⟩ : ∃ i : Int, i = 4 * (k : Int) := ⟨_, rfl⟩
      have f0 : 0 ≤ i := by omega
      have f1 : i < 32 := by omega
      have f2 : i + 4 ≤ 32 := by omega
      have f3 : i.toNat = 4 * k := by omega
      have f4 : (i + 4).toNat = 4 * k + 4 := by omega
      have f5 : ¬ 32 = 4 * k := by omega
      have f6 : i ≤ i + 4 := by omega
      have f7 : i ≤ 32 := by omega
      have f8 : i + 4 ≤ (c : Int) := by omega
      have f9 : i ≤ (c : Int) := by omega
      rw [← hI]
      have HI := hid hI
      clear hI
      have sw : csz (bvs wd) = 4 := by rw [csz_bvs, hwl]
      have HWL := hid hwl
      obtain ⟨hb2, hb3, _⟩ := hS.far HB.out
      have HS := hid (hS.alloc (bvs wd) 164)
      have HSrc := hid (SrcAt.own (m := 1) (c := 1) (size := 4) (news := wd.map bv) HS.out 0 rfl (by rw [List.length_map, hwl]) copy_one' (fun j u hj => by unfold bvs; simpa using hj))
      have HBeg := hid hBeg
      clear hwl hS hBeg
      go_wp2_with (at_builtin; refine wp_append_fits elem_163 rfl rfl HS.out 1 rfl rfl HBeg.out HXl.out rfl HSrc.out (by omega) ?_; intro cur2 hB2 hS2)
      go_roundw
      case rel =>
        refine ⟨k + 1, cur2, by omega, by rw [HI.out]; go_num, rfl, ?_, hS2.tail⟩
        rw [hsucc.out, flat_snoc]; exact hB2
      case measure => simp [intOf]; omega
    · obtain rfl : k = 8 := by omega
      clear hlt hkN
      have HBeg0 := hid hBeg
      clear hBeg
      go_wp2_with fail
      go_loopw [5, 7] (fun u5 u7 wr => ∃ (k : Nat) (cur : Array Value), 8 ≤ k ∧ k ≤ 60 ∧ u7 = .int .i64 k ∧ u5 = .slice (some ⟨w.heap.size, 0, none⟩) k 60 ∧ Beg cur (60 * 4) (flat (kws key 8 k)) ∧ St w wr [(w.heap.size, cur, 164)])
        (fun _ i _ => 60 - (intOf i).toNat)
      case atStart => exact ⟨8, cur, by omega, by omega, rfl, rfl, HBeg0.out, hS⟩
      case round =>
        clear hS HBeg0 cur
        obtain ⟨k, cur, hkN, hkC, rfl, rfl, hBeg, hS⟩ := hrel
        by_cases hlt : k < 60
        · have hr1 := hBeg.row (by omega) (H4.out k) (kws_at (key := key) (n := 8) (m := k) (j := k - 1) (by omega))
          have hr2 := hBeg.row (by omega) (H4.out k) (kws_at (key := key) (n := 8) (m := k) (j := k - 8) (by omega))
          have hTW := get_len (H4.out k) (i := k - 1) (by rw [kws_len]; omega)
          have hPV := get_len (H4.out k) (i := k - 8) (by rw [kws_len]; omega)
          have hKW0 : kword 8 k (kws key 8 k) = xorL (turnW ((kws key 8 k).getD (k - 1) []) 8 k) ((kws key 8 k).getD (k - 8) []) := by unfold kword; rfl
          have HXl := hid (show (flat (kws key 8 k)).length = k * 4 by rw [flat_len (H4.out k), kws_len])
          have HRoom : Hid (k + 1 ≤ 60) := hid (by omega)
          generalize (kws key 8 k).getD (k - 1) [] = tw at *
          generalize (kws key 8 k).getD (k - 8) [] = pv at *
          have HPV := hid hPV
          obtain ⟨x0, x1, x2, x3, rfl⟩ := len4 hTW
          have HBeg := hid hBeg
          obtain ⟨r11, r12⟩ := hr1
          obtain ⟨r21, r22⟩ := hr2
          have stw : csz (bvs [x0, x1, x2, x3]) = 4 := rfl
          have spv : csz (bvs pv) = 4 := by rw [csz_bvs, hPV]
          clear hPV hTW hBeg
          have f1 : (k : Int) < 60 := by omega
          have f2 : (0 : Int) ≤ (k : Int) - 1 := by omega
          have f3 : ((k : Int) - 1).toNat = k - 1 := by omega
          have f4 : (0 : Int) ≤ (k : Int) - 8 := by omega
          have f5 : ((k : Int) - 8).toNat = k - 8 := by omega
          have f6 : (k : Int) - 1 < (k : Int) := by omega
          have f7 : (k : Int) - 8 < (k : Int) := by omega
          obtain ⟨kb0, kc0, kf0, kl0, kn0⟩ := hS.at 0 rfl
          obtain ⟨b8, hb8⟩ : ∃ b8, b8 = wr.heap.size := ⟨_, rfl⟩
          have hS8 := hS.alloc (bvs [x0, x1, x2, x3]) 164
          rw [← hb8] at hS8
          clear hS
          by_cases hA : k % 8 = 0
          · obtain ⟨m, hm⟩ : ∃ m, m = k / 8 := ⟨_, rfl⟩
            rw [turnW_A hA, ← hm] at hKW0
            have gA : ((k : Int) % 8 == 0) = true := by simp; omega
            have gQ : (k : Int) / 8 = (m : Int) := by omega
            have HM := hid hm
            have HA := hid hA
            clear hm hA
            have cS := subWord_any [x1, x2, x3, x0] rfl
            simp only [List.map_cons, List.map_nil, List.getD_cons_succ, List.getD_cons_zero] at hKW0 cS
            rw [xor_first] at hKW0
            generalize subB x1 = s0 at *
            generalize subB x2 = s1 at *
            generalize subB x3 = s2 at *
            generalize subB x0 = s3 at *
            have CS := hid cS
            clear cS
            go_wp2_with fail
            with_reducible refine (rotate_any x0 x1 x2 x3 _).mono ?_
            rintro e w2 ⟨rfl, hb⟩
            rw [← hb8] at *
            have hS9 := hS8.call hb
            clear hS8 hb kb0 kc0 kf0 kl0 kn0
            go_wp2_with fail
            with_reducible refine (CS.out _).mono ?_
            rintro e w3 ⟨rfl, hb⟩
            have hSA := hS9.call hb
            clear hS9 hb
            generalize hcc : conB (m : Int) = cc at *
            have HCC := hid hcc
            clear hcc
            have ss : csz (bvs [s0, s1, s2, s3]) = 4 := rfl
            have sc : csz (bvs [cc, 0, 0, 0]) = 4 := rfl
            have gs : (bvs [s0, s1, s2, s3])[0]? = some (.int .u8 (s0.toNat : Int)) := rfl
            have gc : (bvs [cc, 0, 0, 0])[0]? = some (.int .u8 (cc.toNat : Int)) := rfl
            have cC := hid (constAll_any (m : Int))
            rw [HCC.out] at cC
            obtain ⟨kb0, kc0, kf0, kl0, kn0⟩ := hSA.at 0 rfl
            go_wp2_with fail
            have hSB := hSA.setRow 0 rfl (bvs [s0, s1, s2, s3])
            simp only [List.set_cons_zero] at hSB
            clear hSA kb0 kc0 kf0 kl0 kn0
            generalize w3.setRow b8 (bvs [s0, s1, s2, s3]) = W3 at *
            refine region_tail_lit (by kernel_rfl) (by kernel_rfl) ?_
            dsimp only [List.dropLast, List.getLast?, List.getLast, Option.getD]
            repeat (first | (refine BigFrame.wpQuiet_skip rfl ?_; simp only [Act.put, List.setIfInBounds_toArray, List.set_cons_zero, List.set_cons_succ]) | (refine BigFrame.wpQuiet_want rfl (fun K hK => ?_); apply Exists.intro; refine ⟨fun w' hw' => ?_, hK _ ?_⟩; (focus (have zS := hSB.cls hw'; obtain ⟨zb0, zc0, zf0, zl0, zn0⟩ := zS.at 0 rfl; clear zS; go_simp; (try (go_bits; go_simp)); first | done | rfl | ((go_at_call 98; exact hw'.call (cC.out _))))); clear hK K; simp only [Act.put, List.setIfInBounds_toArray, List.set_cons_zero, List.set_cons_succ]))
            refine wpQuiet_nil ?_
            intro w4 hc
            have hSC := hSB.cls hc
            clear hSB hc
            obtain ⟨kb0, kc0, kf0, kl0, kn0⟩ := hSC.at 0 rfl; obtain ⟨kb1, kc1, kf1, kl1, kn1⟩ := hSC.at 1 rfl
            have hd : ¬ b8 = w.heap.size := by have := hSC.2.2; simpa using this
            have hd2 : ¬ w.heap.size = b8 := fun h => hd h.symm
            have hST := hSC.setCell 0 rfl 0 (.int .u8 (bits .xor .u8 (s0.toNat : Int) (cc.toNat : Int)))
            simp only [List.set_cons_zero] at hST
            rw [xor_u8, bvs_set, List.set_cons_zero] at hST
            have HTT : Hid ([s0 ^^^ cc, s1, s2, s3].length = 4) := hid rfl
            have hKW := hKW0
            have hx8 := xor_u8 s0 cc
            generalize [s0 ^^^ cc, s1, s2, s3] = tt at *
            clear hKW0
            go_wp2_with fail
            go_loopw [9, 10, 92] (fun u9 u10 u92 wr => ∃ j : Nat, j ≤ 4 ∧ u92 = .int .i64 j ∧ St w wr [(b8, bvs (xorN tt pv j), 164), (w.heap.size, cur, 164)])
              (fun _ _ i _ => 4 - (intOf i).toNat)
            case atStart => exact ⟨0, by omega, rfl, by rw [xorN_zero']; exact hST⟩
            case round =>
              clear hST
              obtain ⟨j, hj, rfl, hS⟩ := hrel
              by_cases hlt2 : j < 4
              · have hx := bvs_get (l := xorN tt pv j) (k := j) (by rw [xorN_len, HTT.out]; omega)
                rw [xorN_get tt pv j j (Nat.le_refl j)] at hx
                have hy := bvs_get (l := pv) (k := j) (by rw [HPV.out]; omega)
                generalize hX : (tt).getD j 0 = a1 at hx
                generalize hY : pv.getD j 0 = a2 at hy
                have HX1 := hid hX; have HY1 := hid hY; clear hX hY
                have f16 : (j : Int) < 4 := by omega
                obtain ⟨kb0, kc0, kf0, kl0, kn0⟩ := hS.at 0 rfl
                go_wp2
                go_roundw
                case rel =>
                  refine ⟨j + 1, by omega, by go_num, ?_⟩
                  have h3 := hS.setCell 0 rfl j (.int .u8 (bits .xor .u8 (a1.toNat : Int) (a2.toNat : Int)))
                  simp only [List.set_cons_zero] at h3
                  rw [xor_u8, bvs_set, show (xorN tt pv j).set j (a1 ^^^ a2) = xorN tt pv (j + 1) by rw [xorN_succ, HX1.out, HY1.out]] at h3
                  rw [xor_u8]
                  exact h3
                case measure => simp [intOf]; omega
              · obtain rfl : j = 4 := by omega
                rw [xorN_all tt pv (by rw [HTT.out, HPV.out]) 4 HTT.out] at hS
                clear hlt2 hj
                have hw4 := xorL_len tt pv 4 HTT.out HPV.out
                have sw : csz (bvs (xorL tt pv)) = 4 := by rw [csz_bvs, hw4]
                have HW := hid hKW
                have HW4 := hid hw4
                have HS := hid (hS.alloc (bvs (xorL tt pv)) 164)
                have HSrc := hid (SrcAt.own (m := 1) (c := 1) (size := 4) (news := (xorL tt pv).map bv) HS.out 0 rfl (by rw [List.length_map, hw4]) copy_one' (fun j u hj => by unfold bvs; simpa using hj))
                obtain ⟨kb0, kc0, kf0, kl0, kn0⟩ := hS.at 0 rfl
                clear hS hw4 hKW
                go_wp2_with (at_builtin; refine wp_append_fits elem_163 rfl rfl HS.out 2 rfl rfl HBeg.out HXl.out rfl HSrc.out HRoom.out ?_; intro cur2 hB2 hS2)
                go_roundw
                case rel =>
                  have h4 := hS2.tail.tail
                  have hB3 : Beg cur2 (60 * 4) (flat (kws key 8 (k + 1))) := by
                    rw [kws_succ, if_neg (by omega), HW.out, flat_snoc]
                    exact hB2
                  first | exact ⟨k + 1, cur2, by omega, by omega, by go_num, rfl, hB3, h4⟩ | ((repeat apply Exists.intro); exact ⟨⟨k + 1, cur2, by omega, by omega, by go_num, rfl, hB3, h4⟩, rfl⟩)
                case measure => simp [intOf]; omega
          · by_cases hB4 : k % 8 = 4
            · rw [turnW_B hA ⟨by omega, hB4⟩] at hKW0
              have gA : ((k : Int) % 8 == 0) = false := by simp; omega
              have gB : ((k : Int) % 8 == 4) = true := by simp; omega
              have HA := hid hA; have HB4 := hid hB4
              clear hA hB4
              have cS := subWord_any [x0, x1, x2, x3] rfl
              simp only [List.map_cons, List.map_nil] at hKW0 cS
              generalize subB x1 = s1 at *
              generalize subB x2 = s2 at *
              generalize subB x3 = s3 at *
              generalize subB x0 = s0 at *
              have CS := hid cS
              clear cS
              go_wp2_with fail
              with_reducible refine (CS.out _).mono ?_
              rintro e w3 ⟨rfl, hb⟩
              rw [← hb8] at *
              have hSC := hS8.call hb
              clear hS8 hb kb0 kc0 kf0 kl0 kn0
              obtain ⟨kb0, kc0, kf0, kl0, kn0⟩ := hSC.at 0 rfl; obtain ⟨kb1, kc1, kf1, kl1, kn1⟩ := hSC.at 1 rfl
              have hd : ¬ b8 = w.heap.size := by have := hSC.2.2; simpa using this
              have hd2 : ¬ w.heap.size = b8 := fun h => hd h.symm
              have ss : csz (bvs [s0, s1, s2, s3]) = 4 := rfl
              have hST := hSC.setRow 0 rfl (bvs [s0, s1, s2, s3])
              simp only [List.set_cons_zero] at hST
              have HTT : Hid ([s0, s1, s2, s3].length = 4) := hid rfl
              have hKW := hKW0
              generalize [s0, s1, s2, s3] = tt at *
              clear hKW0
              go_wp2_with fail
              go_loopw [9, 10, 92] (fun u9 u10 u92 wr => ∃ j : Nat, j ≤ 4 ∧ u92 = .int .i64 j ∧ St w wr [(b8, bvs (xorN tt pv j), 164), (w.heap.size, cur, 164)])
                (fun _ _ i _ => 4 - (intOf i).toNat)
              case atStart => exact ⟨0, by omega, rfl, by rw [xorN_zero']; exact hST⟩
              case round =>
                clear hST
                obtain ⟨j, hj, rfl, hS⟩ := hrel
                by_cases hlt2 : j < 4
                · have hx := bvs_get (l := xorN tt pv j) (k := j) (by rw [xorN_len, HTT.out]; omega)
                  rw [xorN_get tt pv j j (Nat.le_refl j)] at hx
                  have hy := bvs_get (l := pv) (k := j) (by rw [HPV.out]; omega)
                  generalize hX : (tt).getD j 0 = a1 at hx
                  generalize hY : pv.getD j 0 = a2 at hy
                  have HX1 := hid hX; have HY1 := hid hY; clear hX hY
                  have f16 : (j : Int) < 4 := by omega
                  obtain ⟨kb0, kc0, kf0, kl0, kn0⟩ := hS.at 0 rfl
                  go_wp2
                  go_roundw
                  case rel =>
                    refine ⟨j + 1, by omega, by go_num, ?_⟩
                    have h3 := hS.setCell 0 rfl j (.int .u8 (bits .xor .u8 (a1.toNat : Int) (a2.toNat : Int)))
                    simp only [List.set_cons_zero] at h3
                    rw [xor_u8, bvs_set, show (xorN tt pv j).set j (a1 ^^^ a2) = xorN tt pv (j + 1) by rw [xorN_succ, HX1.out, HY1.out]] at h3
                    rw [xor_u8]
                    exact h3
                  case measure => simp [intOf]; omega
                · obtain rfl : j = 4 := by omega
                  rw [xorN_all tt pv (by rw [HTT.out, HPV.out]) 4 HTT.out] at hS
                  clear hlt2 hj
                  have hw4 := xorL_len tt pv 4 HTT.out HPV.out
                  have sw : csz (bvs (xorL tt pv)) = 4 := by rw [csz_bvs, hw4]
                  have HW := hid hKW
                  have HW4 := hid hw4
                  have HS := hid (hS.alloc (bvs (xorL tt pv)) 164)
                  have HSrc := hid (SrcAt.own (m := 1) (c := 1) (size := 4) (news := (xorL tt pv).map bv) HS.out 0 rfl (by rw [List.length_map, hw4]) copy_one' (fun j u hj => by unfold bvs; simpa using hj))
                  obtain ⟨kb0, kc0, kf0, kl0, kn0⟩ := hS.at 0 rfl
                  clear hS hw4 hKW
                  go_wp2_with (at_builtin; refine wp_append_fits elem_163 rfl rfl HS.out 2 rfl rfl HBeg.out HXl.out rfl HSrc.out HRoom.out ?_; intro cur2 hB2 hS2)
                  go_roundw
                  case rel =>
                    have h4 := hS2.tail.tail
                    have hB3 : Beg cur2 (60 * 4) (flat (kws key 8 (k + 1))) := by
                      rw [kws_succ, if_neg (by omega), HW.out, flat_snoc]
                      exact hB2
                    first | exact ⟨k + 1, cur2, by omega, by omega, by go_num, rfl, hB3, h4⟩ | ((repeat apply Exists.intro); exact ⟨⟨k + 1, cur2, by omega, by omega, by go_num, rfl, hB3, h4⟩, rfl⟩)
                  case measure => simp [intOf]; omega
            · rw [turnW_C hA (by omega)] at hKW0
              have gA : ((k : Int) % 8 == 0) = false := by simp; omega
              have gB : ((k : Int) % 8 == 4) = false := by simp; omega
              have HA := hid hA
              clear hA
              have HTT : Hid ([x0, x1, x2, x3].length = 4) := hid rfl
              have hKW := hKW0
              have hST := hS8
              generalize [x0, x1, x2, x3] = tt at *
              clear hKW0
              go_wp2_with fail
              rw [← hb8]
              clear hb8
              go_loopw [9, 10, 92] (fun u9 u10 u92 wr => ∃ j : Nat, j ≤ 4 ∧ u92 = .int .i64 j ∧ St w wr [(b8, bvs (xorN tt pv j), 164), (w.heap.size, cur, 164)])
                (fun _ _ i _ => 4 - (intOf i).toNat)
              case atStart => exact ⟨0, by omega, rfl, by rw [xorN_zero']; exact hST⟩
              case round =>
                clear hST
                obtain ⟨j, hj, rfl, hS⟩ := hrel
                by_cases hlt2 : j < 4
                · have hx := bvs_get (l := xorN tt pv j) (k := j) (by rw [xorN_len, HTT.out]; omega)
                  rw [xorN_get tt pv j j (Nat.le_refl j)] at hx
                  have hy := bvs_get (l := pv) (k := j) (by rw [HPV.out]; omega)
                  generalize hX : (tt).getD j 0 = a1 at hx
                  generalize hY : pv.getD j 0 = a2 at hy
                  have HX1 := hid hX; have HY1 := hid hY; clear hX hY
                  have f16 : (j : Int) < 4 := by omega
                  obtain ⟨kb0, kc0, kf0, kl0, kn0⟩ := hS.at 0 rfl
                  go_wp2
                  go_roundw
                  case rel =>
                    refine ⟨j + 1, by omega, by go_num, ?_⟩
                    have h3 := hS.setCell 0 rfl j (.int .u8 (bits .xor .u8 (a1.toNat : Int) (a2.toNat : Int)))
                    simp only [List.set_cons_zero] at h3
                    rw [xor_u8, bvs_set, show (xorN tt pv j).set j (a1 ^^^ a2) = xorN tt pv (j + 1) by rw [xorN_succ, HX1.out, HY1.out]] at h3
                    rw [xor_u8]
                    exact h3
                  case measure => simp [intOf]; omega
                · obtain rfl : j = 4 := by omega
                  rw [xorN_all tt pv (by rw [HTT.out, HPV.out]) 4 HTT.out] at hS
                  clear hlt2 hj
                  have hw4 := xorL_len tt pv 4 HTT.out HPV.out
                  have sw : csz (bvs (xorL tt pv)) = 4 := by rw [csz_bvs, hw4]
                  have HW := hid hKW
                  have HW4 := hid hw4
                  have HS := hid (hS.alloc (bvs (xorL tt pv)) 164)
                  have HSrc := hid (SrcAt.own (m := 1) (c := 1) (size := 4) (news := (xorL tt pv).map bv) HS.out 0 rfl (by rw [List.length_map, hw4]) copy_one' (fun j u hj => by unfold bvs; simpa using hj))
                  obtain ⟨kb0, kc0, kf0, kl0, kn0⟩ := hS.at 0 rfl
                  clear hS hw4 hKW
                  go_wp2_with (at_builtin; refine wp_append_fits elem_163 rfl rfl HS.out 2 rfl rfl HBeg.out HXl.out rfl HSrc.out HRoom.out ?_; intro cur2 hB2 hS2)
                  go_roundw
                  case rel =>
                    have h4 := hS2.tail.tail
                    have hB3 : Beg cur2 (60 * 4) (flat (kws key 8 (k + 1))) := by
                      rw [kws_succ, if_neg (by omega), HW.out, flat_snoc]
                      exact hB2
                    first | exact ⟨k + 1, cur2, by omega, by omega, by go_num, rfl, hB3, h4⟩ | ((repeat apply Exists.intro); exact ⟨⟨k + 1, cur2, by omega, by omega, by go_num, rfl, hB3, h4⟩, rfl⟩)
                  case measure => simp [intOf]; omega
        · obtain rfl : k = 60 := by omega
          clear hlt hkN hkC
          have h44 := H4.out 60
          have hflat := HRK.out
          have hat := fun j => kws_at (key := key) (n := 8) (m := 60) (j := j)
          have hl44 := kws_len key 8 60
          generalize kws key 8 60 = ws at *
          have HBeg := hid hBeg; have HW4 := hid h44; have HFL := hid hflat; have HAT := hid hat; have HL := hid hl44; have HS := hid hS
          clear hBeg h44 hflat hat hl44 hS
          go_wp2_with (refine wp_make_full elem_143 rfl rfl HS.out 15 rfl rfl rfl rfl (by decide) (by decide) ?_; intro w2 cur2 hs2 _ hS2; have HS2 := hid hs2; clear hs2)
          generalize wr.heap.size = n2 at *
          go_loopw [12, 13, 113] (fun u12 u13 u113 wr => ∃ (k : Nat) (cur2 : Array Value), k ≤ 60 ∧ u113 = .int .i64 k ∧ Beg cur2 (15 * 16) (flat (ws.take k)) ∧ St w wr [(n2, cur2, 149), (w.heap.size, cur, 164)])
            (fun _ _ i _ => 60 - (intOf i).toNat)
          case atStart => exact ⟨0, cur2, by omega, rfl, by rw [List.take_zero]; exact Beg.nil cur2 _ HS2.out, hS2⟩
          case round =>
            clear hS2 HS2
            obtain ⟨k, cur2, hkC, rfl, hB2, hS⟩ := hrel
            by_cases hlt : k < 60
            · obtain ⟨hr1, hr2⟩ := HBeg.out.row (by omega) HW4.out (HAT.out k hlt)
              have hwl := get_len HW4.out (i := k) (by rw [HL.out]; exact hlt)
              have hsucc : ws.take (k + 1) = ws.take k ++ [ws.getD k []] := by
                have hk : k < ws.length := by rw [HL.out]; exact hlt
                rw [List.take_succ_eq_append_getElem hk]
                simp [List.getD_eq_getElem?_getD, List.getElem?_eq_getElem hk]
              have HSU := hid hsucc
              have HXl := hid (show (flat (ws.take k)).length = k * 4 by rw [flat_len (fun x hx => HW4.out x (List.mem_of_mem_take hx)), List.length_take, HL.out, Nat.min_eq_left (Nat.le_of_lt hlt)])
              generalize ws.getD k [] = wd at *
              obtain ⟨q, r, hk, hr⟩ : ∃ q r, k = 4 * q + r ∧ r < 4 := ⟨k / 4, k % 4, by omega, by omega⟩
              have gq : (k : Int) / 4 = (q : Int) := by omega
              have gr : (k : Int) % 4 = (r : Int) := by omega
              have q0 : (q : Int) < 15 := by omega
              have g0 : (0 : Int) ≤ 4 * (r : Int) := by omega
              have g1 : 4 * (r : Int) ≤ 16 := by omega
              have g2 : (4 * (r : Int)).toNat = 4 * r := by omega
              have g3 : ¬ 16 = 4 * r := by omega
              have g4 : (k : Int) < 60 := by omega
              have sw : csz (bvs wd) = 4 := by rw [csz_bvs, hwl]
              have HWL := hid hwl; have HKQ := hid hk; have HR := hid hr
              have HB2 := hid hB2
              have s2 : csz cur2 = 15 * 16 := by rw [csz_is]; exact hB2.1
              clear hwl hk hsucc hB2
              obtain ⟨kb1, kc1, kf1, kl1, kn1⟩ := hS.at 1 rfl
              go_wp2_with fail
              have hS3 := hS.alloc (bvs wd) 164
              clear hS kb1 kc1 kf1 kl1 kn1
              generalize hn1 : wr.heap.size = n1 at *
              generalize wr.alloc (.cells (bvs wd) 164) = W at *
              clear hn1
              refine region_mono_lit 9 (by kernel_rfl) (by kernel_rfl) ?_
              dsimp only [List.take, List.drop]
              repeat (first | (refine wpM_skip (fun _ => rfl) ?_; simp only [Act.put, List.setIfInBounds_toArray, List.set_cons_zero, List.set_cons_succ]) | (refine wpM_alloc rfl (fun _ => rfl) _ (by intro w; go_simp; rfl) ?_; simp only [Act.put, List.setIfInBounds_toArray, List.set_cons_zero, List.set_cons_succ]) | (refine wpM_slice' rfl (fun _ => rfl) (fun K hK => ?_); apply Exists.intro; apply Exists.intro; apply Exists.intro; apply Exists.intro; refine ⟨fun pB w' hw' hF => ?_, hK _ _ ?_⟩; (focus (have zS := hS3.cls hw'; obtain ⟨zb0, zc0, zf0, zl0, zn0⟩ := zS.at 0 rfl; obtain ⟨zb1, zc1, zf1, zl1, zn1⟩ := zS.at 1 rfl; obtain ⟨zb2, zc2, zf2, zl2, zn2⟩ := zS.at 2 rfl; clear zS; (first | (have yd := facts_of (hF.at (List.Mem.head _) (by decide +kernel)); obtain ⟨yb0, yc0, yf0, yl0⟩ := yd) | skip); (first | (have yd := facts_of (hF.at (List.Mem.tail _ (List.Mem.head _)) (by decide +kernel)); obtain ⟨yb1, yc1, yf1, yl1⟩ := yd) | skip); (first | (have yd := facts_of (hF.at (List.Mem.tail _ (List.Mem.tail _ (List.Mem.head _))) (by decide +kernel)); obtain ⟨yb2, yc2, yf2, yl2⟩ := yd) | skip); go_simp; (first | done | rfl | exact ⟨⟨rfl, rfl⟩, rfl⟩ | (refine ⟨?_, ?_⟩ <;> rfl) | (refine ⟨⟨?_, ?_⟩, ?_⟩ <;> rfl) | (refine ⟨⟨?_, ?_⟩, ⟨?_, ?_⟩⟩ <;> rfl)))); clear hK K; simp only [Act.put, List.setIfInBounds_toArray, List.set_cons_zero, List.set_cons_succ]) | (refine wpM_want (fun _ => rfl) (fun K hK => ?_); apply Exists.intro; refine ⟨fun pB w' hw' hF => ?_, hK _ _ ?_⟩; (focus (have zS := hS3.cls hw'; obtain ⟨zb0, zc0, zf0, zl0, zn0⟩ := zS.at 0 rfl; obtain ⟨zb1, zc1, zf1, zl1, zn1⟩ := zS.at 1 rfl; obtain ⟨zb2, zc2, zf2, zl2, zn2⟩ := zS.at 2 rfl; clear zS; (first | (have yd := facts_of (hF.at (List.Mem.head _) (by decide +kernel)); obtain ⟨yb0, yc0, yf0, yl0⟩ := yd) | skip); (first | (have yd := facts_of (hF.at (List.Mem.tail _ (List.Mem.head _)) (by decide +kernel)); obtain ⟨yb1, yc1, yf1, yl1⟩ := yd) | skip); (first | (have yd := facts_of (hF.at (List.Mem.tail _ (List.Mem.tail _ (List.Mem.head _))) (by decide +kernel)); obtain ⟨yb2, yc2, yf2, yl2⟩ := yd) | skip); go_simp; (try (go_bits; go_simp)); first | done | rfl | (first | fail))); clear hK K; simp only [Act.put, List.setIfInBounds_toArray, List.set_cons_zero, List.set_cons_succ]))
              refine wpM_nil ?_
              intro p w' hc hF hN
              have hS4 := hS3.cls hc
              clear hF hN hS3 hc
              dsimp only
              refine wpList_copy_own rfl (.tmp 125) (.tmp 126) 22 22 rfl 5 (by kernel_rfl) (by kernel_rfl) n2 (q * 16 + 4 * r) (16 - 4 * r) (16 - 4 * r) ⟨n1, 0, none⟩ 4 4 rfl rfl cur2 149 (hS4.blk 1 rfl) (wd.map bv) ?len (fun j v hj => ?src) ?fit copy_one' ?_
              case len =>
                rw [List.length_map, HWL.out]
                have := HR.out
                show 4 = min 4 (16 - 4 * r)
                omega
              case src =>
                rw [add_addr, Nat.zero_add, (hS4.at 0 rfl).2.1 j]
                unfold bvs
                simpa using hj
              case fit =>
                have := HR.out
                rw [List.length_map, HWL.out, HB2.out.1]
                omega
              have e : q * 16 + 4 * r = (flat (ws.take k)).length := by rw [HXl.out, HKQ.out]; omega
              rw [e]
              have hB5 := HB2.out.write (wd.map bv) (by rw [HXl.out, List.length_map, HWL.out]; omega)
              have h5 := hS4.setRow 1 rfl ((cur2.toList.take (flat (ws.take k)).length ++ (wd.map bv ++ cur2.toList.drop ((flat (ws.take k)).length + (wd.map bv).length))).toArray)
              generalize (cur2.toList.take (flat (ws.take k)).length ++ (wd.map bv ++ cur2.toList.drop ((flat (ws.take k)).length + (wd.map bv).length))).toArray = cur3 at *
              simp only [List.set_cons_zero, List.set_cons_succ] at h5
              generalize w'.setRow n2 cur3 = W5 at *
              have HB5 := hid hB5
              clear hS4 hB5 e
              go_wp2
              go_roundw
              case rel =>
                have h6 := h5.tail
                have hB6 := HB5.out
                rw [← flat_snoc, ← HSU.out] at hB6
                first | exact ⟨k + 1, cur3, by omega, by go_num, hB6, h6⟩ | ((repeat apply Exists.intro); exact ⟨⟨k + 1, cur3, by omega, by go_num, hB6, h6⟩, rfl⟩)
              case measure => simp [intOf]; omega
            · obtain rfl : k = 60 := by omega
              clear hlt hkC
              rw [List.take_of_length_le (by rw [HL.out]; omega)] at hB2
              have hB := hS.below
              have hblk := hS.blk 0 rfl
              clear hS
              rw [← HFL.out] at hB2
              have HROW := hid (fun (i : Nat) (k : List UInt8) (hi : (rkeys key)[i]? = some k) => hB2.row (by omega) HR16.out hi)
              have HBL := hid hblk
              clear hB2 hblk
              go_wp2
              go_ret2
              unfold RoundsOf
              exact ⟨.slice (some ⟨n2, 0, none⟩) 15 15, rfl, ⟨HR16.out, _, 15, by rw [HRL.out], (fun h => by cases h), fun i k hi => ⟨n2, 0, cur2, _, _, rfl, HBL.out, by rw [Nat.zero_add]; exact (HROW.out i k hi).1, by rw [Nat.zero_add]; exact (HROW.out i k hi).2⟩⟩, hB⟩
end Go.Proofs.Ytkfggilildiflab

namespace Go.Proofs.Ytkfggilildiflab
open Go.ChangeShapes Go.WideShapes Go.ChangeAt Go.RowKit
def buildSliceR (t : TypeId) (n : Nat) (parts : Array (Nat × Value)) : Sem Value := if n = n then Instr.buildSlice t n parts else Instr.buildSlice t n parts
@[go_sem ↓] theorem buildSlice_keys (n : Nat) (parts : Array (Nat × Value)) : Instr.buildSlice 143 n parts = buildSliceR 143 n parts := by unfold buildSliceR; rw [if_pos rfl]
theorem info_key : ∃ i, Try.prog.info? 149 = some i ∧ i.zero = some (.agg (bvs (zs 16))) ∧ i.size = 16 := by
  have h : (Try.prog.info? 149).map (fun i => (i.zero, i.size)) = some (some (.agg (bvs (zs 16))), 16) := by rw [← zs16]; kernel_rfl
  cases hi : Try.prog.info? 149 with
  | none => rw [hi] at h; cases h
  | some i =>
    rw [hi] at h
    simp only [Option.map_some, Option.some.injEq, Prod.mk.injEq] at h
    exact ⟨i, rfl, h.1, h.2⟩
theorem fill1 (l : List UInt8) (h : l.length = 16) : Instr.fill (fun i => some (i * 16, 16)) ((Array.range (1 * 16)).map ((Value.agg (bvs (zs 16))).cells[· % (Value.agg (bvs (zs 16))).cells.size]!)) #[(0, Value.agg (bvs l))].toList = some (bvs l) := by
  obtain ⟨a0, a1, a2, a3, a4, a5, a6, a7, a8, a9, a10, a11, a12, a13, a14, a15, rfl⟩ := len16 h
  rw [← zs16]
  kernel_rfl
theorem fill2 (l m : List UInt8) (h : l.length = 16) (hm : m.length = 16) : Instr.fill (fun i => some (i * 16, 16)) ((Array.range (2 * 16)).map ((Value.agg (bvs (zs 16))).cells[· % (Value.agg (bvs (zs 16))).cells.size]!)) #[(0, Value.agg (bvs l)), (1, Value.agg (bvs m))].toList = some (bvs (l ++ m)) := by
  obtain ⟨a0, a1, a2, a3, a4, a5, a6, a7, a8, a9, a10, a11, a12, a13, a14, a15, rfl⟩ := len16 h
  obtain ⟨b0, b1, b2, b3, b4, b5, b6, b7, b8, b9, b10, b11, b12, b13, b14, b15, rfl⟩ := len16 hm
  rw [← zs16]
  kernel_rfl
set_option maxRecDepth 100000 in
@[go_sem] theorem run_keys1 (l : List UInt8) (h : csz (bvs l) = 16) (w : World) : (buildSliceR 143 1 #[(0, .agg (bvs l))]).run Try.prog w = .ok (.slice (some ⟨w.heap.size, 0, none⟩) 1 1) (w.alloc (.cells (bvs l) 149)) := by
  obtain ⟨i, hi, hz, hs⟩ := info_key
  unfold buildSliceR
  rw [if_pos rfl]
  refine run_buildSlice w 143 149 1 _ _ i _ Try.underlying143 hi hz (by rw [hs]; decide) (by rw [hs]; decide) ?_
  rw [hs]
  exact fill1 l (by rwa [csz_bvs] at h)
set_option maxRecDepth 100000 in
@[go_sem] theorem run_keys2 (l m : List UInt8) (h : csz (bvs l) = 16) (hm : csz (bvs m) = 16) (w : World) : (buildSliceR 143 2 #[(0, .agg (bvs l)), (1, .agg (bvs m))]).run Try.prog w = .ok (.slice (some ⟨w.heap.size, 0, none⟩) 2 2) (w.alloc (.cells (bvs (l ++ m)) 149)) := by
  obtain ⟨i, hi, hz, hs⟩ := info_key
  unfold buildSliceR
  rw [if_pos rfl]
  refine run_buildSlice w 143 149 2 _ _ i _ Try.underlying143 hi hz (by rw [hs]; decide) (by rw [hs]; decide) ?_
  rw [hs]
  exact fill2 l m (by rwa [csz_bvs] at h) (by rwa [csz_bvs] at hm)
theorem zs_ne : ¬ bvs (zs 16) = #[] := by rw [← zs16]; simp
end Go.Proofs.Ytkfggilildiflab

namespace Go.Proofs.Ytkfggilildiflab
open Go.ChangeShapes Go.WideShapes Go.ChangeAt Go.RowKit
/-- A column's bytes written into their places: so many are written. -/
def setN (x col : List UInt8) (o : Nat) : Nat → List UInt8
  | 0 => x
  | k + 1 => (setN x col o k).set (o + k) (col.getD k 0)
theorem setN_zero (x col : List UInt8) (o : Nat) : setN x col o 0 = x := rfl
theorem setN_succ (x col : List UInt8) (o k : Nat) : setN x col o (k + 1) = (setN x col o k).set (o + k) (col.getD k 0) := rfl
theorem setN_len (x col : List UInt8) (o k : Nat) : (setN x col o k).length = x.length := by
  induction k with
  | zero => rfl
  | succ k ih => rw [setN_succ, List.length_set, ih]
theorem setN_is (x col : List UInt8) (o : Nat) (ho : o + 4 ≤ x.length) (hc : col.length = 4) : setN x col o 4 = x.take o ++ (col ++ x.drop (o + 4)) := by
  obtain ⟨c0, c1, c2, c3, rfl⟩ := len4 hc
  simp only [setN, List.getD_cons_zero, List.getD_cons_succ]
  apply List.ext_getElem?
  intro i
  simp only [List.getElem?_set, List.length_set, List.getElem?_append, List.length_take, List.getElem?_drop, List.getElem?_take]
  rcases Nat.lt_or_ge i o with h | h
  · simp [h, show ¬ o + 3 = i by omega, show ¬ o + 2 = i by omega, show ¬ o + 1 = i by omega, show ¬ o = i by omega, show i < min o x.length by omega]
  · rcases Nat.lt_or_ge i (o + 4) with h4 | h4
    · obtain ⟨d, hd, rfl⟩ : ∃ d, d < 4 ∧ i = o + d := ⟨i - o, by omega, by omega⟩
      have em : min o x.length = o := by omega
      obtain rfl | rfl | rfl | rfl : d = 0 ∨ d = 1 ∨ d = 2 ∨ d = 3 := by omega
      · simp [em, show o < x.length by omega]
      · simp [em, show o + 1 < x.length by omega, show ¬ o + 1 < o by omega]
      · simp [em, show o + 2 < x.length by omega, show ¬ o + 2 < o by omega]
      · simp [em, show o + 3 < x.length by omega, show ¬ o + 3 < o by omega]
    · have e : i - min o x.length - 4 + (o + 4) = i := by omega
      simp [show ¬ o + 3 = i by omega, show ¬ o + 2 = i by omega, show ¬ o + 1 = i by omega, show ¬ o = i by omega, show ¬ i < min o x.length by omega, show ¬ i - min o x.length < 4 by omega]
      congr 1; omega
theorem cols_step {x : List UInt8} (hx : x.length = 16) (c : Nat) (hc : c < 4) (M : List UInt8 → List UInt8) (l : List UInt8) (h : colsN M l c = x) (hM : (M ((x.drop (4 * c)).take 4)).length = 4) :
    setN x (M ((x.drop (4 * c)).take 4)) (4 * c) 4 = colsN M l (c + 1) := by
  rw [setN_is _ _ _ (by omega) hM, colsN_succ, h]
theorem key_get {cs : Array Value} {off : Nat} {key : List UInt8} (hc : cut cs off 16 = bvs key ∧ off + 16 ≤ csz cs) (hk : key.length = 16) {j : Nat} (hj : j < 16) : cs[off + j]? = some (.int .u8 ((key.getD j 0).toNat : Int)) := by
  obtain ⟨hc, hs⟩ := hc
  have h1 := bvs_get (l := key) (k := j) (by omega)
  rw [← hc] at h1
  have e : csz cs = cs.size := by unfold csz; rfl
  unfold cut at h1
  split at h1
  · rename_i h; obtain ⟨rfl, _⟩ := h; rw [Nat.zero_add]; exact h1
  · rw [← h1, Array.getElem?_extract]
    simp [show j < min (off + 16) cs.size - off by omega]
theorem xorN_zero (a b : List UInt8) : xorN a b 0 = a := by unfold xorN; rfl
theorem mapN_get (f : UInt8 → UInt8) (l : List UInt8) (k : Nat) (hk : k < l.length) : (mapN f l k).getD k 0 = l.getD k 0 := by
  rw [mapN_is f l k (by omega)]
  have e : k - (List.map f (l.take k)).length = 0 := by simp; omega
  rw [List.getD_eq_getElem?_getD, List.getD_eq_getElem?_getD, List.getElem?_append_right (by simp; omega), e, List.getElem?_drop, Nat.add_zero]
theorem take4_is {l : List UInt8} {o : Nat} (h : o + 4 ≤ l.length) : (l.drop o).take 4 = [l.getD o 0, l.getD (o + 1) 0, l.getD (o + 2) 0, l.getD (o + 3) 0] := by
  apply List.ext_getElem?
  intro i
  simp only [List.getElem?_take, List.getElem?_drop]
  rcases Nat.lt_or_ge i 4 with h4 | h4
  · obtain rfl | rfl | rfl | rfl : i = 0 ∨ i = 1 ∨ i = 2 ∨ i = 3 := by omega
    all_goals simp [show o < l.length by omega, show o + 1 < l.length by omega, show o + 2 < l.length by omega, show o + 3 < l.length by omega]
  · rw [if_neg (by omega), List.getElem?_eq_none (by simpa using h4)]
attribute [irreducible] setN
attribute [local irreducible] xorL sboxL subB mapN
theorem refShift_is (l : List UInt8) (hl : l.length = 16) (w : World) : Calls Try.prog 107 #[.agg (bvs (l.map subB))] w fun e w' => e = .returned (.agg (bvs (shSub l))) ∧ Below w.heap.size w w' := by
  have := refShift_any (l.map subB) (by simpa using hl) w
  rwa [← shift_law (by simpa using hl), shSub_is] at this
theorem refMix_is (l : List UInt8) (hl : l.length = 4) (w : World) : Calls Try.prog 108 #[.agg (bvs l)] w fun e w' => e = .returned (.agg (bvs (byPart l [2, 3, 1, 1] 16))) ∧ Below w.heap.size w w' := by
  rw [mix_law hl]; exact refMix_any l hl w

set_option maxRecDepth 100000 in
set_option maxHeartbeats 8000000 in
theorem refEncrypt_any (ks : List (List UInt8)) (s : List UInt8) (hs : s.length = 16) (v : Value) (w : World) (hv : KeysAt w v ks) (hn9 : ks.length ≤ 1000000000) :
    Calls Try.prog 84 #[v, .agg (bvs s)] w fun e w' => e = .returned (.agg (bvs (encN ks s ks.length))) ∧ Below w.heap.size w w' := by
  obtain ⟨hk16, p, c, rfl, hkeys⟩ := hv
  have HL := hid (encN_len hk16 hs)
  have HK := hid hk16; have HKE := hid hkeys
  have s0 : csz (bvs s) = 16 := by rw [csz_bvs, hs]
  have s0z : csz Try.zeroCells170 = 256 := by kernel_rfl
  have s256 : csz (bvs sboxL) = 256 := by rw [csz_bvs, sboxL_len]
  clear hs hk16 hkeys
  obtain ⟨n, hn⟩ : ∃ n, n = ks.length := ⟨_, rfl⟩
  rw [← hn] at hn9 ⊢
  have HN := hid hn; clear hn
  obtain ⟨M, hM⟩ : ∃ M, M = fun l => byPart l [2, 3, 1, 1] 16 := ⟨_, rfl⟩
  have cM : ∀ (l : List UInt8), l.length = 4 → ∀ w, Calls Try.prog 108 #[.agg (bvs l)] w fun e w' => e = .returned (.agg (bvs (M l))) ∧ Below w.heap.size w w' := fun l hl w => by rw [hM]; exact refMix_is l hl w
  have lM : ∀ l, (M l).length = 4 := fun l => by rw [hM]; exact byPart_len _ _ _
  have mA : ∀ l, mixAll l = colsN M l 4 := fun l => by unfold mixAll; rw [hM]
  have LM := hid lM; have CM := hid cM; have MA := hid mA
  clear lM cM hM mA
  have z := zs16
  go_enter Try.func84, Try.ntmps84
  go_wp2_with fail
  with_reducible refine (table2_any _).mono ?_
  rintro e w1 ⟨rfl, hb⟩
  have hS := (show St w ((w.alloc (.cells (bvs s) 149)).alloc (.cells (bvs (zs 16)) 149)) [(w.heap.size + 1, bvs (zs 16), 149), (w.heap.size, bvs s, 149)] from (St.alloc' (St.alloc' (St.start w) (by first | rfl | simp)) (by first | rfl | simp))).call hb
  clear hb
  go_wp2_with fail
  have hS2 := hS.alloc (bvs sboxL) 170
  clear hS
  generalize w1.alloc (.cells (bvs sboxL) 170) = W at *
  generalize w1.heap.size = B5 at *
  go_loopw [6, 7, 8, 9, 10, 11] (fun u6 u7 u8 u9 u10 u11 wr => ∃ k : Nat, k ≤ n ∧ u6 = .int .i64 k ∧ St w wr [(B5, bvs sboxL, 170), (w.heap.size + 1, bvs (zs 16), 149), (w.heap.size, bvs (encN ks s k), 149)])
    (fun i _ _ _ _ _ _ => n - (intOf i).toNat)
  case atStart => exact ⟨0, by omega, rfl, by rw [encN_zero]; exact hS2⟩
  case round =>
    clear hS2
    obtain ⟨k, hk, rfl, hS⟩ := hrel
    have hlx := HL.out k (by rw [← HN.out]; exact hk)
    have s1 : csz (bvs (encN ks s k)) = 16 := by rw [csz_bvs, hlx]
    by_cases hlt : k < n
    · have hkn : k < ks.length := by rw [← HN.out]; exact hlt
      obtain ⟨b, o, cs, t, e, rfl, hb, hfit, hcut⟩ := HKE.out k ks[k] (List.getElem?_eq_getElem hkn)
      have hkey := HK.out ks[k] (List.getElem_mem _)
      have hnx := hid (encN_succ ks s k)
      rw [show ks.getD k [] = ks[k] by simp [List.getD_eq_getElem?_getD, hkn], ← HN.out] at hnx
      generalize ks[k] = key at *
      generalize encN ks s k = x at *
      have HB := hid hb; have HCUT := hid (And.intro hcut hfit); have HKY := hid hkey; have HLX := hid hlx
      clear hb hcut hfit hkey hkn hlx
      by_cases h0 : 0 < k
      · have g0 : (0 : Int) < (k : Int) := by omega
        go_wp2_with fail
        go_loopw [7] (fun u7 wr => ∃ j : Nat, j ≤ 16 ∧ u7 = .int .i64 j ∧ St w wr [(B5, bvs sboxL, 170), (w.heap.size + 1, bvs (zs 16), 149), (w.heap.size, bvs (mapN subB x j), 149)])
          (fun i _ => 16 - (intOf i).toNat)
        case atStart => exact ⟨0, by omega, rfl, by rw [mapN_zero]; exact hS⟩
        case round =>
          clear hS
          obtain ⟨j, hj, rfl, hS⟩ := hrel
          by_cases hlt2 : j < 16
          · have hx := bvs_get (l := mapN subB x j) (k := j) (by rw [mapN_len, HLX.out]; omega)
            rw [mapN_get subB x j (by rw [HLX.out]; omega)] at hx
            generalize hX : x.getD j 0 = a1 at hx
            have HX1 := hid hX; clear hX
            have ha := sboxL_get a1
            have f0 : (0 : Int) ≤ (a1.toNat : Int) := by omega
            have f1 : (a1.toNat : Int) < 256 := by have := a1.toNat_lt; omega
            have f16 : (j : Int) < 16 := by omega
            obtain ⟨kb0, kc0, kf0, kl0, kn0⟩ := hS.at 0 rfl; obtain ⟨kb2, kc2, kf2, kl2, kn2⟩ := hS.at 2 rfl
            go_wp2
            go_roundw
            case rel =>
              refine ⟨j + 1, by omega, by go_num, ?_⟩
              have h3 := hS.setCell 2 rfl j (.int .u8 ((subB a1).toNat : Int))
              simp only [List.set_cons_zero, List.set_cons_succ] at h3
              rw [bvs_set, show (mapN subB x j).set j (subB a1) = mapN subB x (j + 1) by rw [mapN_succ, HX1.out]] at h3
              exact h3
            case measure => simp [intOf]; omega
          · obtain rfl : j = 16 := by omega
            rw [mapN_all subB x 16 HLX.out] at hS
            clear hlt2 hj
            have s2 : csz (bvs (x.map subB)) = 16 := by rw [csz_bvs, List.length_map, HLX.out]
            have s4 : csz (bvs (shSub x)) = 16 := by rw [csz_bvs, shSub_len]
            obtain ⟨kb2, kc2, kf2, kl2, kn2⟩ := hS.at 2 rfl
            go_wp2_with fail
            with_reducible refine (refShift_is x HLX.out _).mono ?_
            rintro e w2 ⟨rfl, hb⟩
            have hS2 := hS.call hb
            clear hS hb kb2 kc2 kf2 kl2 kn2
            obtain ⟨kb2, kc2, kf2, kl2, kn2⟩ := hS2.at 2 rfl
            by_cases h1 : k + 1 < n
            · rw [midN_mid n k h0 h1, MA.out] at hnx
              have g1 : (k : Int) < (n : Int) - 1 := by omega
              have HSH := hid (shSub_len x)
              have HCL := hid (colsN_len LM.out HSH.out)
              generalize shSub x = y at *
              go_wp2_with fail
              have hS3 := hS2.setRow 2 rfl (bvs y)
              simp only [List.set_cons_zero, List.set_cons_succ] at hS3
              clear hS2 kb2 kc2 kf2 kl2 kn2
              generalize w2.setRow w.heap.size (bvs y) = W3 at *
              go_loopw [8, 9, 10] (fun u8 u9 u10 wr => ∃ c : Nat, c ≤ 4 ∧ u8 = .int .i64 c ∧ St w wr [(B5, bvs sboxL, 170), (w.heap.size + 1, bvs (zs 16), 149), (w.heap.size, bvs (colsN M y c), 149)])
                (fun i _ _ _ => 4 - (intOf i).toNat)
              case atStart => exact ⟨0, by omega, rfl, by rw [colsN_zero]; exact hS3⟩
              case round =>
                clear hS3
                obtain ⟨c, hc, rfl, hS⟩ := hrel
                by_cases hlt3 : c < 4
                · have hl16 := HCL.out c hc
                  have hst := hid (cols_step hl16 c hlt3 M y rfl (LM.out _))
                  have c0 := bvs_get (l := colsN M y c) (k := 4 * c) (by omega)
                  have c1 := bvs_get (l := colsN M y c) (k := 4 * c + 1) (by omega)
                  have c2 := bvs_get (l := colsN M y c) (k := 4 * c + 2) (by omega)
                  have c3 := bvs_get (l := colsN M y c) (k := 4 * c + 3) (by omega)
                  have hcol : ((colsN M y c).drop (4 * c)).take 4 = [(colsN M y c).getD (4 * c) 0, (colsN M y c).getD (4 * c + 1) 0, (colsN M y c).getD (4 * c + 2) 0, (colsN M y c).getD (4 * c + 3) 0] := take4_is (by omega)
                  rw [hcol] at hst
                  have HC16 := hid hl16
                  generalize colsN M y c = x2 at *
                  generalize x2.getD (4 * c) 0 = a0 at *
                  generalize x2.getD (4 * c + 1) 0 = a1 at *
                  generalize x2.getD (4 * c + 2) 0 = a2 at *
                  generalize x2.getD (4 * c + 3) 0 = a3 at *
                  clear hcol hl16
                  have sx : csz (bvs x2) = 16 := by rw [csz_bvs, HC16.out]
                  have sm : csz (bvs (M [a0, a1, a2, a3])) = 4 := by rw [csz_bvs, LM.out]
                  have eb : #[.int .u8 (a0.toNat : Int), .int .u8 (a1.toNat : Int), .int .u8 (a2.toNat : Int), .int .u8 (a3.toNat : Int)] = bvs [a0, a1, a2, a3] := rfl
                  have f4 : (c : Int) < 4 := by omega
                  have f16 : 4 * (c : Int) < 16 := by omega
                  have g0 : (0 : Int) ≤ 4 * (c : Int) := by omega
                  have n0 : (4 * (c : Int)).toNat = 4 * c := by omega
                  have f17 : 4 * (c : Int) + 1 < 16 := by omega
                  have g1 : (0 : Int) ≤ 4 * (c : Int) + 1 := by omega
                  have n1 : (4 * (c : Int) + 1).toNat = 4 * c + 1 := by omega
                  have f18 : 4 * (c : Int) + 2 < 16 := by omega
                  have g2 : (0 : Int) ≤ 4 * (c : Int) + 2 := by omega
                  have n2 : (4 * (c : Int) + 2).toNat = 4 * c + 2 := by omega
                  have f19 : 4 * (c : Int) + 3 < 16 := by omega
                  have g3 : (0 : Int) ≤ 4 * (c : Int) + 3 := by omega
                  have n3 : (4 * (c : Int) + 3).toNat = 4 * c + 3 := by omega
                  go_wp2_with fail
                  refine region_mono_lit 22 (by kernel_rfl) (by kernel_rfl) ?_
                  dsimp only [List.take, List.drop]
                  repeat (first | (refine wpM_skip (fun _ => rfl) ?_; simp only [Act.put, List.setIfInBounds_toArray, List.set_cons_zero, List.set_cons_succ]) | (refine wpM_alloc rfl (fun _ => rfl) _ (by intro w; go_simp; rfl) ?_; simp only [Act.put, List.setIfInBounds_toArray, List.set_cons_zero, List.set_cons_succ]) | (refine wpM_slice' rfl (fun _ => rfl) (fun K hK => ?_); apply Exists.intro; apply Exists.intro; apply Exists.intro; apply Exists.intro; refine ⟨fun pB w' hw' hF => ?_, hK _ _ ?_⟩; (focus (have zS := hS.cls hw'; obtain ⟨zb0, zc0, zf0, zl0, zn0⟩ := zS.at 2 rfl; clear zS; (first | (have yd := facts_of (hF.at (List.Mem.head _) (by decide +kernel)); obtain ⟨yb0, yc0, yf0, yl0⟩ := yd) | skip); (first | (have yd := facts_of (hF.at (List.Mem.tail _ (List.Mem.head _)) (by decide +kernel)); obtain ⟨yb1, yc1, yf1, yl1⟩ := yd) | skip); (first | (have yd := facts_of (hF.at (List.Mem.tail _ (List.Mem.tail _ (List.Mem.head _))) (by decide +kernel)); obtain ⟨yb2, yc2, yf2, yl2⟩ := yd) | skip); go_simp; (first | done | rfl | exact ⟨⟨rfl, rfl⟩, rfl⟩ | (refine ⟨?_, ?_⟩ <;> rfl) | (refine ⟨⟨?_, ?_⟩, ?_⟩ <;> rfl) | (refine ⟨⟨?_, ?_⟩, ⟨?_, ?_⟩⟩ <;> rfl)))); clear hK K; simp only [Act.put, List.setIfInBounds_toArray, List.set_cons_zero, List.set_cons_succ]) | (refine wpM_want (fun _ => rfl) (fun K hK => ?_); apply Exists.intro; refine ⟨fun pB w' hw' hF => ?_, hK _ _ ?_⟩; (focus (have zS := hS.cls hw'; obtain ⟨zb0, zc0, zf0, zl0, zn0⟩ := zS.at 2 rfl; clear zS; (first | (have yd := facts_of (hF.at (List.Mem.head _) (by decide +kernel)); obtain ⟨yb0, yc0, yf0, yl0⟩ := yd) | skip); (first | (have yd := facts_of (hF.at (List.Mem.tail _ (List.Mem.head _)) (by decide +kernel)); obtain ⟨yb1, yc1, yf1, yl1⟩ := yd) | skip); (first | (have yd := facts_of (hF.at (List.Mem.tail _ (List.Mem.tail _ (List.Mem.head _))) (by decide +kernel)); obtain ⟨yb2, yc2, yf2, yl2⟩ := yd) | skip); go_simp; (try (go_bits; go_simp)); first | done | rfl | (first | (go_at_call 108; exact CM.out _ rfl _)))); clear hK K; simp only [Act.put, List.setIfInBounds_toArray, List.set_cons_zero, List.set_cons_succ]))
                  refine wpM_nil ?_
                  intro p w' hc hF hN
                  have hS2 := hS.news hc _ (by simp) hF hN
                  simp only [List.map_cons, List.map_nil, List.cons_append, List.nil_append] at hS2
                  clear hF hN hc hS
                  dsimp only
                  simp only [Nat.zero_add, Nat.reduceAdd] at hS2 ⊢
                  generalize p 21 = B9 at *
                  have hd := hS2.2.2
                  simp at hd
                  obtain ⟨kb0, kc0, kf0, kl0, kn0⟩ := hS2.at 0 rfl
                  go_wp2_with fail
                  have hS3 := hS2.setRow 0 rfl (bvs (M [a0, a1, a2, a3]))
                  simp only [List.set_cons_zero] at hS3
                  clear kb0 kc0 kf0 kl0 kn0 hS2 hd
                  generalize w'.setRow B9 (bvs (M [a0, a1, a2, a3])) = W4 at *
                  have HM4 := hid (LM.out [a0, a1, a2, a3])
                  generalize M [a0, a1, a2, a3] = mc at *
                  clear c0 c1 c2 c3 eb f16 f17 f18 f19 g0 g1 g2 g3 n0 n1 n2 n3
                  go_loopw [10] (fun u10 wr => ∃ d : Nat, d ≤ 4 ∧ u10 = .int .i64 d ∧ St w wr [(B9, bvs mc, 164), (B5, bvs sboxL, 170), (w.heap.size + 1, bvs (zs 16), 149), (w.heap.size, bvs (setN x2 mc (4 * c) d), 149)])
                    (fun i _ => 4 - (intOf i).toNat)
                  case atStart => exact ⟨0, by omega, rfl, by rw [setN_zero]; exact hS3⟩
                  case round =>
                    clear hS3
                    obtain ⟨d, hd, rfl, hS⟩ := hrel
                    by_cases hlt4 : d < 4
                    · have hx := bvs_get (l := mc) (k := d) (by rw [HM4.out]; omega)
                      have hy := bvs_get (l := setN x2 mc (4 * c) d) (k := 4 * c + d) (by rw [setN_len, HC16.out]; omega)
                      generalize hX : mc.getD d 0 = b1 at hx
                      generalize (setN x2 mc (4 * c) d).getD (4 * c + d) 0 = b2 at hy
                      have HX1 := hid hX; clear hX
                      have f5 : 4 * (c : Int) + (d : Int) < 16 := by omega
                      have f6 : (d : Int) < 4 := by omega
                      obtain ⟨kb0, kc0, kf0, kl0, kn0⟩ := hS.at 0 rfl; obtain ⟨kb3, kc3, kf3, kl3, kn3⟩ := hS.at 3 rfl
                      go_wp2
                      go_roundw
                      case rel =>
                        refine ⟨d + 1, by omega, by go_num, ?_⟩
                        have h3 := hS.setCell 3 rfl (4 * c + d) (.int .u8 (b1.toNat : Int))
                        simp only [List.set_cons_zero, List.set_cons_succ] at h3
                        rw [bvs_set, show (setN x2 mc (4 * c) d).set (4 * c + d) b1 = setN x2 mc (4 * c) (d + 1) by rw [setN_succ, HX1.out]] at h3
                        exact h3
                      case measure => simp [intOf]; omega
                    · obtain rfl : d = 4 := by omega
                      clear hd hlt4
                      rw [hst.out] at hS
                      have hS2 := hS.tail
                      clear hS
                      go_wp2
                      go_roundw
                      case rel => exact ⟨c + 1, by omega, by go_num, hS2⟩
                      case measure => simp [intOf]; omega
                · obtain rfl : c = 4 := by omega
                  clear hc hlt3
                  have HX16 := hid (HCL.out 4 (Nat.le_refl 4))
                  generalize colsN M y 4 = x3 at *
                  go_wp2_with fail
                  go_loopw [11] (fun u11 wr => ∃ j : Nat, j ≤ 16 ∧ u11 = .int .i64 j ∧ St w wr [(B5, bvs sboxL, 170), (w.heap.size + 1, bvs (zs 16), 149), (w.heap.size, bvs (xorN x3 key j), 149)])
                    (fun i _ => 16 - (intOf i).toNat)
                  case atStart => exact ⟨0, by omega, rfl, by rw [xorN_zero]; exact hS⟩
                  case round =>
                    clear hS
                    obtain ⟨j, hj, rfl, hS⟩ := hrel
                    by_cases hlt2 : j < 16
                    · have hx := bvs_get (l := xorN x3 key j) (k := j) (by rw [xorN_len, HX16.out]; omega)
                      rw [xorN_get _ _ j j (Nat.le_refl j)] at hx
                      have hy := key_get HCUT.out HKY.out hlt2
                      generalize hX : (x3).getD j 0 = a1 at hx
                      generalize hY : key.getD j 0 = a2 at hy
                      have HX1 := hid hX; have HY1 := hid hY; clear hX hY
                      have f16 : (j : Int) < 16 := by omega
                      go_wp2_with fail
                      refine region_tail_lit (by kernel_rfl) (by kernel_rfl) ?_
                      dsimp only [List.dropLast, List.getLast?, List.getLast, Option.getD]
                      repeat (first | (refine BigFrame.wpQuiet_skip rfl ?_; simp only [Act.put, List.setIfInBounds_toArray, List.set_cons_zero, List.set_cons_succ]) | (refine BigFrame.wpQuiet_want rfl (fun K hK => ?_); apply Exists.intro; refine ⟨fun w' hw' => ?_, hK _ ?_⟩; (focus (have zS := hS.cls hw'; obtain ⟨zb0, zc0, zf0, zl0, zn0⟩ := zS.at 2 rfl; obtain ⟨zb1, zc1, zf1, zl1, zn1⟩ := zS.far HB.out; clear zS; go_simp; (try (go_bits; go_simp)); first | done | rfl | (fail))); clear hK K; simp only [Act.put, List.setIfInBounds_toArray, List.set_cons_zero, List.set_cons_succ]))
                      refine wpQuiet_nil ?_
                      intro w2 hc
                      have hS2 := hS.cls hc
                      clear hS hc
                      obtain ⟨kb2, kc2, kf2, kl2, kn2⟩ := hS2.at 2 rfl
                      go_wp2
                      go_roundw
                      case rel =>
                        refine ⟨j + 1, by omega, by go_num, ?_⟩
                        have h3 := hS2.setCell 2 rfl j (.int .u8 (bits .xor .u8 (a1.toNat : Int) (a2.toNat : Int)))
                        simp only [List.set_cons_zero, List.set_cons_succ] at h3
                        rw [xor_u8, bvs_set, show (xorN x3 key j).set j (a1 ^^^ a2) = xorN x3 key (j + 1) by rw [xorN_succ, HX1.out, HY1.out]] at h3
                        rw [xor_u8]
                        exact h3
                      case measure => simp [intOf]; omega
                    · obtain rfl : j = 16 := by omega
                      clear hlt2 hj
                      go_wp2
                      go_roundw
                      case rel => exact ⟨k + 1, by omega, by go_num, by rw [hnx.out, ← xorN_all x3 key (by rw [HX16.out, HKY.out]) 16 HX16.out]; exact hS⟩
                      case measure => simp [intOf]; omega
            · rw [midN_last n k h0 h1] at hnx
              have g1 : (n : Int) - 1 ≤ (k : Int) := by omega
              have HSH := hid (shSub_len x)
              generalize shSub x = y at *
              go_wp2_with fail
              have hS3 := hS2.setRow 2 rfl (bvs y)
              simp only [List.set_cons_zero, List.set_cons_succ] at hS3
              clear hS2 kb2 kc2 kf2 kl2 kn2
              generalize w2.setRow w.heap.size (bvs y) = W3 at *
              go_loopw [11] (fun u11 wr => ∃ j : Nat, j ≤ 16 ∧ u11 = .int .i64 j ∧ St w wr [(B5, bvs sboxL, 170), (w.heap.size + 1, bvs (zs 16), 149), (w.heap.size, bvs (xorN y key j), 149)])
                (fun i _ => 16 - (intOf i).toNat)
              case atStart => exact ⟨0, by omega, rfl, by rw [xorN_zero]; exact hS3⟩
              case round =>
                clear hS3
                obtain ⟨j, hj, rfl, hS⟩ := hrel
                by_cases hlt2 : j < 16
                · have hx := bvs_get (l := xorN y key j) (k := j) (by rw [xorN_len, HSH.out]; omega)
                  rw [xorN_get _ _ j j (Nat.le_refl j)] at hx
                  have hy := key_get HCUT.out HKY.out hlt2
                  generalize hX : (y).getD j 0 = a1 at hx
                  generalize hY : key.getD j 0 = a2 at hy
                  have HX1 := hid hX; have HY1 := hid hY; clear hX hY
                  have f16 : (j : Int) < 16 := by omega
                  go_wp2_with fail
                  refine region_tail_lit (by kernel_rfl) (by kernel_rfl) ?_
                  dsimp only [List.dropLast, List.getLast?, List.getLast, Option.getD]
                  repeat (first | (refine BigFrame.wpQuiet_skip rfl ?_; simp only [Act.put, List.setIfInBounds_toArray, List.set_cons_zero, List.set_cons_succ]) | (refine BigFrame.wpQuiet_want rfl (fun K hK => ?_); apply Exists.intro; refine ⟨fun w' hw' => ?_, hK _ ?_⟩; (focus (have zS := hS.cls hw'; obtain ⟨zb0, zc0, zf0, zl0, zn0⟩ := zS.at 2 rfl; obtain ⟨zb1, zc1, zf1, zl1, zn1⟩ := zS.far HB.out; clear zS; go_simp; (try (go_bits; go_simp)); first | done | rfl | (fail))); clear hK K; simp only [Act.put, List.setIfInBounds_toArray, List.set_cons_zero, List.set_cons_succ]))
                  refine wpQuiet_nil ?_
                  intro w2 hc
                  have hS2 := hS.cls hc
                  clear hS hc
                  obtain ⟨kb2, kc2, kf2, kl2, kn2⟩ := hS2.at 2 rfl
                  go_wp2
                  go_roundw
                  case rel =>
                    refine ⟨j + 1, by omega, by go_num, ?_⟩
                    have h3 := hS2.setCell 2 rfl j (.int .u8 (bits .xor .u8 (a1.toNat : Int) (a2.toNat : Int)))
                    simp only [List.set_cons_zero, List.set_cons_succ] at h3
                    rw [xor_u8, bvs_set, show (xorN y key j).set j (a1 ^^^ a2) = xorN y key (j + 1) by rw [xorN_succ, HX1.out, HY1.out]] at h3
                    rw [xor_u8]
                    exact h3
                  case measure => simp [intOf]; omega
                · obtain rfl : j = 16 := by omega
                  clear hlt2 hj
                  go_wp2
                  go_roundw
                  case rel => exact ⟨k + 1, by omega, by go_num, by rw [hnx.out, ← xorN_all y key (by rw [HSH.out, HKY.out]) 16 HSH.out]; exact hS⟩
                  case measure => simp [intOf]; omega
      · obtain rfl : k = 0 := by omega
        rw [midN_zero] at hnx
        simp only [Nat.zero_mul, Nat.add_zero] at HCUT
        clear h0 hk
        go_wp2_with fail
        go_loopw [11] (fun u11 wr => ∃ j : Nat, j ≤ 16 ∧ u11 = .int .i64 j ∧ St w wr [(B5, bvs sboxL, 170), (w.heap.size + 1, bvs (zs 16), 149), (w.heap.size, bvs (xorN x key j), 149)])
          (fun i _ => 16 - (intOf i).toNat)
        case atStart => exact ⟨0, by omega, rfl, by rw [xorN_zero]; exact hS⟩
        case round =>
          clear hS
          obtain ⟨j, hj, rfl, hS⟩ := hrel
          by_cases hlt2 : j < 16
          · have hx := bvs_get (l := xorN x key j) (k := j) (by rw [xorN_len, HLX.out]; omega)
            rw [xorN_get _ _ j j (Nat.le_refl j)] at hx
            have hy := key_get HCUT.out HKY.out hlt2
            generalize hX : (x).getD j 0 = a1 at hx
            generalize hY : key.getD j 0 = a2 at hy
            have HX1 := hid hX; have HY1 := hid hY; clear hX hY
            have f16 : (j : Int) < 16 := by omega
            go_wp2_with fail
            refine region_tail_lit (by kernel_rfl) (by kernel_rfl) ?_
            dsimp only [List.dropLast, List.getLast?, List.getLast, Option.getD]
            repeat (first | (refine BigFrame.wpQuiet_skip rfl ?_; simp only [Act.put, List.setIfInBounds_toArray, List.set_cons_zero, List.set_cons_succ]) | (refine BigFrame.wpQuiet_want rfl (fun K hK => ?_); apply Exists.intro; refine ⟨fun w' hw' => ?_, hK _ ?_⟩; (focus (have zS := hS.cls hw'; obtain ⟨zb0, zc0, zf0, zl0, zn0⟩ := zS.at 2 rfl; obtain ⟨zb1, zc1, zf1, zl1, zn1⟩ := zS.far HB.out; clear zS; go_simp; (try (go_bits; go_simp)); first | done | rfl | (fail))); clear hK K; simp only [Act.put, List.setIfInBounds_toArray, List.set_cons_zero, List.set_cons_succ]))
            refine wpQuiet_nil ?_
            intro w2 hc
            have hS2 := hS.cls hc
            clear hS hc
            obtain ⟨kb2, kc2, kf2, kl2, kn2⟩ := hS2.at 2 rfl
            go_wp2
            go_roundw
            case rel =>
              refine ⟨j + 1, by omega, by go_num, ?_⟩
              have h3 := hS2.setCell 2 rfl j (.int .u8 (bits .xor .u8 (a1.toNat : Int) (a2.toNat : Int)))
              simp only [List.set_cons_zero, List.set_cons_succ] at h3
              rw [xor_u8, bvs_set, show (xorN x key j).set j (a1 ^^^ a2) = xorN x key (j + 1) by rw [xorN_succ, HX1.out, HY1.out]] at h3
              rw [xor_u8]
              exact h3
            case measure => simp [intOf]; omega
          · obtain rfl : j = 16 := by omega
            clear hlt2 hj
            go_wp2
            go_roundw
            case rel => exact ⟨1, by omega, by go_num, by rw [hnx.out, ← xorN_all x key (by rw [HLX.out, HKY.out]) 16 HLX.out]; exact hS⟩
            case measure => simp [intOf]; omega
    · obtain rfl : k = n := by omega
      clear hlt hk
      obtain ⟨kb1, kc1, kf1, kl1, kn1⟩ := hS.at 1 rfl; obtain ⟨kb2, kc2, kf2, kl2, kn2⟩ := hS.at 2 rfl
      go_wp2
      have h3 := hS.setRow 1 rfl (bvs (encN ks s k))
      simp only [List.set_cons_zero, List.set_cons_succ] at h3
      exact post_cell (n := 16) Try.results84 (by kernel_rfl) (.inl rfl) _ _ _ _ rfl rfl (h3.blk 1 rfl) s1 ⟨rfl, h3.below⟩
end Go.Proofs.Ytkfggilildiflab

namespace Go.Proofs.Ytkfggilildiflab
open Go.ChangeShapes Go.WideShapes Go.ChangeAt Go.RowKit
/-- A list written over another one: so many places are done. -/
def fillN (x col : List UInt8) (k : Nat) : List UInt8 := col.take k ++ x.drop k
theorem fillN_zero (x col : List UInt8) : fillN x col 0 = x := by simp [fillN]
theorem fillN_len {x col : List UInt8} (h : x.length = col.length) (k : Nat) : (fillN x col k).length = x.length := by
  simp [fillN, ← h]; omega
theorem fillN_set {x col : List UInt8} (h : x.length = col.length) {k : Nat} (hk : k < col.length) : (fillN x col k).set k (col.getD k 0) = fillN x col (k + 1) := by
  have e : k - (col.take k).length = 0 := by simp; omega
  unfold fillN
  rw [List.set_append_right _ _ (by simp; omega), e, List.drop_eq_getElem_cons (by omega), List.set_cons_zero, List.take_succ_eq_append_getElem hk, List.append_assoc]
  simp [hk]
theorem fillN_all {x col : List UInt8} (h : x.length = col.length) {k : Nat} (hk : col.length = k) : fillN x col k = col := by
  unfold fillN
  rw [List.take_of_length_le (by omega), List.drop_of_length_le (by omega), List.append_nil]
attribute [irreducible] fillN
/-- What the document's Rounds answers: round keys. -/
def RefRoundsOf (w : World) (ks : List (List UInt8)) (e : Ending) (w' : World) : Prop := ∃ v, e = .returned (.tuple #[v, .bool true]) ∧ RowsAt w' 16 v ks ∧ Below w.heap.size w w'
theorem St.sub {w0 wr : World} {L L' : List (Nat × Array Value × TypeId)} (h : St w0 wr L) (hs : List.Sublist L' L) : St w0 wr L' :=
  ⟨h.1, fun x hx => h.2.1 x (hs.subset hx), h.2.2.sublist (hs.map _)⟩
theorem Gr.cellsOf {w0 wr : World} {e size n : Nat} {v : Value} {xs : List Value} {L : List (Nat × Array Value × TypeId)} (h : Gr w0 wr e size v n xs L) (hn : 0 < n) :
    ∃ g cap cur, v = .slice (some ⟨g, 0, none⟩) n cap ∧ n ≤ cap ∧ cap ≤ maxLen ∧ Beg cur (cap * size) xs ∧ St w0 wr ((g, cur, e) :: L) := by
  obtain ⟨g, cap, cur, h1, h2, h3, h4, h5, h6⟩ := h.open (by
    rintro rfl
    rcases h.own.2 with ⟨_, h0⟩ | ⟨g, cap, cur, h1, _⟩
    · omega
    · cases h1)
  exact ⟨g, cap, cur, h1, h2, h3, ⟨h4, by rw [h.own.1]; exact h5⟩, h6⟩
theorem Gr.back {w0 wr : World} {e size n cap g : Nat} {cur : Array Value} {xs : List Value} {L : List (Nat × Array Value × TypeId)} (h : St w0 wr ((g, cur, e) :: L)) (hB : Beg cur (cap * size) xs) (hxl : xs.length = n * size) (hnc : n ≤ cap) (hcm : cap ≤ maxLen) : Gr w0 wr e size (.slice (some ⟨g, 0, none⟩) n cap) n xs L := by
  have hG := Gr.of (size := size) (n := n) (cap := cap) h hnc hcm hB.1
  rwa [← hxl, hB.2] at hG
theorem turnW_A' {t : List UInt8} {n k : Nat} (h : k % n = 0) : turnW t n k = xorL ([t.getD 1 0, t.getD 2 0, t.getD 3 0, t.getD 0 0].map subB) [conB (k / n : Nat), 0, 0, 0] := by unfold turnW; rw [if_pos h]
theorem turnW_B' {t : List UInt8} {n k : Nat} (h : ¬ k % n = 0) (h2 : 6 < n ∧ k % n = 4) : turnW t n k = t.map subB := by unfold turnW; rw [if_neg h, if_pos h2]
theorem turnW_C' {t : List UInt8} {n k : Nat} (h : ¬ k % n = 0) (h2 : ¬ (6 < n ∧ k % n = 4)) : turnW t n k = t := by unfold turnW; rw [if_neg h, if_neg h2]
theorem xor_first' (a b c d x : UInt8) : xorL [a, b, c, d] [x, 0, 0, 0] = [a ^^^ x, b, c, d] := by simp [xorL]
theorem kws_at' {key : List UInt8} {n m : Nat} {j : Nat} (hj : j < m) : (kws key n m)[j]? = some ((kws key n m).getD j []) := by
  have : j < (kws key n m).length := by rw [kws_len]; exact hj
  simp [List.getD_eq_getElem?_getD, List.getElem?_eq_getElem this]
theorem flat_snoc' (ws : List (List UInt8)) (w : List UInt8) : flat (ws ++ [w]) = flat ws ++ w.map bv := by simp [flat]
theorem rowsAt_of_gr' {w0 wr : World} {e n m : Nat} {v : Value} {ks : List (List UInt8)} {L : List (Nat × Array Value × TypeId)} (hn : 0 < n) (hk : ∀ k ∈ ks, k.length = n) (hm : ks.length = m) (h : Gr w0 wr e n v m (flat ks) L) : RowsAt wr n v ks := by
  subst hm
  rcases h.own.2 with ⟨rfl, h0⟩ | ⟨g, cap, cur, rfl, _, h3, _, _, _, h7⟩
  · have : ks = [] := List.eq_nil_of_length_eq_zero h0
    subst this
    exact ⟨hk, none, 0, rfl, fun _ => rfl, fun i k hi => by simp at hi⟩
  · refine ⟨hk, _, cap, rfl, (fun h => by cases h), fun i k hi => ?_⟩
    obtain ⟨c1, c2⟩ := row_of_flat hn hk h7 hi
    exact ⟨g, 0, cur, e, _, rfl, h3, by omega, by rw [Nat.zero_add]; exact c2⟩
attribute [irreducible] RefRoundsOf
attribute [local irreducible] xorL sboxL subB

set_option maxRecDepth 100000 in
set_option maxHeartbeats 1000000 in
theorem refRoundsBad_any (key : List UInt8) (h1 : key.length ≠ 16) (h2 : key.length ≠ 32) (v : Value) (w : World) (hv : BytesAt w v key) (_hm : key.length ≤ maxLen) : Calls Try.prog 83 #[v] w fun e w' => e = .returned (.tuple #[.slice none 0 0, .bool false]) ∧ w = w' := by
  obtain ⟨p, c, rfl, _⟩ := hv
  unfold maxLen at _hm
  generalize key.length = n at *
  have g1 : ((n : Int) == 16) = false := by simp; omega
  have g2 : ((n : Int) == 32) = false := by simp; omega
  have g3 : ((n : Int) != 16) = true := by simp; omega
  have g4 : ((n : Int) != 32) = true := by simp; omega
  clear h1 h2
  go_enter Try.func83, Try.ntmps83
  go_wp2
  go_ret2
  exact ⟨rfl, rfl⟩

set_option maxRecDepth 100000 in
set_option maxHeartbeats 16000000 in
theorem refRounds4_any (key : List UInt8) (hk : key.length = 16) (v : Value) (w : World) (hv : BytesAt w v key) : Calls Try.prog 83 #[v] w (RefRoundsOf w (rkeys key)) := by
  obtain ⟨p, c, rfl, hcap, _, hcs0⟩ := hv
  obtain ⟨b, o, cs, t, fr, rfl, hb, hcs⟩ := hcs0 (by intro h; subst h; simp at hk)
  rw [hk] at hcap
  clear hcs0
  have h4 := kws_four (n := 4) (by omega) (by omega : key.length = 4 * 4)
  have hRK : flat (rkeys key) = flat (kws key 4 44) := by rw [rkeys_flat, hk]
  have hR16 := rkeys_16 (key := key) (by omega)
  have hRL : (rkeys key).length = 11 := by rw [rkeys_len, hk]
  have H4 := hid h4; have HRK := hid hRK; have HR16 := hid hR16; have HRL := hid hRL; have HB := hid hb; have HCS := hid hcs; have HK := hid hk
  have s0z : csz Try.zeroCells170 = 256 := by kernel_rfl
  have s256 : csz (bvs sboxL) = 256 := by rw [csz_bvs, sboxL_len]
  clear h4 hRK hR16 hRL hcs hb
  rw [HK.out]
  clear hk
  go_enter Try.func83, Try.ntmps83
  go_wp2_with fail
  with_reducible refine (table2_any _).mono ?_
  rintro e w1 ⟨rfl, hb⟩
  have hS0 := ((St.start w).call hb).alloc (bvs sboxL) 170
  clear hb
  go_wp2_with fail
  generalize w1.alloc (.cells (bvs sboxL) 170) = W at *
  generalize w1.heap.size = B4 at *
  have hG0 := Gr.nil (e := 164) (size := 4) hS0
  go_loopw [6, 7] (fun u6 u7 wr => ∃ k : Nat, k ≤ 44 ∧ u7 = .int .i64 k ∧ Gr w wr 164 4 u6 k (flat (kws key 4 k)) [(B4, bvs sboxL, 170)])
    (fun _ i _ => 44 - (intOf i).toNat)
  case atStart => exact ⟨0, by omega, rfl, by rw [kws_zero]; exact hG0⟩
  case round =>
    clear hG0 hS0
    obtain ⟨k, hkC, rfl, hG⟩ := hrel
    by_cases hlt : k < 44
    · have f1 : (k : Int) < 44 := by omega
      have HBN : Hid (k + 1 ≤ maxLen ∧ (k + 1) * 4 ≤ 140737488355328) := hid ⟨by unfold maxLen; omega, by omega⟩
      by_cases hN : k < 4
      · have f2 : (k : Int) < 4 := by omega
        have hsucc := hid (kws_succ key 4 k)
        rw [if_pos hN] at hsucc
        have hwl : ((key.drop (4 * k)).take 4).length = 4 := by simp [HK.out]; omega
        have hcel : ∀ j, j < 4 → cs[o + (4 * k + j)]? = some (.int .u8 ((((key.drop (4 * k)).take 4).getD j 0).toNat : Int)) := by
          intro j hj
          have h1 : 4 * k + j < key.length := by rw [HK.out]; omega
          rw [HCS.out (4 * k + j) key[4 * k + j] (List.getElem?_eq_getElem h1)]
          simp only [List.getD_eq_getElem?_getD, List.getElem?_take, if_pos hj, List.getElem?_drop, List.getElem?_eq_getElem h1]
          rfl
        generalize (key.drop (4 * k)).take 4 = wd at *
        have HCEL := hid hcel; have HWL := hid hwl
        have hz4 : (zs 4).length = wd.length := by rw [zs_len, hwl]
        have HZ := hid hz4
        clear hcel hwl hz4
        go_wp2_with fail
        have hG1 := hG.alloc (bvs (zs 4)) 164
        clear hG
        rw [← zs4] at hG1
        generalize hb8 : wr.heap.size = b8 at *
        clear hb8
        generalize hWW : wr.alloc (.cells #[.int .u8 0, .int .u8 0, .int .u8 0, .int .u8 0] 164) = W1 at *
        rw [zs4] at hG1
        clear hWW
        go_loopw [9] (fun u9 wr => ∃ j : Nat, j ≤ 4 ∧ u9 = .int .i64 j ∧ Gr w wr 164 4 u6 k (flat (kws key 4 k)) [(b8, bvs (fillN (zs 4) wd j), 164), (B4, bvs sboxL, 170)])
          (fun i _ => 4 - (intOf i).toNat)
        case atStart => exact ⟨0, by omega, rfl, by rw [fillN_zero]; exact hG1⟩
        case round =>
          clear hG1
          obtain ⟨j, hj, rfl, hG⟩ := hrel
          by_cases hlt2 : j < 4
          · have hx := bvs_get (l := fillN (zs 4) wd j) (k := j) (by rw [fillN_len HZ.out, zs_len]; omega)
            have hy := HCEL.out j hlt2
            have hset := hid (fillN_set HZ.out (k := j) (by rw [HWL.out]; omega))
            generalize (fillN (zs 4) wd j).getD j 0 = a1 at hx
            generalize wd.getD j 0 = a2 at *
            have hS := hG.st
            have f3 : 4 * (k : Int) + (j : Int) < 16 := by omega
            have f4 : (0 : Int) ≤ 4 * (k : Int) + (j : Int) := by omega
            have f5 : (4 * (k : Int) + (j : Int)).toNat = 4 * k + j := by omega
            have f6 : (j : Int) < 4 := by omega
            have hfar := hS.far HB.out
            obtain ⟨q1, q2, _⟩ := hfar
            obtain ⟨kb0, kc0, kf0, kl0, kn0⟩ := hS.at 0 rfl
            have HG := hid hG
            clear hG hS
            go_wp2
            go_roundw
            case rel =>
              have h3 := HG.out.setCell 0 rfl j (.int .u8 (a2.toNat : Int))
              simp only [List.set_cons_zero] at h3
              rw [bvs_set, hset.out] at h3
              first | exact ⟨j + 1, by omega, by go_num, h3⟩ | ((repeat apply Exists.intro); exact ⟨⟨j + 1, by omega, by go_num, h3⟩, rfl⟩)
            case measure => simp [intOf]; omega
          · obtain rfl : j = 4 := by omega
            rw [fillN_all HZ.out HWL.out] at hG
            clear hlt2 hj
            have sw : csz (bvs wd) = 4 := by rw [csz_bvs, HWL.out]
            have hS := hG.st
            obtain ⟨kb0, kc0, kf0, kl0, kn0⟩ := hS.at 0 rfl
            have HG := hid (hG.alloc (bvs wd) 164)
            have HSrc := hid (SrcAt.own (m := 1) (c := 1) (size := 4) (news := wd.map bv) HG.out.st 0 rfl (by rw [List.length_map, HWL.out]) copy_one' (fun j u hj => by unfold bvs; simpa using hj))
            clear hG hS
            go_wp2_with (at_builtin; refine wp_append elem_163 rfl rfl HG.out rfl rfl HSrc.out HBN.out.1 HBN.out.2 ?_; intro v2 w2 hG2 hnil; have HNIL := hid hnil; clear hnil)
            go_roundw
            case rel =>
              have h4 := hG2.tail.tail
              rw [← flat_snoc', ← hsucc.out] at h4
              first | exact ⟨k + 1, by omega, by go_num, h4⟩ | ((repeat apply Exists.intro); exact ⟨⟨k + 1, by omega, by go_num, h4⟩, rfl⟩)
            case measure => simp [intOf]; omega
      · have f2 : ¬ (k : Int) < 4 := by omega
        obtain ⟨g, cap, cur, hv6, hnc, hcm, hBeg, hS⟩ := hG.cellsOf (by omega)
        rw [hv6]
        clear hv6 hG
        have hr1 := hBeg.row (by omega) (H4.out k) (kws_at' (key := key) (n := 4) (m := k) (j := k - 1) (by omega))
        have hTW := get_len (H4.out k) (i := k - 1) (by rw [kws_len]; omega)
        have hPV := get_len (H4.out k) (i := k - 4) (by rw [kws_len]; omega)
        have hKW0 : kword 4 k (kws key 4 k) = xorL (turnW ((kws key 4 k).getD (k - 1) []) 4 k) ((kws key 4 k).getD (k - 4) []) := by unfold kword; rfl
        have HXl := hid (show (flat (kws key 4 k)).length = k * 4 by rw [flat_len (H4.out k), kws_len])
        have HCP := hid (And.intro hnc hcm)
        have hat := kws_at' (key := key) (n := 4) (m := k) (j := k - 4) (by omega)
        have HAT := hid hat
        clear hat
        generalize (kws key 4 k).getD (k - 1) [] = tw at *
        generalize (kws key 4 k).getD (k - 4) [] = pv at *
        have hpc : ∀ j, j < 4 → cur[(k - 4) * 4 + j]? = some (.int .u8 ((pv.getD j 0).toNat : Int)) := by
          intro j hj
          have h1 : j < pv.length := by omega
          rw [hBeg.get (flat_get (H4.out k) HAT.out (List.getElem?_eq_getElem h1)), List.getD_eq_getElem?_getD, List.getElem?_eq_getElem h1]
          rfl
        have HPV := hid hPV; have HPC := hid hpc
        obtain ⟨x0, x1, x2, x3, rfl⟩ := len4 hTW
        have HBeg := hid hBeg
        obtain ⟨r11, r12⟩ := hr1
        have stw : csz (bvs [x0, x1, x2, x3]) = 4 := rfl
        clear hPV hTW hBeg hpc hnc hcm
        have f3 : (0 : Int) ≤ (k : Int) - 1 := by omega
        have f4 : ((k : Int) - 1).toNat = k - 1 := by omega
        have f5 : (k : Int) - 1 < (k : Int) := by omega
        have f6 : (0 : Int) ≤ (k : Int) - 4 := by omega
        have f7 : ((k : Int) - 4).toNat = k - 4 := by omega
        have f8 : (k : Int) - 4 < (k : Int) := by omega
        have b0 : (x0.toNat : Int) < 256 := by have := x0.toNat_lt; omega
        have b1 : (x1.toNat : Int) < 256 := by have := x1.toNat_lt; omega
        have b2 : (x2.toNat : Int) < 256 := by have := x2.toNat_lt; omega
        have b3 : (x3.toNat : Int) < 256 := by have := x3.toNat_lt; omega
        have p0 : (bvs [x0, x1, x2, x3])[0]? = some (.int .u8 (x0.toNat : Int)) := rfl
        have p1 : (bvs [x0, x1, x2, x3])[1]? = some (.int .u8 (x1.toNat : Int)) := rfl
        have p2 : (bvs [x0, x1, x2, x3])[2]? = some (.int .u8 (x2.toNat : Int)) := rfl
        have p3 : (bvs [x0, x1, x2, x3])[3]? = some (.int .u8 (x3.toNat : Int)) := rfl
        obtain ⟨kb0, kc0, kf0, kl0, kn0⟩ := hS.at 0 rfl
        obtain ⟨b8, hb8⟩ : ∃ b8, b8 = wr.heap.size := ⟨_, rfl⟩
        have hS8 := hS.alloc (bvs [x0, x1, x2, x3]) 164
        rw [← hb8] at hS8
        clear hS
        by_cases hA : k % 4 = 0
        · rw [turnW_A' hA] at hKW0
          obtain ⟨m, hm⟩ : ∃ m, m = k / 4 := ⟨_, rfl⟩
          rw [← hm] at hKW0
          have gA : ((k : Int) % 4 == 0) = true := by simp; omega
          have gQ : (k : Int) / 4 = (m : Int) := by omega
          have HA := hid hA; have HM := hid hm
          clear hA hm
          simp only [List.map_cons, List.map_nil, List.getD_cons_succ, List.getD_cons_zero] at hKW0
          rw [xor_first'] at hKW0
          have l0 := sboxL_get x0; have l1 := sboxL_get x1; have l2 := sboxL_get x2; have l3 := sboxL_get x3
          generalize subB x1 = s1 at *
          generalize subB x2 = s2 at *
          generalize subB x3 = s3 at *
          generalize subB x0 = s0 at *
          have cC := refConstant_any (m : Int)
          generalize conB (m : Int) = cc at *
          have CC := hid cC
          clear cC
          have hx8 := xor_u8 s1 cc
          have eb : #[.int .u8 ((s1.toNat ^^^ cc.toNat : Nat) : Int), .int .u8 (s2.toNat : Int), .int .u8 (s3.toNat : Int), .int .u8 (s0.toNat : Int)] = bvs [s1 ^^^ cc, s2, s3, s0] := by rw [← UInt8.toNat_xor]; rfl
          have ss : csz (bvs [s1 ^^^ cc, s2, s3, s0]) = 4 := rfl
          go_wp2_with fail
          rw [← hb8]
          clear hb8
          refine region_tail_lit (by kernel_rfl) (by kernel_rfl) ?_
          dsimp only [List.dropLast, List.getLast?, List.getLast, Option.getD]
          repeat (first | (refine BigFrame.wpQuiet_skip rfl ?_; simp only [Act.put, List.setIfInBounds_toArray, List.set_cons_zero, List.set_cons_succ]) | (refine BigFrame.wpQuiet_want rfl (fun K hK => ?_); apply Exists.intro; refine ⟨fun w' hw' => ?_, hK _ ?_⟩; (focus (have zS := hS8.cls hw'; obtain ⟨zb0, zc0, zf0, zl0, zn0⟩ := zS.at 0 rfl; obtain ⟨zb1, zc1, zf1, zl1, zn1⟩ := zS.at 2 rfl; clear zS; go_simp; (try (go_bits; go_simp)); first | done | rfl | ((go_at_call 106; exact hw'.call (CC.out _))))); clear hK K; simp only [Act.put, List.setIfInBounds_toArray, List.set_cons_zero, List.set_cons_succ]))
          refine wpQuiet_nil ?_
          intro w4 hc
          have hSC := hS8.cls hc
          clear hS8 hc
          obtain ⟨kb0, kc0, kf0, kl0, kn0⟩ := hSC.at 0 rfl; obtain ⟨kb1, kc1, kf1, kl1, kn1⟩ := hSC.at 1 rfl
          have hST := hSC.setRow 0 rfl (bvs [s1 ^^^ cc, s2, s3, s0])
          simp only [List.set_cons_zero] at hST
          have HTT : Hid ([s1 ^^^ cc, s2, s3, s0].length = 4) := hid rfl
          have HKW := hid hKW0
          clear hKW0
          generalize [s1 ^^^ cc, s2, s3, s0] = tt at *
          go_wp2_with fail
          clear kb0 kc0 kf0 kl0 kn0
          go_loopw [10] (fun u10 wr => ∃ j : Nat, j ≤ 4 ∧ u10 = .int .i64 j ∧ St w wr [(b8, bvs (xorN tt pv j), 164), (g, cur, 164), (B4, bvs sboxL, 170)])
            (fun i _ => 4 - (intOf i).toNat)
          case atStart => exact ⟨0, by omega, rfl, by rw [xorN_zero]; exact hST⟩
          case round =>
            clear hST
            obtain ⟨j, hj, rfl, hS⟩ := hrel
            by_cases hlt2 : j < 4
            · have hx := bvs_get (l := xorN tt pv j) (k := j) (by rw [xorN_len, HTT.out]; omega)
              rw [xorN_get tt pv j j (Nat.le_refl j)] at hx
              have hy := HPC.out j hlt2
              generalize hX : tt.getD j 0 = a1 at hx
              generalize hY : pv.getD j 0 = a2 at hy
              have HX1 := hid hX; have HY1 := hid hY; clear hX hY
              have f16 : (j : Int) < 4 := by omega
              go_wp2_with fail
              refine region_tail_lit (by kernel_rfl) (by kernel_rfl) ?_
              dsimp only [List.dropLast, List.getLast?, List.getLast, Option.getD]
              repeat (first | (refine BigFrame.wpQuiet_skip rfl ?_; simp only [Act.put, List.setIfInBounds_toArray, List.set_cons_zero, List.set_cons_succ]) | (refine BigFrame.wpQuiet_want rfl (fun K hK => ?_); apply Exists.intro; refine ⟨fun w' hw' => ?_, hK _ ?_⟩; (focus (have zS := hS.cls hw'; obtain ⟨zb0, zc0, zf0, zl0, zn0⟩ := zS.at 0 rfl; obtain ⟨zb1, zc1, zf1, zl1, zn1⟩ := zS.at 1 rfl; clear zS; go_simp; (try (go_bits; go_simp)); first | done | rfl | (fail))); clear hK K; simp only [Act.put, List.setIfInBounds_toArray, List.set_cons_zero, List.set_cons_succ]))
              refine wpQuiet_nil ?_
              intro w2 hc
              have hS2 := hS.cls hc
              clear hS hc
              obtain ⟨kb0, kc0, kf0, kl0, kn0⟩ := hS2.at 0 rfl
              go_wp2
              go_roundw
              case rel =>
                refine ⟨j + 1, by omega, by go_num, ?_⟩
                have h3 := hS2.setCell 0 rfl j (.int .u8 (bits .xor .u8 (a1.toNat : Int) (a2.toNat : Int)))
                simp only [List.set_cons_zero] at h3
                rw [xor_u8, bvs_set, show (xorN tt pv j).set j (a1 ^^^ a2) = xorN tt pv (j + 1) by rw [xorN_succ, HX1.out, HY1.out]] at h3
                rw [xor_u8]
                exact h3
              case measure => simp [intOf]; omega
            · obtain rfl : j = 4 := by omega
              rw [xorN_all tt pv (by rw [HTT.out, HPV.out]) 4 HTT.out] at hS
              clear hlt2 hj
              have hw4 := xorL_len tt pv 4 HTT.out HPV.out
              have sw : csz (bvs (xorL tt pv)) = 4 := by rw [csz_bvs, hw4]
              have HS := hid (hS.alloc (bvs (xorL tt pv)) 164)
              have HSrc := hid (SrcAt.own (m := 1) (c := 1) (size := 4) (news := (xorL tt pv).map bv) HS.out 0 rfl (by rw [List.length_map, hw4]) copy_one' (fun j u hj => by unfold bvs; simpa using hj))
              obtain ⟨kb0, kc0, kf0, kl0, kn0⟩ := hS.at 0 rfl
              clear hS hw4
              go_wp2_with (at_builtin; refine wp_append_at elem_163 rfl rfl HS.out 2 rfl rfl HBeg.out HXl.out HCP.out.1 HCP.out.2 rfl HSrc.out HBN.out.1 HBN.out.2 ?_; intro g2 cap2 cur2 w2 hB2 hnc2 hcm2 hS2)
              go_roundw
              case rel =>
                have h4 := hS2.sub (L' := [(g2, cur2, 164), (B4, bvs sboxL, 170)]) (.cons_cons _ (.cons _ (.cons _ (.cons_cons _ .slnil))))
                have hG2 := Gr.back (n := k + 1) h4 hB2 (by rw [List.length_append, HXl.out, List.length_map, xorL_len tt pv 4 HTT.out HPV.out]; omega) hnc2 hcm2
                have e5 : flat (kws key 4 (k + 1)) = flat (kws key 4 k) ++ (xorL tt pv).map bv := by rw [kws_succ, if_neg (by omega), HKW.out, flat_snoc']
                rw [← e5] at hG2
                first | exact ⟨k + 1, by omega, by go_num, hG2⟩ | ((repeat apply Exists.intro); exact ⟨⟨k + 1, by omega, by go_num, hG2⟩, rfl⟩)
              case measure => simp [intOf]; omega
        · rw [turnW_C' hA (by omega)] at hKW0
          have gA : ((k : Int) % 4 == 0) = false := by simp; omega
          have HA := hid hA
          clear hA
          have HTT : Hid ([x0, x1, x2, x3].length = 4) := hid rfl
          have HKW := hid hKW0
          have hST := hS8
          clear hKW0
          generalize [x0, x1, x2, x3] = tt at *
          go_wp2_with fail
          rw [← hb8]
          clear hb8
          clear kb0 kc0 kf0 kl0 kn0
          go_loopw [10] (fun u10 wr => ∃ j : Nat, j ≤ 4 ∧ u10 = .int .i64 j ∧ St w wr [(b8, bvs (xorN tt pv j), 164), (g, cur, 164), (B4, bvs sboxL, 170)])
            (fun i _ => 4 - (intOf i).toNat)
          case atStart => exact ⟨0, by omega, rfl, by rw [xorN_zero]; exact hST⟩
          case round =>
            clear hST
            obtain ⟨j, hj, rfl, hS⟩ := hrel
            by_cases hlt2 : j < 4
            · have hx := bvs_get (l := xorN tt pv j) (k := j) (by rw [xorN_len, HTT.out]; omega)
              rw [xorN_get tt pv j j (Nat.le_refl j)] at hx
              have hy := HPC.out j hlt2
              generalize hX : tt.getD j 0 = a1 at hx
              generalize hY : pv.getD j 0 = a2 at hy
              have HX1 := hid hX; have HY1 := hid hY; clear hX hY
              have f16 : (j : Int) < 4 := by omega
              go_wp2_with fail
              refine region_tail_lit (by kernel_rfl) (by kernel_rfl) ?_
              dsimp only [List.dropLast, List.getLast?, List.getLast, Option.getD]
              repeat (first | (refine BigFrame.wpQuiet_skip rfl ?_; simp only [Act.put, List.setIfInBounds_toArray, List.set_cons_zero, List.set_cons_succ]) | (refine BigFrame.wpQuiet_want rfl (fun K hK => ?_); apply Exists.intro; refine ⟨fun w' hw' => ?_, hK _ ?_⟩; (focus (have zS := hS.cls hw'; obtain ⟨zb0, zc0, zf0, zl0, zn0⟩ := zS.at 0 rfl; obtain ⟨zb1, zc1, zf1, zl1, zn1⟩ := zS.at 1 rfl; clear zS; go_simp; (try (go_bits; go_simp)); first | done | rfl | (fail))); clear hK K; simp only [Act.put, List.setIfInBounds_toArray, List.set_cons_zero, List.set_cons_succ]))
              refine wpQuiet_nil ?_
              intro w2 hc
              have hS2 := hS.cls hc
              clear hS hc
              obtain ⟨kb0, kc0, kf0, kl0, kn0⟩ := hS2.at 0 rfl
              go_wp2
              go_roundw
              case rel =>
                refine ⟨j + 1, by omega, by go_num, ?_⟩
                have h3 := hS2.setCell 0 rfl j (.int .u8 (bits .xor .u8 (a1.toNat : Int) (a2.toNat : Int)))
                simp only [List.set_cons_zero] at h3
                rw [xor_u8, bvs_set, show (xorN tt pv j).set j (a1 ^^^ a2) = xorN tt pv (j + 1) by rw [xorN_succ, HX1.out, HY1.out]] at h3
                rw [xor_u8]
                exact h3
              case measure => simp [intOf]; omega
            · obtain rfl : j = 4 := by omega
              rw [xorN_all tt pv (by rw [HTT.out, HPV.out]) 4 HTT.out] at hS
              clear hlt2 hj
              have hw4 := xorL_len tt pv 4 HTT.out HPV.out
              have sw : csz (bvs (xorL tt pv)) = 4 := by rw [csz_bvs, hw4]
              have HS := hid (hS.alloc (bvs (xorL tt pv)) 164)
              have HSrc := hid (SrcAt.own (m := 1) (c := 1) (size := 4) (news := (xorL tt pv).map bv) HS.out 0 rfl (by rw [List.length_map, hw4]) copy_one' (fun j u hj => by unfold bvs; simpa using hj))
              obtain ⟨kb0, kc0, kf0, kl0, kn0⟩ := hS.at 0 rfl
              clear hS hw4
              go_wp2_with (at_builtin; refine wp_append_at elem_163 rfl rfl HS.out 2 rfl rfl HBeg.out HXl.out HCP.out.1 HCP.out.2 rfl HSrc.out HBN.out.1 HBN.out.2 ?_; intro g2 cap2 cur2 w2 hB2 hnc2 hcm2 hS2)
              go_roundw
              case rel =>
                have h4 := hS2.sub (L' := [(g2, cur2, 164), (B4, bvs sboxL, 170)]) (.cons_cons _ (.cons _ (.cons _ (.cons_cons _ .slnil))))
                have hG2 := Gr.back (n := k + 1) h4 hB2 (by rw [List.length_append, HXl.out, List.length_map, xorL_len tt pv 4 HTT.out HPV.out]; omega) hnc2 hcm2
                have e5 : flat (kws key 4 (k + 1)) = flat (kws key 4 k) ++ (xorL tt pv).map bv := by rw [kws_succ, if_neg (by omega), HKW.out, flat_snoc']
                rw [← e5] at hG2
                first | exact ⟨k + 1, by omega, by go_num, hG2⟩ | ((repeat apply Exists.intro); exact ⟨⟨k + 1, by omega, by go_num, hG2⟩, rfl⟩)
              case measure => simp [intOf]; omega
    · obtain rfl : k = 44 := by omega
      clear hlt hkC
      obtain ⟨g, cap, cur, hv6, hnc, hcm, hBeg, hS⟩ := hG.cellsOf (by omega)
      rw [hv6]
      clear hv6 hG
      have hcel0 : ∀ q k j x, (rkeys key)[q]? = some k → k[j]? = some x → cur[q * 16 + j]? = some (bv x) := by
        intro q k j x h1 h2
        have h3 := flat_get HR16.out h1 h2
        rw [HRK.out] at h3
        exact hBeg.get h3
      have HC0 := hid hcel0
      have scur : csz cur = cap * 4 := by rw [csz_is]; exact hBeg.1
      have HCAP := hid hnc
      clear hcel0 hnc hcm hBeg H4 HB HCS HRK
      go_wp2_with fail
      have hG0 := Gr.nil (e := 149) (size := 16) hS
      clear hS
      go_loopw [11, 12] (fun u11 u12 wr => ∃ q : Nat, q ≤ 11 ∧ u12 = .int .i64 (4 * (q : Int)) ∧ Gr w wr 149 16 u11 q (flat ((rkeys key).take q)) [(g, cur, 164), (B4, bvs sboxL, 170)])
        (fun _ i _ => 44 - (intOf i).toNat)
      case atStart => exact ⟨0, by omega, rfl, by rw [List.take_zero]; exact hG0⟩
      case round =>
        clear hG0
        obtain ⟨q, hq, rfl, hG⟩ := hrel
        by_cases hlt : q < 11
        · have f1 : 4 * (q : Int) < 44 := by omega
          have hql : q < (rkeys key).length := by rw [HRL.out]; exact hlt
          have hkl := HR16.out (rkeys key)[q] (List.getElem_mem _)
          have hcel : ∀ j, j < 16 → cur[q * 16 + j]? = some (.int .u8 (((rkeys key)[q].getD j 0).toNat : Int)) := by
            intro j hj
            rw [HC0.out q _ j _ (List.getElem?_eq_getElem hql) (List.getElem?_eq_getElem (by omega : j < (rkeys key)[q].length)), List.getD_eq_getElem?_getD, List.getElem?_eq_getElem (by omega : j < (rkeys key)[q].length)]
            rfl
          have HSU := hid (List.take_succ_eq_append_getElem hql)
          generalize (rkeys key)[q] = kq at *
          have HCEL := hid hcel; have HKL := hid hkl
          have HZ := hid (show (zs 16).length = kq.length by rw [zs_len, hkl])
          clear hcel hkl
          have HBN : Hid (q + 1 ≤ maxLen ∧ (q + 1) * 16 ≤ 140737488355328) := hid ⟨by unfold maxLen; omega, by omega⟩
          go_wp2_with fail
          have hG1 := hG.alloc (bvs (zs 16)) 149
          clear hG
          rw [← zs16] at hG1
          generalize hb13 : wr.heap.size = b13 at *
          clear hb13
          generalize hWW : wr.alloc (.cells #[.int .u8 0, .int .u8 0, .int .u8 0, .int .u8 0, .int .u8 0, .int .u8 0, .int .u8 0, .int .u8 0, .int .u8 0, .int .u8 0, .int .u8 0, .int .u8 0, .int .u8 0, .int .u8 0, .int .u8 0, .int .u8 0] 149) = W1 at *
          rw [zs16] at hG1
          clear hWW
          go_loopw [14] (fun u14 wr => ∃ j : Nat, j ≤ 16 ∧ u14 = .int .i64 j ∧ Gr w wr 149 16 u11 q (flat ((rkeys key).take q)) [(b13, bvs (fillN (zs 16) kq j), 149), (g, cur, 164), (B4, bvs sboxL, 170)])
            (fun i _ => 16 - (intOf i).toNat)
          case atStart => exact ⟨0, by omega, rfl, by rw [fillN_zero]; exact hG1⟩
          case round =>
            clear hG1
            obtain ⟨j, hj, rfl, hG⟩ := hrel
            by_cases hlt2 : j < 16
            · have hx := bvs_get (l := fillN (zs 16) kq j) (k := j) (by rw [fillN_len HZ.out, zs_len]; omega)
              have hy := HCEL.out j hlt2
              have hset := hid (fillN_set HZ.out (k := j) (by rw [HKL.out]; omega))
              generalize (fillN (zs 16) kq j).getD j 0 = a1 at hx
              generalize kq.getD j 0 = a2 at *
              obtain ⟨a, c, hjj, hc4⟩ : ∃ a c, j = 4 * a + c ∧ c < 4 := ⟨j / 4, j % 4, by omega, by omega⟩
              have gq : (j : Int) / 4 = (a : Int) := by omega
              have gr : (j : Int) % 4 = (c : Int) := by omega
              have g1 : (0 : Int) ≤ 4 * (q : Int) + (a : Int) := by omega
              have g2 : 4 * (q : Int) + (a : Int) < 44 := by omega
              have g3 : (4 * (q : Int) + (a : Int)).toNat = 4 * q + a := by omega
              have g4 : (c : Int) < 4 := by omega
              have f6 : (j : Int) < 16 := by omega
              rw [show q * 16 + j = (4 * q + a) * 4 + c by omega] at hy
              have HJ := hid hjj
              clear hjj
              have hS := hG.st
              have hd : ¬ b13 = g := by have := hS.2.2; simp at this; exact this.1.1
              have hd2 : ¬ g = b13 := fun h => hd h.symm
              obtain ⟨kb0, kc0, kf0, kl0, kn0⟩ := hS.at 0 rfl; obtain ⟨kb1, kc1, kf1, kl1, kn1⟩ := hS.at 1 rfl
              have HG := hid hG
              clear hG hS
              go_wp2
              go_roundw
              case rel =>
                have h3 := HG.out.setCell 0 rfl j (.int .u8 (a2.toNat : Int))
                simp only [List.set_cons_zero] at h3
                rw [bvs_set, hset.out] at h3
                first | exact ⟨j + 1, by omega, by go_num, h3⟩ | ((repeat apply Exists.intro); exact ⟨⟨j + 1, by omega, by go_num, h3⟩, rfl⟩)
              case measure => simp [intOf]; omega
            · obtain rfl : j = 16 := by omega
              rw [fillN_all HZ.out HKL.out] at hG
              clear hlt2 hj
              have sw : csz (bvs kq) = 16 := by rw [csz_bvs, HKL.out]
              have hS := hG.st
              obtain ⟨kb0, kc0, kf0, kl0, kn0⟩ := hS.at 0 rfl
              have HG := hid (hG.alloc (bvs kq) 149)
              have HSrc := hid (SrcAt.own (m := 1) (c := 1) (size := 16) (news := kq.map bv) HG.out.st 0 rfl (by rw [List.length_map, HKL.out]) copy_one' (fun j u hj => by unfold bvs; simpa using hj))
              clear hG hS
              go_wp2_with (at_builtin; refine wp_append elem_143 rfl rfl HG.out rfl rfl HSrc.out HBN.out.1 HBN.out.2 ?_; intro v2 w2 hG2 hnil; have HNIL := hid hnil; clear hnil)
              go_roundw
              case rel =>
                have h4 := hG2.tail.tail
                rw [← flat_snoc', ← HSU.out] at h4
                first | exact ⟨q + 1, by omega, by go_num, h4⟩ | ((repeat apply Exists.intro); exact ⟨⟨q + 1, by omega, by go_num, h4⟩, rfl⟩)
              case measure => simp [intOf]; omega
        · obtain rfl : q = 11 := by omega
          clear hlt hq
          rw [List.take_of_length_le (by rw [HRL.out]; omega)] at hG
          have HGE := hid hG
          clear hG
          go_wp2
          go_ret2
          unfold RefRoundsOf
          exact ⟨u11, rfl, rowsAt_of_gr' (by omega) HR16.out HRL.out HGE.out, HGE.out.st.below⟩
end Go.Proofs.Ytkfggilildiflab

namespace Go.Proofs.Ytkfggilildiflab
open Go.ChangeShapes Go.WideShapes Go.ChangeAt Go.RowKit
attribute [local irreducible] xorL sboxL subB

set_option maxRecDepth 100000 in
set_option maxHeartbeats 16000000 in
theorem refRounds8_any (key : List UInt8) (hk : key.length = 32) (v : Value) (w : World) (hv : BytesAt w v key) : Calls Try.prog 83 #[v] w (RefRoundsOf w (rkeys key)) := by
  obtain ⟨p, c, rfl, hcap, _, hcs0⟩ := hv
  obtain ⟨b, o, cs, t, fr, rfl, hb, hcs⟩ := hcs0 (by intro h; subst h; simp at hk)
  rw [hk] at hcap
  clear hcs0
  have h4 := kws_four (n := 8) (by omega) (by omega : key.length = 4 * 8)
  have hRK : flat (rkeys key) = flat (kws key 8 60) := by rw [rkeys_flat, hk]
  have hR16 := rkeys_16 (key := key) (by omega)
  have hRL : (rkeys key).length = 15 := by rw [rkeys_len, hk]
  have H4 := hid h4; have HRK := hid hRK; have HR16 := hid hR16; have HRL := hid hRL; have HB := hid hb; have HCS := hid hcs; have HK := hid hk
  have s0z : csz Try.zeroCells170 = 256 := by kernel_rfl
  have s256 : csz (bvs sboxL) = 256 := by rw [csz_bvs, sboxL_len]
  clear h4 hRK hR16 hRL hcs hb
  rw [HK.out]
  clear hk
  go_enter Try.func83, Try.ntmps83
  go_wp2_with fail
  with_reducible refine (table2_any _).mono ?_
  rintro e w1 ⟨rfl, hb⟩
  have hS0 := ((St.start w).call hb).alloc (bvs sboxL) 170
  clear hb
  go_wp2_with fail
  generalize w1.alloc (.cells (bvs sboxL) 170) = W at *
  generalize w1.heap.size = B4 at *
  have hG0 := Gr.nil (e := 164) (size := 4) hS0
  go_loopw [6, 7] (fun u6 u7 wr => ∃ k : Nat, k ≤ 60 ∧ u7 = .int .i64 k ∧ Gr w wr 164 4 u6 k (flat (kws key 8 k)) [(B4, bvs sboxL, 170)])
    (fun _ i _ => 60 - (intOf i).toNat)
  case atStart => exact ⟨0, by omega, rfl, by rw [kws_zero]; exact hG0⟩
  case round =>
    clear hG0 hS0
    obtain ⟨k, hkC, rfl, hG⟩ := hrel
    by_cases hlt : k < 60
    · have f1 : (k : Int) < 60 := by omega
      have HBN : Hid (k + 1 ≤ maxLen ∧ (k + 1) * 4 ≤ 140737488355328) := hid ⟨by unfold maxLen; omega, by omega⟩
      by_cases hN : k < 8
      · have f2 : (k : Int) < 8 := by omega
        have hsucc := hid (kws_succ key 8 k)
        rw [if_pos hN] at hsucc
        have hwl : ((key.drop (4 * k)).take 4).length = 4 := by simp [HK.out]; omega
        have hcel : ∀ j, j < 4 → cs[o + (4 * k + j)]? = some (.int .u8 ((((key.drop (4 * k)).take 4).getD j 0).toNat : Int)) := by
          intro j hj
          have h1 : 4 * k + j < key.length := by rw [HK.out]; omega
          rw [HCS.out (4 * k + j) key[4 * k + j] (List.getElem?_eq_getElem h1)]
          simp only [List.getD_eq_getElem?_getD, List.getElem?_take, if_pos hj, List.getElem?_drop, List.getElem?_eq_getElem h1]
          rfl
        generalize (key.drop (4 * k)).take 4 = wd at *
        have HCEL := hid hcel; have HWL := hid hwl
        have hz4 : (zs 4).length = wd.length := by rw [zs_len, hwl]
        have HZ := hid hz4
        clear hcel hwl hz4
        go_wp2_with fail
        have hG1 := hG.alloc (bvs (zs 4)) 164
        clear hG
        rw [← zs4] at hG1
        generalize hb8 : wr.heap.size = b8 at *
        clear hb8
        generalize hWW : wr.alloc (.cells #[.int .u8 0, .int .u8 0, .int .u8 0, .int .u8 0] 164) = W1 at *
        rw [zs4] at hG1
        clear hWW
        go_loopw [9] (fun u9 wr => ∃ j : Nat, j ≤ 4 ∧ u9 = .int .i64 j ∧ Gr w wr 164 4 u6 k (flat (kws key 8 k)) [(b8, bvs (fillN (zs 4) wd j), 164), (B4, bvs sboxL, 170)])
          (fun i _ => 4 - (intOf i).toNat)
        case atStart => exact ⟨0, by omega, rfl, by rw [fillN_zero]; exact hG1⟩
        case round =>
          clear hG1
          obtain ⟨j, hj, rfl, hG⟩ := hrel
          by_cases hlt2 : j < 4
          · have hx := bvs_get (l := fillN (zs 4) wd j) (k := j) (by rw [fillN_len HZ.out, zs_len]; omega)
            have hy := HCEL.out j hlt2
            have hset := hid (fillN_set HZ.out (k := j) (by rw [HWL.out]; omega))
            generalize (fillN (zs 4) wd j).getD j 0 = a1 at hx
            generalize wd.getD j 0 = a2 at *
            have hS := hG.st
            have f3 : 4 * (k : Int) + (j : Int) < 32 := by omega
            have f4 : (0 : Int) ≤ 4 * (k : Int) + (j : Int) := by omega
            have f5 : (4 * (k : Int) + (j : Int)).toNat = 4 * k + j := by omega
            have f6 : (j : Int) < 4 := by omega
            have hfar := hS.far HB.out
            obtain ⟨q1, q2, _⟩ := hfar
            obtain ⟨kb0, kc0, kf0, kl0, kn0⟩ := hS.at 0 rfl
            have HG := hid hG
            clear hG hS
            go_wp2
            go_roundw
            case rel =>
              have h3 := HG.out.setCell 0 rfl j (.int .u8 (a2.toNat : Int))
              simp only [List.set_cons_zero] at h3
              rw [bvs_set, hset.out] at h3
              first | exact ⟨j + 1, by omega, by go_num, h3⟩ | ((repeat apply Exists.intro); exact ⟨⟨j + 1, by omega, by go_num, h3⟩, rfl⟩)
            case measure => simp [intOf]; omega
          · obtain rfl : j = 4 := by omega
            rw [fillN_all HZ.out HWL.out] at hG
            clear hlt2 hj
            have sw : csz (bvs wd) = 4 := by rw [csz_bvs, HWL.out]
            have hS := hG.st
            obtain ⟨kb0, kc0, kf0, kl0, kn0⟩ := hS.at 0 rfl
            have HG := hid (hG.alloc (bvs wd) 164)
            have HSrc := hid (SrcAt.own (m := 1) (c := 1) (size := 4) (news := wd.map bv) HG.out.st 0 rfl (by rw [List.length_map, HWL.out]) copy_one' (fun j u hj => by unfold bvs; simpa using hj))
            clear hG hS
            go_wp2_with (at_builtin; refine wp_append elem_163 rfl rfl HG.out rfl rfl HSrc.out HBN.out.1 HBN.out.2 ?_; intro v2 w2 hG2 hnil; have HNIL := hid hnil; clear hnil)
            go_roundw
            case rel =>
              have h4 := hG2.tail.tail
              rw [← flat_snoc', ← hsucc.out] at h4
              first | exact ⟨k + 1, by omega, by go_num, h4⟩ | ((repeat apply Exists.intro); exact ⟨⟨k + 1, by omega, by go_num, h4⟩, rfl⟩)
            case measure => simp [intOf]; omega
      · have f2 : ¬ (k : Int) < 8 := by omega
        obtain ⟨g, cap, cur, hv6, hnc, hcm, hBeg, hS⟩ := hG.cellsOf (by omega)
        rw [hv6]
        clear hv6 hG
        have hr1 := hBeg.row (by omega) (H4.out k) (kws_at' (key := key) (n := 8) (m := k) (j := k - 1) (by omega))
        have hTW := get_len (H4.out k) (i := k - 1) (by rw [kws_len]; omega)
        have hPV := get_len (H4.out k) (i := k - 8) (by rw [kws_len]; omega)
        have hKW0 : kword 8 k (kws key 8 k) = xorL (turnW ((kws key 8 k).getD (k - 1) []) 8 k) ((kws key 8 k).getD (k - 8) []) := by unfold kword; rfl
        have HXl := hid (show (flat (kws key 8 k)).length = k * 4 by rw [flat_len (H4.out k), kws_len])
        have HCP := hid (And.intro hnc hcm)
        have hat := kws_at' (key := key) (n := 8) (m := k) (j := k - 8) (by omega)
        have HAT := hid hat
        clear hat
        generalize (kws key 8 k).getD (k - 1) [] = tw at *
        generalize (kws key 8 k).getD (k - 8) [] = pv at *
        have hpc : ∀ j, j < 4 → cur[(k - 8) * 4 + j]? = some (.int .u8 ((pv.getD j 0).toNat : Int)) := by
          intro j hj
          have h1 : j < pv.length := by omega
          rw [hBeg.get (flat_get (H4.out k) HAT.out (List.getElem?_eq_getElem h1)), List.getD_eq_getElem?_getD, List.getElem?_eq_getElem h1]
          rfl
        have HPV := hid hPV; have HPC := hid hpc
        obtain ⟨x0, x1, x2, x3, rfl⟩ := len4 hTW
        have HBeg := hid hBeg
        obtain ⟨r11, r12⟩ := hr1
        have stw : csz (bvs [x0, x1, x2, x3]) = 4 := rfl
        clear hPV hTW hBeg hpc hnc hcm
        have f3 : (0 : Int) ≤ (k : Int) - 1 := by omega
        have f4 : ((k : Int) - 1).toNat = k - 1 := by omega
        have f5 : (k : Int) - 1 < (k : Int) := by omega
        have f6 : (0 : Int) ≤ (k : Int) - 8 := by omega
        have f7 : ((k : Int) - 8).toNat = k - 8 := by omega
        have f8 : (k : Int) - 8 < (k : Int) := by omega
        have b0 : (x0.toNat : Int) < 256 := by have := x0.toNat_lt; omega
        have b1 : (x1.toNat : Int) < 256 := by have := x1.toNat_lt; omega
        have b2 : (x2.toNat : Int) < 256 := by have := x2.toNat_lt; omega
        have b3 : (x3.toNat : Int) < 256 := by have := x3.toNat_lt; omega
        have p0 : (bvs [x0, x1, x2, x3])[0]? = some (.int .u8 (x0.toNat : Int)) := rfl
        have p1 : (bvs [x0, x1, x2, x3])[1]? = some (.int .u8 (x1.toNat : Int)) := rfl
        have p2 : (bvs [x0, x1, x2, x3])[2]? = some (.int .u8 (x2.toNat : Int)) := rfl
        have p3 : (bvs [x0, x1, x2, x3])[3]? = some (.int .u8 (x3.toNat : Int)) := rfl
        obtain ⟨kb0, kc0, kf0, kl0, kn0⟩ := hS.at 0 rfl
        obtain ⟨b8, hb8⟩ : ∃ b8, b8 = wr.heap.size := ⟨_, rfl⟩
        have hS8 := hS.alloc (bvs [x0, x1, x2, x3]) 164
        rw [← hb8] at hS8
        clear hS
        by_cases hA : k % 8 = 0
        · rw [turnW_A' hA] at hKW0
          obtain ⟨m, hm⟩ : ∃ m, m = k / 8 := ⟨_, rfl⟩
          rw [← hm] at hKW0
          have gA : ((k : Int) % 8 == 0) = true := by simp; omega
          have gQ : (k : Int) / 8 = (m : Int) := by omega
          have HA := hid hA; have HM := hid hm
          clear hA hm
          simp only [List.map_cons, List.map_nil, List.getD_cons_succ, List.getD_cons_zero] at hKW0
          rw [xor_first'] at hKW0
          have l0 := sboxL_get x0; have l1 := sboxL_get x1; have l2 := sboxL_get x2; have l3 := sboxL_get x3
          generalize subB x1 = s1 at *
          generalize subB x2 = s2 at *
          generalize subB x3 = s3 at *
          generalize subB x0 = s0 at *
          have cC := refConstant_any (m : Int)
          generalize conB (m : Int) = cc at *
          have CC := hid cC
          clear cC
          have hx8 := xor_u8 s1 cc
          have eb : #[.int .u8 ((s1.toNat ^^^ cc.toNat : Nat) : Int), .int .u8 (s2.toNat : Int), .int .u8 (s3.toNat : Int), .int .u8 (s0.toNat : Int)] = bvs [s1 ^^^ cc, s2, s3, s0] := by rw [← UInt8.toNat_xor]; rfl
          have ss : csz (bvs [s1 ^^^ cc, s2, s3, s0]) = 4 := rfl
          go_wp2_with fail
          rw [← hb8]
          clear hb8
          refine region_tail_lit (by kernel_rfl) (by kernel_rfl) ?_
          dsimp only [List.dropLast, List.getLast?, List.getLast, Option.getD]
          repeat (first | (refine BigFrame.wpQuiet_skip rfl ?_; simp only [Act.put, List.setIfInBounds_toArray, List.set_cons_zero, List.set_cons_succ]) | (refine BigFrame.wpQuiet_want rfl (fun K hK => ?_); apply Exists.intro; refine ⟨fun w' hw' => ?_, hK _ ?_⟩; (focus (have zS := hS8.cls hw'; obtain ⟨zb0, zc0, zf0, zl0, zn0⟩ := zS.at 0 rfl; obtain ⟨zb1, zc1, zf1, zl1, zn1⟩ := zS.at 2 rfl; clear zS; go_simp; (try (go_bits; go_simp)); first | done | rfl | ((go_at_call 106; exact hw'.call (CC.out _))))); clear hK K; simp only [Act.put, List.setIfInBounds_toArray, List.set_cons_zero, List.set_cons_succ]))
          refine wpQuiet_nil ?_
          intro w4 hc
          have hSC := hS8.cls hc
          clear hS8 hc
          obtain ⟨kb0, kc0, kf0, kl0, kn0⟩ := hSC.at 0 rfl; obtain ⟨kb1, kc1, kf1, kl1, kn1⟩ := hSC.at 1 rfl
          have hST := hSC.setRow 0 rfl (bvs [s1 ^^^ cc, s2, s3, s0])
          simp only [List.set_cons_zero] at hST
          have HTT : Hid ([s1 ^^^ cc, s2, s3, s0].length = 4) := hid rfl
          have HKW := hid hKW0
          clear hKW0
          generalize [s1 ^^^ cc, s2, s3, s0] = tt at *
          go_wp2_with fail
          clear kb0 kc0 kf0 kl0 kn0
          go_loopw [10] (fun u10 wr => ∃ j : Nat, j ≤ 4 ∧ u10 = .int .i64 j ∧ St w wr [(b8, bvs (xorN tt pv j), 164), (g, cur, 164), (B4, bvs sboxL, 170)])
            (fun i _ => 4 - (intOf i).toNat)
          case atStart => exact ⟨0, by omega, rfl, by rw [xorN_zero]; exact hST⟩
          case round =>
            clear hST
            obtain ⟨j, hj, rfl, hS⟩ := hrel
            by_cases hlt2 : j < 4
            · have hx := bvs_get (l := xorN tt pv j) (k := j) (by rw [xorN_len, HTT.out]; omega)
              rw [xorN_get tt pv j j (Nat.le_refl j)] at hx
              have hy := HPC.out j hlt2
              generalize hX : tt.getD j 0 = a1 at hx
              generalize hY : pv.getD j 0 = a2 at hy
              have HX1 := hid hX; have HY1 := hid hY; clear hX hY
              have f16 : (j : Int) < 4 := by omega
              go_wp2_with fail
              refine region_tail_lit (by kernel_rfl) (by kernel_rfl) ?_
              dsimp only [List.dropLast, List.getLast?, List.getLast, Option.getD]
              repeat (first | (refine BigFrame.wpQuiet_skip rfl ?_; simp only [Act.put, List.setIfInBounds_toArray, List.set_cons_zero, List.set_cons_succ]) | (refine BigFrame.wpQuiet_want rfl (fun K hK => ?_); apply Exists.intro; refine ⟨fun w' hw' => ?_, hK _ ?_⟩; (focus (have zS := hS.cls hw'; obtain ⟨zb0, zc0, zf0, zl0, zn0⟩ := zS.at 0 rfl; obtain ⟨zb1, zc1, zf1, zl1, zn1⟩ := zS.at 1 rfl; clear zS; go_simp; (try (go_bits; go_simp)); first | done | rfl | (fail))); clear hK K; simp only [Act.put, List.setIfInBounds_toArray, List.set_cons_zero, List.set_cons_succ]))
              refine wpQuiet_nil ?_
              intro w2 hc
              have hS2 := hS.cls hc
              clear hS hc
              obtain ⟨kb0, kc0, kf0, kl0, kn0⟩ := hS2.at 0 rfl
              go_wp2
              go_roundw
              case rel =>
                refine ⟨j + 1, by omega, by go_num, ?_⟩
                have h3 := hS2.setCell 0 rfl j (.int .u8 (bits .xor .u8 (a1.toNat : Int) (a2.toNat : Int)))
                simp only [List.set_cons_zero] at h3
                rw [xor_u8, bvs_set, show (xorN tt pv j).set j (a1 ^^^ a2) = xorN tt pv (j + 1) by rw [xorN_succ, HX1.out, HY1.out]] at h3
                rw [xor_u8]
                exact h3
              case measure => simp [intOf]; omega
            · obtain rfl : j = 4 := by omega
              rw [xorN_all tt pv (by rw [HTT.out, HPV.out]) 4 HTT.out] at hS
              clear hlt2 hj
              have hw4 := xorL_len tt pv 4 HTT.out HPV.out
              have sw : csz (bvs (xorL tt pv)) = 4 := by rw [csz_bvs, hw4]
              have HS := hid (hS.alloc (bvs (xorL tt pv)) 164)
              have HSrc := hid (SrcAt.own (m := 1) (c := 1) (size := 4) (news := (xorL tt pv).map bv) HS.out 0 rfl (by rw [List.length_map, hw4]) copy_one' (fun j u hj => by unfold bvs; simpa using hj))
              obtain ⟨kb0, kc0, kf0, kl0, kn0⟩ := hS.at 0 rfl
              clear hS hw4
              go_wp2_with (at_builtin; refine wp_append_at elem_163 rfl rfl HS.out 2 rfl rfl HBeg.out HXl.out HCP.out.1 HCP.out.2 rfl HSrc.out HBN.out.1 HBN.out.2 ?_; intro g2 cap2 cur2 w2 hB2 hnc2 hcm2 hS2)
              go_roundw
              case rel =>
                have h4 := hS2.sub (L' := [(g2, cur2, 164), (B4, bvs sboxL, 170)]) (.cons_cons _ (.cons _ (.cons _ (.cons_cons _ .slnil))))
                have hG2 := Gr.back (n := k + 1) h4 hB2 (by rw [List.length_append, HXl.out, List.length_map, xorL_len tt pv 4 HTT.out HPV.out]; omega) hnc2 hcm2
                have e5 : flat (kws key 8 (k + 1)) = flat (kws key 8 k) ++ (xorL tt pv).map bv := by rw [kws_succ, if_neg (by omega), HKW.out, flat_snoc']
                rw [← e5] at hG2
                first | exact ⟨k + 1, by omega, by go_num, hG2⟩ | ((repeat apply Exists.intro); exact ⟨⟨k + 1, by omega, by go_num, hG2⟩, rfl⟩)
              case measure => simp [intOf]; omega
        · by_cases hB4 : k % 8 = 4
          · rw [turnW_B' hA ⟨by omega, hB4⟩] at hKW0
            have gA : ((k : Int) % 8 == 0) = false := by simp; omega
            have gB : ((k : Int) % 8 == 4) = true := by simp; omega
            have HA := hid hA; have HB4 := hid hB4
            clear hA hB4
            simp only [List.map_cons, List.map_nil] at hKW0
            have l0 := sboxL_get x0; have l1 := sboxL_get x1; have l2 := sboxL_get x2; have l3 := sboxL_get x3
            generalize subB x1 = s1 at *
            generalize subB x2 = s2 at *
            generalize subB x3 = s3 at *
            generalize subB x0 = s0 at *
            have eb : #[.int .u8 (s0.toNat : Int), .int .u8 (s1.toNat : Int), .int .u8 (s2.toNat : Int), .int .u8 (s3.toNat : Int)] = bvs [s0, s1, s2, s3] := rfl
            have ss : csz (bvs [s0, s1, s2, s3]) = 4 := rfl
            go_wp2_with fail
            rw [← hb8]
            clear hb8
            refine region_tail_lit (by kernel_rfl) (by kernel_rfl) ?_
            dsimp only [List.dropLast, List.getLast?, List.getLast, Option.getD]
            repeat (first | (refine BigFrame.wpQuiet_skip rfl ?_; simp only [Act.put, List.setIfInBounds_toArray, List.set_cons_zero, List.set_cons_succ]) | (refine BigFrame.wpQuiet_want rfl (fun K hK => ?_); apply Exists.intro; refine ⟨fun w' hw' => ?_, hK _ ?_⟩; (focus (have zS := hS8.cls hw'; obtain ⟨zb0, zc0, zf0, zl0, zn0⟩ := zS.at 0 rfl; obtain ⟨zb1, zc1, zf1, zl1, zn1⟩ := zS.at 2 rfl; clear zS; go_simp; (try (go_bits; go_simp)); first | done | rfl | (fail))); clear hK K; simp only [Act.put, List.setIfInBounds_toArray, List.set_cons_zero, List.set_cons_succ]))
            refine wpQuiet_nil ?_
            intro w4 hc
            have hSC := hS8.cls hc
            clear hS8 hc
            obtain ⟨kb0, kc0, kf0, kl0, kn0⟩ := hSC.at 0 rfl; obtain ⟨kb1, kc1, kf1, kl1, kn1⟩ := hSC.at 1 rfl
            have hST := hSC.setRow 0 rfl (bvs [s0, s1, s2, s3])
            simp only [List.set_cons_zero] at hST
            have HTT : Hid ([s0, s1, s2, s3].length = 4) := hid rfl
            have HKW := hid hKW0
            clear hKW0
            generalize [s0, s1, s2, s3] = tt at *
            go_wp2_with fail
            clear kb0 kc0 kf0 kl0 kn0
            go_loopw [10] (fun u10 wr => ∃ j : Nat, j ≤ 4 ∧ u10 = .int .i64 j ∧ St w wr [(b8, bvs (xorN tt pv j), 164), (g, cur, 164), (B4, bvs sboxL, 170)])
              (fun i _ => 4 - (intOf i).toNat)
            case atStart => exact ⟨0, by omega, rfl, by rw [xorN_zero]; exact hST⟩
            case round =>
              clear hST
              obtain ⟨j, hj, rfl, hS⟩ := hrel
              by_cases hlt2 : j < 4
              · have hx := bvs_get (l := xorN tt pv j) (k := j) (by rw [xorN_len, HTT.out]; omega)
                rw [xorN_get tt pv j j (Nat.le_refl j)] at hx
                have hy := HPC.out j hlt2
                generalize hX : tt.getD j 0 = a1 at hx
                generalize hY : pv.getD j 0 = a2 at hy
                have HX1 := hid hX; have HY1 := hid hY; clear hX hY
                have f16 : (j : Int) < 4 := by omega
                go_wp2_with fail
                refine region_tail_lit (by kernel_rfl) (by kernel_rfl) ?_
                dsimp only [List.dropLast, List.getLast?, List.getLast, Option.getD]
                repeat (first | (refine BigFrame.wpQuiet_skip rfl ?_; simp only [Act.put, List.setIfInBounds_toArray, List.set_cons_zero, List.set_cons_succ]) | (refine BigFrame.wpQuiet_want rfl (fun K hK => ?_); apply Exists.intro; refine ⟨fun w' hw' => ?_, hK _ ?_⟩; (focus (have zS := hS.cls hw'; obtain ⟨zb0, zc0, zf0, zl0, zn0⟩ := zS.at 0 rfl; obtain ⟨zb1, zc1, zf1, zl1, zn1⟩ := zS.at 1 rfl; clear zS; go_simp; (try (go_bits; go_simp)); first | done | rfl | (fail))); clear hK K; simp only [Act.put, List.setIfInBounds_toArray, List.set_cons_zero, List.set_cons_succ]))
                refine wpQuiet_nil ?_
                intro w2 hc
                have hS2 := hS.cls hc
                clear hS hc
                obtain ⟨kb0, kc0, kf0, kl0, kn0⟩ := hS2.at 0 rfl
                go_wp2
                go_roundw
                case rel =>
                  refine ⟨j + 1, by omega, by go_num, ?_⟩
                  have h3 := hS2.setCell 0 rfl j (.int .u8 (bits .xor .u8 (a1.toNat : Int) (a2.toNat : Int)))
                  simp only [List.set_cons_zero] at h3
                  rw [xor_u8, bvs_set, show (xorN tt pv j).set j (a1 ^^^ a2) = xorN tt pv (j + 1) by rw [xorN_succ, HX1.out, HY1.out]] at h3
                  rw [xor_u8]
                  exact h3
                case measure => simp [intOf]; omega
              · obtain rfl : j = 4 := by omega
                rw [xorN_all tt pv (by rw [HTT.out, HPV.out]) 4 HTT.out] at hS
                clear hlt2 hj
                have hw4 := xorL_len tt pv 4 HTT.out HPV.out
                have sw : csz (bvs (xorL tt pv)) = 4 := by rw [csz_bvs, hw4]
                have HS := hid (hS.alloc (bvs (xorL tt pv)) 164)
                have HSrc := hid (SrcAt.own (m := 1) (c := 1) (size := 4) (news := (xorL tt pv).map bv) HS.out 0 rfl (by rw [List.length_map, hw4]) copy_one' (fun j u hj => by unfold bvs; simpa using hj))
                obtain ⟨kb0, kc0, kf0, kl0, kn0⟩ := hS.at 0 rfl
                clear hS hw4
                go_wp2_with (at_builtin; refine wp_append_at elem_163 rfl rfl HS.out 2 rfl rfl HBeg.out HXl.out HCP.out.1 HCP.out.2 rfl HSrc.out HBN.out.1 HBN.out.2 ?_; intro g2 cap2 cur2 w2 hB2 hnc2 hcm2 hS2)
                go_roundw
                case rel =>
                  have h4 := hS2.sub (L' := [(g2, cur2, 164), (B4, bvs sboxL, 170)]) (.cons_cons _ (.cons _ (.cons _ (.cons_cons _ .slnil))))
                  have hG2 := Gr.back (n := k + 1) h4 hB2 (by rw [List.length_append, HXl.out, List.length_map, xorL_len tt pv 4 HTT.out HPV.out]; omega) hnc2 hcm2
                  have e5 : flat (kws key 8 (k + 1)) = flat (kws key 8 k) ++ (xorL tt pv).map bv := by rw [kws_succ, if_neg (by omega), HKW.out, flat_snoc']
                  rw [← e5] at hG2
                  first | exact ⟨k + 1, by omega, by go_num, hG2⟩ | ((repeat apply Exists.intro); exact ⟨⟨k + 1, by omega, by go_num, hG2⟩, rfl⟩)
                case measure => simp [intOf]; omega
          · rw [turnW_C' hA (by omega)] at hKW0
            have gA : ((k : Int) % 8 == 0) = false := by simp; omega
            have gB : ((k : Int) % 8 == 4) = false := by simp; omega
            have HA := hid hA
            clear hA
            have HTT : Hid ([x0, x1, x2, x3].length = 4) := hid rfl
            have HKW := hid hKW0
            have hST := hS8
            clear hKW0
            generalize [x0, x1, x2, x3] = tt at *
            go_wp2_with fail
            rw [← hb8]
            clear hb8
            clear kb0 kc0 kf0 kl0 kn0
            go_loopw [10] (fun u10 wr => ∃ j : Nat, j ≤ 4 ∧ u10 = .int .i64 j ∧ St w wr [(b8, bvs (xorN tt pv j), 164), (g, cur, 164), (B4, bvs sboxL, 170)])
              (fun i _ => 4 - (intOf i).toNat)
            case atStart => exact ⟨0, by omega, rfl, by rw [xorN_zero]; exact hST⟩
            case round =>
              clear hST
              obtain ⟨j, hj, rfl, hS⟩ := hrel
              by_cases hlt2 : j < 4
              · have hx := bvs_get (l := xorN tt pv j) (k := j) (by rw [xorN_len, HTT.out]; omega)
                rw [xorN_get tt pv j j (Nat.le_refl j)] at hx
                have hy := HPC.out j hlt2
                generalize hX : tt.getD j 0 = a1 at hx
                generalize hY : pv.getD j 0 = a2 at hy
                have HX1 := hid hX; have HY1 := hid hY; clear hX hY
                have f16 : (j : Int) < 4 := by omega
                go_wp2_with fail
                refine region_tail_lit (by kernel_rfl) (by kernel_rfl) ?_
                dsimp only [List.dropLast, List.getLast?, List.getLast, Option.getD]
                repeat (first | (refine BigFrame.wpQuiet_skip rfl ?_; simp only [Act.put, List.setIfInBounds_toArray, List.set_cons_zero, List.set_cons_succ]) | (refine BigFrame.wpQuiet_want rfl (fun K hK => ?_); apply Exists.intro; refine ⟨fun w' hw' => ?_, hK _ ?_⟩; (focus (have zS := hS.cls hw'; obtain ⟨zb0, zc0, zf0, zl0, zn0⟩ := zS.at 0 rfl; obtain ⟨zb1, zc1, zf1, zl1, zn1⟩ := zS.at 1 rfl; clear zS; go_simp; (try (go_bits; go_simp)); first | done | rfl | (fail))); clear hK K; simp only [Act.put, List.setIfInBounds_toArray, List.set_cons_zero, List.set_cons_succ]))
                refine wpQuiet_nil ?_
                intro w2 hc
                have hS2 := hS.cls hc
                clear hS hc
                obtain ⟨kb0, kc0, kf0, kl0, kn0⟩ := hS2.at 0 rfl
                go_wp2
                go_roundw
                case rel =>
                  refine ⟨j + 1, by omega, by go_num, ?_⟩
                  have h3 := hS2.setCell 0 rfl j (.int .u8 (bits .xor .u8 (a1.toNat : Int) (a2.toNat : Int)))
                  simp only [List.set_cons_zero] at h3
                  rw [xor_u8, bvs_set, show (xorN tt pv j).set j (a1 ^^^ a2) = xorN tt pv (j + 1) by rw [xorN_succ, HX1.out, HY1.out]] at h3
                  rw [xor_u8]
                  exact h3
                case measure => simp [intOf]; omega
              · obtain rfl : j = 4 := by omega
                rw [xorN_all tt pv (by rw [HTT.out, HPV.out]) 4 HTT.out] at hS
                clear hlt2 hj
                have hw4 := xorL_len tt pv 4 HTT.out HPV.out
                have sw : csz (bvs (xorL tt pv)) = 4 := by rw [csz_bvs, hw4]
                have HS := hid (hS.alloc (bvs (xorL tt pv)) 164)
                have HSrc := hid (SrcAt.own (m := 1) (c := 1) (size := 4) (news := (xorL tt pv).map bv) HS.out 0 rfl (by rw [List.length_map, hw4]) copy_one' (fun j u hj => by unfold bvs; simpa using hj))
                obtain ⟨kb0, kc0, kf0, kl0, kn0⟩ := hS.at 0 rfl
                clear hS hw4
                go_wp2_with (at_builtin; refine wp_append_at elem_163 rfl rfl HS.out 2 rfl rfl HBeg.out HXl.out HCP.out.1 HCP.out.2 rfl HSrc.out HBN.out.1 HBN.out.2 ?_; intro g2 cap2 cur2 w2 hB2 hnc2 hcm2 hS2)
                go_roundw
                case rel =>
                  have h4 := hS2.sub (L' := [(g2, cur2, 164), (B4, bvs sboxL, 170)]) (.cons_cons _ (.cons _ (.cons _ (.cons_cons _ .slnil))))
                  have hG2 := Gr.back (n := k + 1) h4 hB2 (by rw [List.length_append, HXl.out, List.length_map, xorL_len tt pv 4 HTT.out HPV.out]; omega) hnc2 hcm2
                  have e5 : flat (kws key 8 (k + 1)) = flat (kws key 8 k) ++ (xorL tt pv).map bv := by rw [kws_succ, if_neg (by omega), HKW.out, flat_snoc']
                  rw [← e5] at hG2
                  first | exact ⟨k + 1, by omega, by go_num, hG2⟩ | ((repeat apply Exists.intro); exact ⟨⟨k + 1, by omega, by go_num, hG2⟩, rfl⟩)
                case measure => simp [intOf]; omega
    · obtain rfl : k = 60 := by omega
      clear hlt hkC
      obtain ⟨g, cap, cur, hv6, hnc, hcm, hBeg, hS⟩ := hG.cellsOf (by omega)
      rw [hv6]
      clear hv6 hG
      have hcel0 : ∀ q k j x, (rkeys key)[q]? = some k → k[j]? = some x → cur[q * 16 + j]? = some (bv x) := by
        intro q k j x h1 h2
        have h3 := flat_get HR16.out h1 h2
        rw [HRK.out] at h3
        exact hBeg.get h3
      have HC0 := hid hcel0
      have scur : csz cur = cap * 4 := by rw [csz_is]; exact hBeg.1
      have HCAP := hid hnc
      clear hcel0 hnc hcm hBeg H4 HB HCS HRK
      go_wp2_with fail
      have hG0 := Gr.nil (e := 149) (size := 16) hS
      clear hS
      go_loopw [11, 12] (fun u11 u12 wr => ∃ q : Nat, q ≤ 15 ∧ u12 = .int .i64 (4 * (q : Int)) ∧ Gr w wr 149 16 u11 q (flat ((rkeys key).take q)) [(g, cur, 164), (B4, bvs sboxL, 170)])
        (fun _ i _ => 60 - (intOf i).toNat)
      case atStart => exact ⟨0, by omega, rfl, by rw [List.take_zero]; exact hG0⟩
      case round =>
        clear hG0
        obtain ⟨q, hq, rfl, hG⟩ := hrel
        by_cases hlt : q < 15
        · have f1 : 4 * (q : Int) < 60 := by omega
          have hql : q < (rkeys key).length := by rw [HRL.out]; exact hlt
          have hkl := HR16.out (rkeys key)[q] (List.getElem_mem _)
          have hcel : ∀ j, j < 16 → cur[q * 16 + j]? = some (.int .u8 (((rkeys key)[q].getD j 0).toNat : Int)) := by
            intro j hj
            rw [HC0.out q _ j _ (List.getElem?_eq_getElem hql) (List.getElem?_eq_getElem (by omega : j < (rkeys key)[q].length)), List.getD_eq_getElem?_getD, List.getElem?_eq_getElem (by omega : j < (rkeys key)[q].length)]
            rfl
          have HSU := hid (List.take_succ_eq_append_getElem hql)
          generalize (rkeys key)[q] = kq at *
          have HCEL := hid hcel; have HKL := hid hkl
          have HZ := hid (show (zs 16).length = kq.length by rw [zs_len, hkl])
          clear hcel hkl
          have HBN : Hid (q + 1 ≤ maxLen ∧ (q + 1) * 16 ≤ 140737488355328) := hid ⟨by unfold maxLen; omega, by omega⟩
          go_wp2_with fail
          have hG1 := hG.alloc (bvs (zs 16)) 149
          clear hG
          rw [← zs16] at hG1
          generalize hb13 : wr.heap.size = b13 at *
          clear hb13
          generalize hWW : wr.alloc (.cells #[.int .u8 0, .int .u8 0, .int .u8 0, .int .u8 0, .int .u8 0, .int .u8 0, .int .u8 0, .int .u8 0, .int .u8 0, .int .u8 0, .int .u8 0, .int .u8 0, .int .u8 0, .int .u8 0, .int .u8 0, .int .u8 0] 149) = W1 at *
          rw [zs16] at hG1
          clear hWW
          go_loopw [14] (fun u14 wr => ∃ j : Nat, j ≤ 16 ∧ u14 = .int .i64 j ∧ Gr w wr 149 16 u11 q (flat ((rkeys key).take q)) [(b13, bvs (fillN (zs 16) kq j), 149), (g, cur, 164), (B4, bvs sboxL, 170)])
            (fun i _ => 16 - (intOf i).toNat)
          case atStart => exact ⟨0, by omega, rfl, by rw [fillN_zero]; exact hG1⟩
          case round =>
            clear hG1
            obtain ⟨j, hj, rfl, hG⟩ := hrel
            by_cases hlt2 : j < 16
            · have hx := bvs_get (l := fillN (zs 16) kq j) (k := j) (by rw [fillN_len HZ.out, zs_len]; omega)
              have hy := HCEL.out j hlt2
              have hset := hid (fillN_set HZ.out (k := j) (by rw [HKL.out]; omega))
              generalize (fillN (zs 16) kq j).getD j 0 = a1 at hx
              generalize kq.getD j 0 = a2 at *
              obtain ⟨a, c, hjj, hc4⟩ : ∃ a c, j = 4 * a + c ∧ c < 4 := ⟨j / 4, j % 4, by omega, by omega⟩
              have gq : (j : Int) / 4 = (a : Int) := by omega
              have gr : (j : Int) % 4 = (c : Int) := by omega
              have g1 : (0 : Int) ≤ 4 * (q : Int) + (a : Int) := by omega
              have g2 : 4 * (q : Int) + (a : Int) < 60 := by omega
              have g3 : (4 * (q : Int) + (a : Int)).toNat = 4 * q + a := by omega
              have g4 : (c : Int) < 4 := by omega
              have f6 : (j : Int) < 16 := by omega
              rw [show q * 16 + j = (4 * q + a) * 4 + c by omega] at hy
              have HJ := hid hjj
              clear hjj
              have hS := hG.st
              have hd : ¬ b13 = g := by have := hS.2.2; simp at this; exact this.1.1
              have hd2 : ¬ g = b13 := fun h => hd h.symm
              obtain ⟨kb0, kc0, kf0, kl0, kn0⟩ := hS.at 0 rfl; obtain ⟨kb1, kc1, kf1, kl1, kn1⟩ := hS.at 1 rfl
              have HG := hid hG
              clear hG hS
              go_wp2
              go_roundw
              case rel =>
                have h3 := HG.out.setCell 0 rfl j (.int .u8 (a2.toNat : Int))
                simp only [List.set_cons_zero] at h3
                rw [bvs_set, hset.out] at h3
                first | exact ⟨j + 1, by omega, by go_num, h3⟩ | ((repeat apply Exists.intro); exact ⟨⟨j + 1, by omega, by go_num, h3⟩, rfl⟩)
              case measure => simp [intOf]; omega
            · obtain rfl : j = 16 := by omega
              rw [fillN_all HZ.out HKL.out] at hG
              clear hlt2 hj
              have sw : csz (bvs kq) = 16 := by rw [csz_bvs, HKL.out]
              have hS := hG.st
              obtain ⟨kb0, kc0, kf0, kl0, kn0⟩ := hS.at 0 rfl
              have HG := hid (hG.alloc (bvs kq) 149)
              have HSrc := hid (SrcAt.own (m := 1) (c := 1) (size := 16) (news := kq.map bv) HG.out.st 0 rfl (by rw [List.length_map, HKL.out]) copy_one' (fun j u hj => by unfold bvs; simpa using hj))
              clear hG hS
              go_wp2_with (at_builtin; refine wp_append elem_143 rfl rfl HG.out rfl rfl HSrc.out HBN.out.1 HBN.out.2 ?_; intro v2 w2 hG2 hnil; have HNIL := hid hnil; clear hnil)
              go_roundw
              case rel =>
                have h4 := hG2.tail.tail
                rw [← flat_snoc', ← HSU.out] at h4
                first | exact ⟨q + 1, by omega, by go_num, h4⟩ | ((repeat apply Exists.intro); exact ⟨⟨q + 1, by omega, by go_num, h4⟩, rfl⟩)
              case measure => simp [intOf]; omega
        · obtain rfl : q = 15 := by omega
          clear hlt hq
          rw [List.take_of_length_le (by rw [HRL.out]; omega)] at hG
          have HGE := hid hG
          clear hG
          go_wp2
          go_ret2
          unfold RefRoundsOf
          exact ⟨u11, rfl, rowsAt_of_gr' (by omega) HR16.out HRL.out HGE.out, HGE.out.st.below⟩
end Go.Proofs.Ytkfggilildiflab

namespace Go.Proofs.Ytkfggilildiflab
open Go.ChangeShapes Go.WideShapes Go.ChangeAt Go.RowKit
theorem bytesAt_copy {w : World} {l : List UInt8} {g cap : Nat} {cur : Array Value} (hg : blk w g = some (.cells cur 5 (0, 0))) (hc : l.length + 2 ≤ cap) (ht : cur.toList.take (l.length + 2) = (l ++ [165, 90]).map bv) : BytesAt w (.slice (some ⟨g, 0, none⟩) l.length cap) l := by
  refine ⟨_, cap, rfl, by omega, (fun h => by cases h), fun _ => ⟨g, 0, cur, _, _, rfl, hg, fun i x hi => ?_⟩⟩
  have h1 := congrArg (·[i]?) ht
  have hil : i < l.length := (List.getElem?_eq_some_iff.1 hi).1
  simp only [List.getElem?_take, List.getElem?_map] at h1
  rw [if_pos (by omega), List.getElem?_append_left hil, hi] at h1
  rw [Nat.zero_add]; simpa using h1
theorem RowsAt.len {w : World} {s : Nat} {v : Value} {ks : List (List UInt8)} (h : RowsAt w s v ks) : ∃ p c, v = .slice p ks.length c := by
  obtain ⟨_, p, c, h, _⟩ := h; exact ⟨p, c, h⟩
/-- Rounds at a key of 16 or of 32 bytes. -/
theorem rounds_good (key : List UInt8) (h : key.length = 16 ∨ key.length = 32) (v : Value) (w : World) (hv : BytesAt w v key) : Calls Try.prog 78 #[v] w fun e w' => ∃ p c, e = .returned (.tuple #[.slice p (rkeys key).length c, .nilIface]) ∧ RowsAt w' 16 (.slice p (rkeys key).length c) (rkeys key) ∧ Below w.heap.size w w' := by
  rcases h with h | h
  · refine (rounds4_any key h v w hv).mono ?_
    intro e w' h
    unfold RoundsOf at h
    obtain ⟨v, rfl, h1, h2⟩ := h
    obtain ⟨p, c, rfl⟩ := h1.len
    exact ⟨p, c, rfl, h1, h2⟩
  · refine (rounds8_any key h v w hv).mono ?_
    intro e w' h
    unfold RoundsOf at h
    obtain ⟨v, rfl, h1, h2⟩ := h
    obtain ⟨p, c, rfl⟩ := h1.len
    exact ⟨p, c, rfl, h1, h2⟩
theorem refRounds_good (key : List UInt8) (h : key.length = 16 ∨ key.length = 32) (v : Value) (w : World) (hv : BytesAt w v key) : Calls Try.prog 83 #[v] w fun e w' => ∃ p c, e = .returned (.tuple #[.slice p (rkeys key).length c, .bool true]) ∧ RowsAt w' 16 (.slice p (rkeys key).length c) (rkeys key) ∧ Below w.heap.size w w' := by
  rcases h with h | h
  · refine (refRounds4_any key h v w hv).mono ?_
    intro e w' h
    unfold RefRoundsOf at h
    obtain ⟨v, rfl, h1, h2⟩ := h
    obtain ⟨p, c, rfl⟩ := h1.len
    exact ⟨p, c, rfl, h1, h2⟩
  · refine (refRounds8_any key h v w hv).mono ?_
    intro e w' h
    unfold RefRoundsOf at h
    obtain ⟨v, rfl, h1, h2⟩ := h
    obtain ⟨p, c, rfl⟩ := h1.len
    exact ⟨p, c, rfl, h1, h2⟩
theorem bytesAt_nil (w : World) : BytesAt w (.slice none 0 0) [] := ⟨none, 0, rfl, Nat.le_refl _, fun _ => rfl, fun h => absurd rfl h⟩
end Go.Proofs.Ytkfggilildiflab

namespace Go.Proofs.Ytkfggilildiflab
open Go.ChangeShapes Go.WideShapes Go.ChangeAt Go.RowKit
theorem keysAt_rows {w : World} {v : Value} {ks : List (List UInt8)} (h : RowsAt w 16 v ks) : KeysAt w v ks := by
  obtain ⟨h1, p, c, h2, _, h3⟩ := h
  exact ⟨h1, p, c, h2, h3⟩
theorem run_res_row {P : Program} {ty n : Nat} (hr : isRow P ty n = true) (w : World) (g : Nat) (cs : Array Value) (t : TypeId) (fr : Nat × Nat) (hg : blk w g = some (.cells cs t fr)) (hs : cs.size = n) : (loadVar ty ⟨g, 0, none⟩).run P w = .ok (.agg cs) w := by
  simp only [isRow, Bool.and_eq_true, beq_iff_eq] at hr
  cases hu : P.underlying ty with
  | none => simp [hu] at hr
  | some d =>
    simp only [hu] at hr
    refine run_loadVar_row w g t ty cs fr d hg hu ?_ (by rw [hr.2, hs])
    cases d <;> simp_all
/-- The end of a function with a result in a cell and one in a slot. -/
theorem post_cell_tmp {P : Program} {fn : Func} {p u ty n : Nat} (hres : fn.results = #[.cell p ty, .tmp u]) (hr : isRow P ty n = true) {R : Ending → World → Prop} {a : Act} {w : World} {e : Exit} (he : e = .ret ∨ e = .normal)
    (g : Nat) (cs : Array Value) (t : TypeId) (fr : Nat × Nat) (hp : a.tmps.getD p undef = .pointer (some ⟨g, 0, none⟩)) (hd : a.defers = []) (hg : blk w g = some (.cells cs t fr)) (hs : cs.size = n) (hR : R (.returned (.tuple #[.agg cs, a.tmps.getD u undef])) w) :
    bodyPost P fn R e a w := by
  have h1 : (results fn a.tmps).run P w = .ok (.tuple #[.agg cs, a.tmps.getD u undef]) w := by
    have hp' : a.tmps[p]?.getD undef = .pointer (some ⟨g, 0, none⟩) := by simpa using hp
    simp [results, hres, hp', asAddr, run_res_row hr w g cs t fr hg hs]
  rcases he with rfl | rfl
  · exact bodyPost_ret h1 hd hR
  · exact bodyPost_end h1 hd hR
/-- The end of a function with a result in a slot and two in cells. -/
theorem post_tmp_cells {P : Program} {fn : Func} {p q u ty n : Nat} (hres : fn.results = #[.tmp u, .cell p ty, .cell q ty]) (hr : isRow P ty n = true) {R : Ending → World → Prop} {a : Act} {w : World} {e : Exit} (he : e = .ret ∨ e = .normal)
    (g g2 : Nat) (cs cs2 : Array Value) (t : TypeId) (fr : Nat × Nat) (hp : a.tmps.getD p undef = .pointer (some ⟨g, 0, none⟩)) (hp2 : a.tmps.getD q undef = .pointer (some ⟨g2, 0, none⟩)) (hd : a.defers = []) (hg : blk w g = some (.cells cs t fr)) (hs : cs.size = n) (hg2 : blk w g2 = some (.cells cs2 t fr)) (hs2 : cs2.size = n) (hR : R (.returned (.tuple #[a.tmps.getD u undef, .agg cs, .agg cs2])) w) :
    bodyPost P fn R e a w := by
  have h1 : (results fn a.tmps).run P w = .ok (.tuple #[a.tmps.getD u undef, .agg cs, .agg cs2]) w := by
    have hp' : a.tmps[p]?.getD undef = .pointer (some ⟨g, 0, none⟩) := by simpa using hp
    have hp2' : a.tmps[q]?.getD undef = .pointer (some ⟨g2, 0, none⟩) := by simpa using hp2
    simp [results, hres, hp', hp2', asAddr, run_res_row hr w g cs t fr hg hs, run_res_row hr w g2 cs2 t fr hg2 hs2]
  rcases he with rfl | rfl
  · exact bodyPost_ret h1 hd hR
  · exact bodyPost_end h1 hd hR

def sealV (key x : List UInt8) : List UInt8 := encN (rkeys key) x (rkeys key).length
def openV (key x : List UInt8) : List UInt8 := decN (rkeys key) x (rkeys key).length
theorem sealV_len {key x : List UInt8} (h : key.length = 16 ∨ key.length = 32) (hx : x.length = 16) : (sealV key x).length = 16 := encN_len (rkeys_16 h) hx _ (Nat.le_refl _)
theorem openV_len {key x : List UInt8} (h : key.length = 16 ∨ key.length = 32) (hx : x.length = 16) : (openV key x).length = 16 := decN_len (rkeys_16 h) hx _ (Nat.le_refl _)
attribute [local irreducible] xorL sboxL subB sealV openV
/-- The chapter's example. -/
def exK : List UInt8 := [0, 1, 2, 3, 4, 5, 6, 7, 8, 9, 10, 11, 12, 13, 14, 15]
def exP : List UInt8 := [0, 0x11, 0x22, 0x33, 0x44, 0x55, 0x66, 0x77, 0x88, 0x99, 0xaa, 0xbb, 0xcc, 0xdd, 0xee, 0xff]
def exW : List UInt8 := [0x69, 0xc4, 0xe0, 0xd8, 0x6a, 0x7b, 0x04, 0x30, 0xd8, 0xcd, 0xb7, 0x80, 0x70, 0xb4, 0xc5, 0x5a]
theorem ex_is : sealV exK exP = exW := by decide +kernel
end Go.Proofs.Ytkfggilildiflab
