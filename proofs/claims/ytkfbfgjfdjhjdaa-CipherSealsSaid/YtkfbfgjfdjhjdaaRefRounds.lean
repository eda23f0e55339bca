/-
  The document's Rounds: the round keys. No condition on the key.
-/
import Derived.Test.YtkfbfgjfdjhjdaaRoundsP
import Derived.Test.YtkfbfgjfdjhjdaaKeySlice
import Derived.Test.YtkfbfgjfdjhjdaaRefEncrypt
namespace Go.Proofs.Ytkfbfgjfdjhjdaa
open Go.ChangeShapes Go.WideShapes Go.ChangeAt Go.RowKit
/-- A list written over another one: so many places are done. -/
def fillN (x col : List UInt8) (k : Nat) : List UInt8 := col.take k ++ x.drop k
theorem fillN_zero (x col : List UInt8) : fillN x col 0 = x := by simp [fillN]
theorem fillN_len {x col : List UInt8} (h : x.length = col.length) (k : Nat) : (fillN x col k).length = x.length := by
  simp [fillN, ← h]; omega
theorem fillN_set {x col : List UInt8} (h : x.length = col.length) {k : Nat} (hk : k < col.length) : (fillN x col k).set k (col.getD k 0) = fillN x col (k + 1) := by
  have e : k - (col.take k).length = 0 := by simp; omega
  unfold fillN
  rw [List.set_append_right _ _ (by simp; omega), e, List.drop_eq_getElem_cons (by omega), List.set_cons_zero, List.take_succ_eq_append_getElem hk, List.append_assoc]
  simp [hk]
theorem fillN_all {x col : List UInt8} (h : x.length = col.length) {k : Nat} (hk : col.length = k) : fillN x col k = col := by
  unfold fillN
  rw [List.take_of_length_le (by omega), List.drop_of_length_le (by omega), List.append_nil]
attribute [irreducible] fillN
/-- What the document's Rounds answers: round keys. -/
def RefRoundsOf (w : World) (ks : List (List UInt8)) (e : Ending) (w' : World) : Prop := ∃ v, e = .returned (.tuple #[v, .bool true]) ∧ RowsAt w' 16 v ks ∧ Below w.heap.size w w'
theorem St.sub {w0 wr : World} {L L' : List (Nat × Array Value × TypeId)} (h : St w0 wr L) (hs : List.Sublist L' L) : St w0 wr L' :=
  ⟨h.1, fun x hx => h.2.1 x (hs.subset hx), h.2.2.sublist (hs.map _)⟩
theorem Gr.cellsOf {w0 wr : World} {e size n : Nat} {v : Value} {xs : List Value} {L : List (Nat × Array Value × TypeId)} (h : Gr w0 wr e size v n xs L) (hn : 0 < n) :
    ∃ g cap cur, v = .slice (some ⟨g, 0, none⟩) n cap ∧ n ≤ cap ∧ cap ≤ maxLen ∧ Beg cur (cap * size) xs ∧ St w0 wr ((g, cur, e) :: L) := by
  obtain ⟨g, cap, cur, h1, h2, h3, h4, h5, h6⟩ := h.open (by
    rintro rfl
    rcases h.own.2 with ⟨_, h0⟩ | ⟨g, cap, cur, h1, _⟩
    · omega
    · cases h1)
  exact ⟨g, cap, cur, h1, h2, h3, ⟨h4, by rw [h.own.1]; exact h5⟩, h6⟩
theorem Gr.back {w0 wr : World} {e size n cap g : Nat} {cur : Array Value} {xs : List Value} {L : List (Nat × Array Value × TypeId)} (h : St w0 wr ((g, cur, e) :: L)) (hB : Beg cur (cap * size) xs) (hxl : xs.length = n * size) (hnc : n ≤ cap) (hcm : cap ≤ maxLen) : Gr w0 wr e size (.slice (some ⟨g, 0, none⟩) n cap) n xs L := by
  have hG := Gr.of (size := size) (n := n) (cap := cap) h hnc hcm hB.1
  rwa [← hxl, hB.2] at hG
theorem turnW_A' {t : List UInt8} {n k : Nat} (h : k % n = 0) : turnW t n k = xorL ([t.getD 1 0, t.getD 2 0, t.getD 3 0, t.getD 0 0].map subB) [conB (k / n : Nat), 0, 0, 0] := by unfold turnW; rw [if_pos h]
theorem turnW_B' {t : List UInt8} {n k : Nat} (h : ¬ k % n = 0) (h2 : 6 < n ∧ k % n = 4) : turnW t n k = t.map subB := by unfold turnW; rw [if_neg h, if_pos h2]
theorem turnW_C' {t : List UInt8} {n k : Nat} (h : ¬ k % n = 0) (h2 : ¬ (6 < n ∧ k % n = 4)) : turnW t n k = t := by unfold turnW; rw [if_neg h, if_neg h2]
theorem xor_first' (a b c d x : UInt8) : xorL [a, b, c, d] [x, 0, 0, 0] = [a ^^^ x, b, c, d] := by simp [xorL]
theorem kws_at' {key : List UInt8} {n m : Nat} {j : Nat} (hj : j < m) : (kws key n m)[j]? = some ((kws key n m).getD j []) := by
  have : j < (kws key n m).length := by rw [kws_len]; exact hj
  simp [List.getD_eq_getElem?_getD, List.getElem?_eq_getElem this]
theorem flat_snoc' (ws : List (List UInt8)) (w : List UInt8) : flat (ws ++ [w]) = flat ws ++ w.map bv := by simp [flat]
theorem rowsAt_of_gr' {w0 wr : World} {e n m : Nat} {v : Value} {ks : List (List UInt8)} {L : List (Nat × Array Value × TypeId)} (hn : 0 < n) (hk : ∀ k ∈ ks, k.length = n) (hm : ks.length = m) (h : Gr w0 wr e n v m (flat ks) L) : RowsAt wr n v ks := by
  subst hm
  rcases h.own.2 with ⟨rfl, h0⟩ | ⟨g, cap, cur, rfl, _, h3, _, _, _, h7⟩
  · have : ks = [] := List.eq_nil_of_length_eq_zero h0
    subst this
    exact ⟨hk, none, 0, rfl, fun _ => rfl, fun i k hi => by simp at hi⟩
  · refine ⟨hk, _, cap, rfl, (fun h => by cases h), fun i k hi => ?_⟩
    obtain ⟨c1, c2⟩ := row_of_flat hn hk h7 hi
    exact ⟨g, 0, cur, e, _, rfl, h3, by omega, by rw [Nat.zero_add]; exact c2⟩
attribute [irreducible] RefRoundsOf
attribute [local irreducible] xorL sboxL subB

set_option maxRecDepth 100000 in
set_option maxHeartbeats 1000000 in
theorem refRoundsBad_any (key : List UInt8) (h1 : key.length ≠ 16) (h2 : key.length ≠ 32) (v : Value) (w : World) (hv : BytesAt w v key) (hm : key.length ≤ maxLen) : Calls Try.prog 41 #[v] w fun e w' => e = .returned (.tuple #[.slice none 0 0, .bool false]) ∧ w = w' := by
  obtain ⟨p, c, rfl, _⟩ := hv
  unfold maxLen at hm
  generalize key.length = n at *
  have g1 : ((n : Int) == 16) = false := by simp; omega
  have g2 : ((n : Int) == 32) = false := by simp; omega
  have g3 : ((n : Int) != 16) = true := by simp; omega
  have g4 : ((n : Int) != 32) = true := by simp; omega
  clear h1 h2
  go_enter Try.func41, Try.ntmps41
  go_wp2
  go_ret2
  exact ⟨rfl, rfl⟩

set_option maxRecDepth 100000 in
set_option maxHeartbeats 16000000 in
theorem refRounds4_any (key : List UInt8) (hk : key.length = 16) (v : Value) (w : World) (hv : BytesAt w v key) : Calls Try.prog 41 #[v] w (RefRoundsOf w (rkeys key)) := by
  obtain ⟨p, c, rfl, hcap, _, hcs0⟩ := hv
  obtain ⟨b, o, cs, t, fr, rfl, hb, hcs⟩ := hcs0 (by intro h; subst h; simp at hk)
  rw [hk] at hcap
  clear hcs0
  have h4 := kws_four (n := 4) (by omega) (by omega : key.length = 4 * 4)
  have hRK : flat (rkeys key) = flat (kws key 4 44) := by rw [rkeys_flat, hk]
  have hR16 := rkeys_16 (key := key) (by omega)
  have hRL : (rkeys key).length = 11 := by rw [rkeys_len, hk]
  have H4 := hid h4; have HRK := hid hRK; have HR16 := hid hR16; have HRL := hid hRL; have HB := hid hb; have HCS := hid hcs; have HK := hid hk
  have s0z : csz Try.zeroCells32 = 256 := by kernel_rfl
  have s256 : csz (bvs sboxL) = 256 := by rw [csz_bvs, sboxL_len]
  clear h4 hRK hR16 hRL hcs hb
  rw [HK.out]
  clear hk
  go_enter Try.func41, Try.ntmps41
  go_wp2_with fail
  with_reducible refine (table2_any _).mono ?_
  rintro e w1 ⟨rfl, hb⟩
  have hS0 := ((St.start w).call hb).alloc (bvs sboxL) 32
  clear hb
  go_wp2_with fail
  generalize w1.alloc (.cells (bvs sboxL) 32) = W at *
  generalize w1.heap.size = B4 at *
  have hG0 := Gr.nil (e := 28) (size := 4) hS0
  go_loopw [6, 7] (fun u6 u7 wr => ∃ k : Nat, k ≤ 44 ∧ u7 = .int .i64 k ∧ Gr w wr 28 4 u6 k (flat (kws key 4 k)) [(B4, bvs sboxL, 32)])
    (fun _ i _ => 44 - (intOf i).toNat)
  case atStart => exact ⟨0, by omega, rfl, by rw [kws_zero]; exact hG0⟩
  case round =>
    clear hG0 hS0
    obtain ⟨k, hkC, rfl, hG⟩ := hrel
    by_cases hlt : k < 44
    · have f1 : (k : Int) < 44 := by omega
      have HBN : Hid (k + 1 ≤ maxLen ∧ (k + 1) * 4 ≤ 140737488355328) := hid ⟨by unfold maxLen; omega, by omega⟩
      by_cases hN : k < 4
      · have f2 : (k : Int) < 4 := by omega
        have hsucc := hid (kws_succ key 4 k)
        rw [if_pos hN] at hsucc
        have hwl : ((key.drop (4 * k)).take 4).length = 4 := by simp [HK.out]; omega
        have hcel : ∀ j, j < 4 → cs[o + (4 * k + j)]? = some (.int .u8 ((((key.drop (4 * k)).take 4).getD j 0).toNat : Int)) := by
          intro j hj
          have h1 : 4 * k + j < key.length := by rw [HK.out]; omega
          rw [HCS.out (4 * k + j) key[4 * k + j] (List.getElem?_eq_getElem h1)]
          simp only [List.getD_eq_getElem?_getD, List.getElem?_take, if_pos hj, List.getElem?_drop, List.getElem?_eq_getElem h1]
          rfl
        generalize (key.drop (4 * k)).take 4 = wd at *
        have HCEL := hid hcel; have HWL := hid hwl
        have hz4 : (zs 4).length = wd.length := by rw [zs_len, hwl]
        have HZ := hid hz4
        clear hcel hwl hz4
        go_wp2_with fail
        have hG1 := hG.alloc (bvs (zs 4)) 28
        clear hG
        rw [← zs4] at hG1
        generalize hb8 : wr.heap.size = b8 at *
        clear hb8
        generalize hWW : wr.alloc (.cells #[.int .u8 0, .int .u8 0, .int .u8 0, .int .u8 0] 28) = W1 at *
        rw [zs4] at hG1
        clear hWW
        go_loopw [9] (fun u9 wr => ∃ j : Nat, j ≤ 4 ∧ u9 = .int .i64 j ∧ Gr w wr 28 4 u6 k (flat (kws key 4 k)) [(b8, bvs (fillN (zs 4) wd j), 28), (B4, bvs sboxL, 32)])
          (fun i _ => 4 - (intOf i).toNat)
        case atStart => exact ⟨0, by omega, rfl, by rw [fillN_zero]; exact hG1⟩
        case round =>
          clear hG1
          obtain ⟨j, hj, rfl, hG⟩ := hrel
          by_cases hlt2 : j < 4
          · have hx := bvs_get (l := fillN (zs 4) wd j) (k := j) (by rw [fillN_len HZ.out, zs_len]; omega)
            have hy := HCEL.out j hlt2
            have hset := hid (fillN_set HZ.out (k := j) (by rw [HWL.out]; omega))
            generalize (fillN (zs 4) wd j).getD j 0 = a1 at hx
            generalize wd.getD j 0 = a2 at *
            have hS := hG.st
            have f3 : 4 * (k : Int) + (j : Int) < 16 := by omega
            have f4 : (0 : Int) ≤ 4 * (k : Int) + (j : Int) := by omega
            have f5 : (4 * (k : Int) + (j : Int)).toNat = 4 * k + j := by omega
            have f6 : (j : Int) < 4 := by omega
            have hfar := hS.far HB.out
            obtain ⟨q1, q2, _⟩ := hfar
            obtain ⟨kb0, kc0, kf0, kl0, kn0⟩ := hS.at 0 rfl
            have HG := hid hG
            clear hG hS
            go_wp2
            go_roundw
            case rel =>
              have h3 := HG.out.setCell 0 rfl j (.int .u8 (a2.toNat : Int))
              simp only [List.set_cons_zero] at h3
              rw [bvs_set, hset.out] at h3
              first | exact ⟨j + 1, by omega, by go_num, h3⟩ | ((repeat apply Exists.intro); exact ⟨⟨j + 1, by omega, by go_num, h3⟩, rfl⟩)
            case measure => simp [intOf]; omega
          · obtain rfl : j = 4 := by omega
            rw [fillN_all HZ.out HWL.out] at hG
            clear hlt2 hj
            have sw : csz (bvs wd) = 4 := by rw [csz_bvs, HWL.out]
            have hS := hG.st
            obtain ⟨kb0, kc0, kf0, kl0, kn0⟩ := hS.at 0 rfl
            have HG := hid (hG.alloc (bvs wd) 28)
            have HSrc := hid (SrcAt.own (m := 1) (c := 1) (size := 4) (news := wd.map bv) HG.out.st 0 rfl (by rw [List.length_map, HWL.out]) copy_one' (fun j u hj => by unfold bvs; simpa using hj))
            clear hG hS
            go_wp2_with (at_builtin; refine wp_append elem_75 rfl rfl HG.out rfl rfl HSrc.out HBN.out.1 HBN.out.2 ?_; intro v2 w2 hG2 hnil; have HNIL := hid hnil; clear hnil)
            go_roundw
            case rel =>
              have h4 := hG2.tail.tail
              rw [← flat_snoc', ← hsucc.out] at h4
              first | exact ⟨k + 1, by omega, by go_num, h4⟩ | ((repeat apply Exists.intro); exact ⟨⟨k + 1, by omega, by go_num, h4⟩, rfl⟩)
            case measure => simp [intOf]; omega
      · have f2 : ¬ (k : Int) < 4 := by omega
        obtain ⟨g, cap, cur, hv6, hnc, hcm, hBeg, hS⟩ := hG.cellsOf (by omega)
        rw [hv6]
        clear hv6 hG
        have hr1 := hBeg.row (by omega) (H4.out k) (kws_at' (key := key) (n := 4) (m := k) (j := k - 1) (by omega))
        have hTW := get_len (H4.out k) (i := k - 1) (by rw [kws_len]; omega)
        have hPV := get_len (H4.out k) (i := k - 4) (by rw [kws_len]; omega)
        have hKW0 : kword 4 k (kws key 4 k) = xorL (turnW ((kws key 4 k).getD (k - 1) []) 4 k) ((kws key 4 k).getD (k - 4) []) := by unfold kword; rfl
        have HXl := hid (show (flat (kws key 4 k)).length = k * 4 by rw [flat_len (H4.out k), kws_len])
        have HCP := hid (And.intro hnc hcm)
        have hat := kws_at' (key := key) (n := 4) (m := k) (j := k - 4) (by omega)
        have HAT := hid hat
        clear hat
        generalize (kws key 4 k).getD (k - 1) [] = tw at *
        generalize (kws key 4 k).getD (k - 4) [] = pv at *
        have hpc : ∀ j, j < 4 → cur[(k - 4) * 4 + j]? = some (.int .u8 ((pv.getD j 0).toNat : Int)) := by
          intro j hj
          have h1 : j < pv.length := by omega
          rw [hBeg.get (flat_get (H4.out k) HAT.out (List.getElem?_eq_getElem h1)), List.getD_eq_getElem?_getD, List.getElem?_eq_getElem h1]
          rfl
        have HPV := hid hPV; have HPC := hid hpc
        obtain ⟨x0, x1, x2, x3, rfl⟩ := len4 hTW
        have HBeg := hid hBeg
        obtain ⟨r11, r12⟩ := hr1
        have stw : csz (bvs [x0, x1, x2, x3]) = 4 := rfl
        clear hPV hTW hBeg hpc hnc hcm
        have f3 : (0 : Int) ≤ (k : Int) - 1 := by omega
        have f4 : ((k : Int) - 1).toNat = k - 1 := by omega
        have f5 : (k : Int) - 1 < (k : Int) := by omega
        have f6 : (0 : Int) ≤ (k : Int) - 4 := by omega
        have f7 : ((k : Int) - 4).toNat = k - 4 := by omega
        have f8 : (k : Int) - 4 < (k : Int) := by omega
        have b0 : (x0.toNat : Int) < 256 := by have := x0.toNat_lt; omega
        have b1 : (x1.toNat : Int) < 256 := by have := x1.toNat_lt; omega
        have b2 : (x2.toNat : Int) < 256 := by have := x2.toNat_lt; omega
        have b3 : (x3.toNat : Int) < 256 := by have := x3.toNat_lt; omega
        have p0 : (bvs [x0, x1, x2, x3])[0]? = some (.int .u8 (x0.toNat : Int)) := rfl
        have p1 : (bvs [x0, x1, x2, x3])[1]? = some (.int .u8 (x1.toNat : Int)) := rfl
        have p2 : (bvs [x0, x1, x2, x3])[2]? = some (.int .u8 (x2.toNat : Int)) := rfl
        have p3 : (bvs [x0, x1, x2, x3])[3]? = some (.int .u8 (x3.toNat : Int)) := rfl
        obtain ⟨kb0, kc0, kf0, kl0, kn0⟩ := hS.at 0 rfl
        obtain ⟨b8, hb8⟩ : ∃ b8, b8 = wr.heap.size := ⟨_, rfl⟩
        have hS8 := hS.alloc (bvs [x0, x1, x2, x3]) 28
        rw [← hb8] at hS8
        clear hS
        by_cases hA : k % 4 = 0
        · rw [turnW_A' hA] at hKW0
          obtain ⟨m, hm⟩ : ∃ m, m = k / 4 := ⟨_, rfl⟩
          rw [← hm] at hKW0
          have gA : ((k : Int) % 4 == 0) = true := by simp; omega
          have gQ : (k : Int) / 4 = (m : Int) := by omega
          have HA := hid hA; have HM := hid hm
          clear hA hm
          simp only [List.map_cons, List.map_nil, List.getD_cons_succ, List.getD_cons_zero] at hKW0
          rw [xor_first'] at hKW0
          have l0 := sboxL_get x0; have l1 := sboxL_get x1; have l2 := sboxL_get x2; have l3 := sboxL_get x3
          generalize subB x1 = s1 at *
          generalize subB x2 = s2 at *
          generalize subB x3 = s3 at *
          generalize subB x0 = s0 at *
          have cC := refConstant_any (m : Int)
          generalize conB (m : Int) = cc at *
          have CC := hid cC
          clear cC
          have hx8 := xor_u8 s1 cc
          have eb : #[.int .u8 ((s1.toNat ^^^ cc.toNat : Nat) : Int), .int .u8 (s2.toNat : Int), .int .u8 (s3.toNat : Int), .int .u8 (s0.toNat : Int)] = bvs [s1 ^^^ cc, s2, s3, s0] := by rw [← UInt8.toNat_xor]; rfl
          have ss : csz (bvs [s1 ^^^ cc, s2, s3, s0]) = 4 := rfl
          go_wp2_with fail
          rw [← hb8]
          clear hb8
          refine region_tail_lit (by kernel_rfl) (by kernel_rfl) ?_
          dsimp only [List.dropLast, List.getLast?, List.getLast, Option.getD]
          repeat (first | (refine BigFrame.wpQuiet_skip rfl ?_; simp only [Act.put, List.setIfInBounds_toArray, List.set_cons_zero, List.set_cons_succ]) | (refine BigFrame.wpQuiet_want rfl (fun K hK => ?_); apply Exists.intro; refine ⟨fun w' hw' => ?_, hK _ ?_⟩; (focus (have zS := hS8.cls hw'; obtain ⟨zb0, zc0, zf0, zl0, zn0⟩ := zS.at 0 rfl; obtain ⟨zb1, zc1, zf1, zl1, zn1⟩ := zS.at 2 rfl; clear zS; go_simp; (try (go_bits; go_simp)); first | done | rfl | ((go_at_call 33; exact hw'.call (CC.out _))))); clear hK K; simp only [Act.put, List.setIfInBounds_toArray, List.set_cons_zero, List.set_cons_succ]))
          refine wpQuiet_nil ?_
          intro w4 hc
          have hSC := hS8.cls hc
          clear hS8 hc
          obtain ⟨kb0, kc0, kf0, kl0, kn0⟩ := hSC.at 0 rfl; obtain ⟨kb1, kc1, kf1, kl1, kn1⟩ := hSC.at 1 rfl
          have hST := hSC.setRow 0 rfl (bvs [s1 ^^^ cc, s2, s3, s0])
          simp only [List.set_cons_zero, List.set_cons_succ] at hST
          have HTT : Hid ([s1 ^^^ cc, s2, s3, s0].length = 4) := hid rfl
          have HKW := hid hKW0
          clear hKW0
          generalize [s1 ^^^ cc, s2, s3, s0] = tt at *
          go_wp2_with fail
          clear kb0 kc0 kf0 kl0 kn0
          go_loopw [10] (fun u10 wr => ∃ j : Nat, j ≤ 4 ∧ u10 = .int .i64 j ∧ St w wr [(b8, bvs (xorN tt pv j), 28), (g, cur, 28), (B4, bvs sboxL, 32)])
            (fun i _ => 4 - (intOf i).toNat)
          case atStart => exact ⟨0, by omega, rfl, by rw [xorN_zero]; exact hST⟩
          case round =>
            clear hST
            obtain ⟨j, hj, rfl, hS⟩ := hrel
            by_cases hlt2 : j < 4
            · have hx := bvs_get (l := xorN tt pv j) (k := j) (by rw [xorN_len, HTT.out]; omega)
              rw [xorN_get tt pv j j (Nat.le_refl j)] at hx
              have hy := HPC.out j hlt2
              generalize hX : tt.getD j 0 = a1 at hx
              generalize hY : pv.getD j 0 = a2 at hy
              have HX1 := hid hX; have HY1 := hid hY; clear hX hY
              have f16 : (j : Int) < 4 := by omega
              go_wp2_with fail
              refine region_tail_lit (by kernel_rfl) (by kernel_rfl) ?_
              dsimp only [List.dropLast, List.getLast?, List.getLast, Option.getD]
              repeat (first | (refine BigFrame.wpQuiet_skip rfl ?_; simp only [Act.put, List.setIfInBounds_toArray, List.set_cons_zero, List.set_cons_succ]) | (refine BigFrame.wpQuiet_want rfl (fun K hK => ?_); apply Exists.intro; refine ⟨fun w' hw' => ?_, hK _ ?_⟩; (focus (have zS := hS.cls hw'; obtain ⟨zb0, zc0, zf0, zl0, zn0⟩ := zS.at 0 rfl; obtain ⟨zb1, zc1, zf1, zl1, zn1⟩ := zS.at 1 rfl; clear zS; go_simp; (try (go_bits; go_simp)); first | done | rfl | (fail))); clear hK K; simp only [Act.put, List.setIfInBounds_toArray, List.set_cons_zero, List.set_cons_succ]))
              refine wpQuiet_nil ?_
              intro w2 hc
              have hS2 := hS.cls hc
              clear hS hc
              obtain ⟨kb0, kc0, kf0, kl0, kn0⟩ := hS2.at 0 rfl
              go_wp2
              go_roundw
              case rel =>
                refine ⟨j + 1, by omega, by go_num, ?_⟩
                have h3 := hS2.setCell 0 rfl j (.int .u8 (bits .xor .u8 (a1.toNat : Int) (a2.toNat : Int)))
                simp only [List.set_cons_zero, List.set_cons_succ] at h3
                rw [xor_u8, bvs_set, show (xorN tt pv j).set j (a1 ^^^ a2) = xorN tt pv (j + 1) by rw [xorN_succ, HX1.out, HY1.out]] at h3
                rw [xor_u8]
                exact h3
              case measure => simp [intOf]; omega
            · obtain rfl : j = 4 := by omega
              rw [xorN_all tt pv (by rw [HTT.out, HPV.out]) 4 HTT.out] at hS
              clear hlt2 hj
              have hw4 := xorL_len tt pv 4 HTT.out HPV.out
              have sw : csz (bvs (xorL tt pv)) = 4 := by rw [csz_bvs, hw4]
              have HS := hid (hS.alloc (bvs (xorL tt pv)) 28)
              have HSrc := hid (SrcAt.own (m := 1) (c := 1) (size := 4) (news := (xorL tt pv).map bv) HS.out 0 rfl (by rw [List.length_map, hw4]) copy_one' (fun j u hj => by unfold bvs; simpa using hj))
              obtain ⟨kb0, kc0, kf0, kl0, kn0⟩ := hS.at 0 rfl
              clear hS hw4
              go_wp2_with (at_builtin; refine wp_append_at elem_75 rfl rfl HS.out 2 rfl rfl HBeg.out HXl.out HCP.out.1 HCP.out.2 rfl HSrc.out HBN.out.1 HBN.out.2 ?_; intro g2 cap2 cur2 w2 hB2 hnc2 hcm2 hS2)
              go_roundw
              case rel =>
                have h4 := hS2.sub (L' := [(g2, cur2, 28), (B4, bvs sboxL, 32)]) (.cons_cons _ (.cons _ (.cons _ (.cons_cons _ .slnil))))
                have hG2 := Gr.back (n := k + 1) h4 hB2 (by rw [List.length_append, HXl.out, List.length_map, xorL_len tt pv 4 HTT.out HPV.out]; omega) hnc2 hcm2
                have e5 : flat (kws key 4 (k + 1)) = flat (kws key 4 k) ++ (xorL tt pv).map bv := by rw [kws_succ, if_neg (by omega), HKW.out, flat_snoc']
                rw [← e5] at hG2
                first | exact ⟨k + 1, by omega, by go_num, hG2⟩ | ((repeat apply Exists.intro); exact ⟨⟨k + 1, by omega, by go_num, hG2⟩, rfl⟩)
              case measure => simp [intOf]; omega
        · rw [turnW_C' hA (by omega)] at hKW0
          have gA : ((k : Int) % 4 == 0) = false := by simp; omega
          have HA := hid hA
          clear hA
          have HTT : Hid ([x0, x1, x2, x3].length = 4) := hid rfl
          have HKW := hid hKW0
          have hST := hS8
          clear hKW0
          generalize [x0, x1, x2, x3] = tt at *
          go_wp2_with fail
          rw [← hb8]
          clear hb8
          clear kb0 kc0 kf0 kl0 kn0
          go_loopw [10] (fun u10 wr => ∃ j : Nat, j ≤ 4 ∧ u10 = .int .i64 j ∧ St w wr [(b8, bvs (xorN tt pv j), 28), (g, cur, 28), (B4, bvs sboxL, 32)])
            (fun i _ => 4 - (intOf i).toNat)
          case atStart => exact ⟨0, by omega, rfl, by rw [xorN_zero]; exact hST⟩
          case round =>
            clear hST
            obtain ⟨j, hj, rfl, hS⟩ := hrel
            by_cases hlt2 : j < 4
            · have hx := bvs_get (l := xorN tt pv j) (k := j) (by rw [xorN_len, HTT.out]; omega)
              rw [xorN_get tt pv j j (Nat.le_refl j)] at hx
              have hy := HPC.out j hlt2
              generalize hX : tt.getD j 0 = a1 at hx
              generalize hY : pv.getD j 0 = a2 at hy
              have HX1 := hid hX; have HY1 := hid hY; clear hX hY
              have f16 : (j : Int) < 4 := by omega
              go_wp2_with fail
              refine region_tail_lit (by kernel_rfl) (by kernel_rfl) ?_
              dsimp only [List.dropLast, List.getLast?, List.getLast, Option.getD]
              repeat (first | (refine BigFrame.wpQuiet_skip rfl ?_; simp only [Act.put, List.setIfInBounds_toArray, List.set_cons_zero, List.set_cons_succ]) | (refine BigFrame.wpQuiet_want rfl (fun K hK => ?_); apply Exists.intro; refine ⟨fun w' hw' => ?_, hK _ ?_⟩; (focus (have zS := hS.cls hw'; obtain ⟨zb0, zc0, zf0, zl0, zn0⟩ := zS.at 0 rfl; obtain ⟨zb1, zc1, zf1, zl1, zn1⟩ := zS.at 1 rfl; clear zS; go_simp; (try (go_bits; go_simp)); first | done | rfl | (fail))); clear hK K; simp only [Act.put, List.setIfInBounds_toArray, List.set_cons_zero, List.set_cons_succ]))
              refine wpQuiet_nil ?_
              intro w2 hc
              have hS2 := hS.cls hc
              clear hS hc
              obtain ⟨kb0, kc0, kf0, kl0, kn0⟩ := hS2.at 0 rfl
              go_wp2
              go_roundw
              case rel =>
                refine ⟨j + 1, by omega, by go_num, ?_⟩
                have h3 := hS2.setCell 0 rfl j (.int .u8 (bits .xor .u8 (a1.toNat : Int) (a2.toNat : Int)))
                simp only [List.set_cons_zero, List.set_cons_succ] at h3
                rw [xor_u8, bvs_set, show (xorN tt pv j).set j (a1 ^^^ a2) = xorN tt pv (j + 1) by rw [xorN_succ, HX1.out, HY1.out]] at h3
                rw [xor_u8]
                exact h3
              case measure => simp [intOf]; omega
            · obtain rfl : j = 4 := by omega
              rw [xorN_all tt pv (by rw [HTT.out, HPV.out]) 4 HTT.out] at hS
              clear hlt2 hj
              have hw4 := xorL_len tt pv 4 HTT.out HPV.out
              have sw : csz (bvs (xorL tt pv)) = 4 := by rw [csz_bvs, hw4]
              have HS := hid (hS.alloc (bvs (xorL tt pv)) 28)
              have HSrc := hid (SrcAt.own (m := 1) (c := 1) (size := 4) (news := (xorL tt pv).map bv) HS.out 0 rfl (by rw [List.length_map, hw4]) copy_one' (fun j u hj => by unfold bvs; simpa using hj))
              obtain ⟨kb0, kc0, kf0, kl0, kn0⟩ := hS.at 0 rfl
              clear hS hw4
              go_wp2_with (at_builtin; refine wp_append_at elem_75 rfl rfl HS.out 2 rfl rfl HBeg.out HXl.out HCP.out.1 HCP.out.2 rfl HSrc.out HBN.out.1 HBN.out.2 ?_; intro g2 cap2 cur2 w2 hB2 hnc2 hcm2 hS2)
              go_roundw
              case rel =>
                have h4 := hS2.sub (L' := [(g2, cur2, 28), (B4, bvs sboxL, 32)]) (.cons_cons _ (.cons _ (.cons _ (.cons_cons _ .slnil))))
                have hG2 := Gr.back (n := k + 1) h4 hB2 (by rw [List.length_append, HXl.out, List.length_map, xorL_len tt pv 4 HTT.out HPV.out]; omega) hnc2 hcm2
                have e5 : flat (kws key 4 (k + 1)) = flat (kws key 4 k) ++ (xorL tt pv).map bv := by rw [kws_succ, if_neg (by omega), HKW.out, flat_snoc']
                rw [← e5] at hG2
                first | exact ⟨k + 1, by omega, by go_num, hG2⟩ | ((repeat apply Exists.intro); exact ⟨⟨k + 1, by omega, by go_num, hG2⟩, rfl⟩)
              case measure => simp [intOf]; omega
    · obtain rfl : k = 44 := by omega
      clear hlt hkC
      obtain ⟨g, cap, cur, hv6, hnc, hcm, hBeg, hS⟩ := hG.cellsOf (by omega)
      rw [hv6]
      clear hv6 hG
      have hcel0 : ∀ q k j x, (rkeys key)[q]? = some k → k[j]? = some x → cur[q * 16 + j]? = some (bv x) := by
        intro q k j x h1 h2
        have h3 := flat_get HR16.out h1 h2
        rw [HRK.out] at h3
        exact hBeg.get h3
      have HC0 := hid hcel0
      have scur : csz cur = cap * 4 := by rw [csz_is]; exact hBeg.1
      have HCAP := hid hnc
      clear hcel0 hnc hcm hBeg H4 HB HCS HRK
      go_wp2_with fail
      have hG0 := Gr.nil (e := 25) (size := 16) hS
      clear hS
      go_loopw [11, 12] (fun u11 u12 wr => ∃ q : Nat, q ≤ 11 ∧ u12 = .int .i64 (4 * (q : Int)) ∧ Gr w wr 25 16 u11 q (flat ((rkeys key).take q)) [(g, cur, 28), (B4, bvs sboxL, 32)])
        (fun _ i _ => 44 - (intOf i).toNat)
      case atStart => exact ⟨0, by omega, rfl, by rw [List.take_zero]; exact hG0⟩
      case round =>
        clear hG0
        obtain ⟨q, hq, rfl, hG⟩ := hrel
        by_cases hlt : q < 11
        · have f1 : 4 * (q : Int) < 44 := by omega
          have hql : q < (rkeys key).length := by rw [HRL.out]; exact hlt
          have hkl := HR16.out (rkeys key)[q] (List.getElem_mem _)
          have hcel : ∀ j, j < 16 → cur[q * 16 + j]? = some (.int .u8 (((rkeys key)[q].getD j 0).toNat : Int)) := by
            intro j hj
            rw [HC0.out q _ j _ (List.getElem?_eq_getElem hql) (List.getElem?_eq_getElem (by omega : j < (rkeys key)[q].length)), List.getD_eq_getElem?_getD, List.getElem?_eq_getElem (by omega : j < (rkeys key)[q].length)]
            rfl
          have HSU := hid (List.take_succ_eq_append_getElem hql)
          generalize (rkeys key)[q] = kq at *
          have HCEL := hid hcel; have HKL := hid hkl
          have HZ := hid (show (zs 16).length = kq.length by rw [zs_len, hkl])
          clear hcel hkl
          have HBN : Hid (q + 1 ≤ maxLen ∧ (q + 1) * 16 ≤ 140737488355328) := hid ⟨by unfold maxLen; omega, by omega⟩
          go_wp2_with fail
          have hG1 := hG.alloc (bvs (zs 16)) 25
          clear hG
          rw [← zs16] at hG1
          generalize hb13 : wr.heap.size = b13 at *
          clear hb13
          generalize hWW : wr.alloc (.cells #[.int .u8 0, .int .u8 0, .int .u8 0, .int .u8 0, .int .u8 0, .int .u8 0, .int .u8 0, .int .u8 0, .int .u8 0, .int .u8 0, .int .u8 0, .int .u8 0, .int .u8 0, .int .u8 0, .int .u8 0, .int .u8 0] 25) = W1 at *
          rw [zs16] at hG1
          clear hWW
          go_loopw [14] (fun u14 wr => ∃ j : Nat, j ≤ 16 ∧ u14 = .int .i64 j ∧ Gr w wr 25 16 u11 q (flat ((rkeys key).take q)) [(b13, bvs (fillN (zs 16) kq j), 25), (g, cur, 28), (B4, bvs sboxL, 32)])
            (fun i _ => 16 - (intOf i).toNat)
          case atStart => exact ⟨0, by omega, rfl, by rw [fillN_zero]; exact hG1⟩
          case round =>
            clear hG1
            obtain ⟨j, hj, rfl, hG⟩ := hrel
            by_cases hlt2 : j < 16
            · have hx := bvs_get (l := fillN (zs 16) kq j) (k := j) (by rw [fillN_len HZ.out, zs_len]; omega)
              have hy := HCEL.out j hlt2
              have hset := hid (fillN_set HZ.out (k := j) (by rw [HKL.out]; omega))
              generalize (fillN (zs 16) kq j).getD j 0 = a1 at hx
              generalize kq.getD j 0 = a2 at *
              obtain ⟨a, c, hjj, hc4⟩ : ∃ a c, j = 4 * a + c ∧ c < 4 := ⟨j / 4, j % 4, by omega, by omega⟩
              have gq : (j : Int) / 4 = (a : Int) := by omega
              have gr : (j : Int) % 4 = (c : Int) := by omega
              have g1 : (0 : Int) ≤ 4 * (q : Int) + (a : Int) := by omega
              have g2 : 4 * (q : Int) + (a : Int) < 44 := by omega
              have g3 : (4 * (q : Int) + (a : Int)).toNat = 4 * q + a := by omega
              have g4 : (c : Int) < 4 := by omega
              have f6 : (j : Int) < 16 := by omega
              rw [show q * 16 + j = (4 * q + a) * 4 + c by omega] at hy
              have HJ := hid hjj
              clear hjj
              have hS := hG.st
              have hd : ¬ b13 = g := by have := hS.2.2; simp at this; exact this.1.1
              have hd2 : ¬ g = b13 := fun h => hd h.symm
              obtain ⟨kb0, kc0, kf0, kl0, kn0⟩ := hS.at 0 rfl; obtain ⟨kb1, kc1, kf1, kl1, kn1⟩ := hS.at 1 rfl
              have HG := hid hG
              clear hG hS
              go_wp2
              go_roundw
              case rel =>
                have h3 := HG.out.setCell 0 rfl j (.int .u8 (a2.toNat : Int))
                simp only [List.set_cons_zero] at h3
                rw [bvs_set, hset.out] at h3
                first | exact ⟨j + 1, by omega, by go_num, h3⟩ | ((repeat apply Exists.intro); exact ⟨⟨j + 1, by omega, by go_num, h3⟩, rfl⟩)
              case measure => simp [intOf]; omega
            · obtain rfl : j = 16 := by omega
              rw [fillN_all HZ.out HKL.out] at hG
              clear hlt2 hj
              have sw : csz (bvs kq) = 16 := by rw [csz_bvs, HKL.out]
              have hS := hG.st
              obtain ⟨kb0, kc0, kf0, kl0, kn0⟩ := hS.at 0 rfl
              have HG := hid (hG.alloc (bvs kq) 25)
              have HSrc := hid (SrcAt.own (m := 1) (c := 1) (size := 16) (news := kq.map bv) HG.out.st 0 rfl (by rw [List.length_map, HKL.out]) copy_one' (fun j u hj => by unfold bvs; simpa using hj))
              clear hG hS
              go_wp2_with (at_builtin; refine wp_append elem_42 rfl rfl HG.out rfl rfl HSrc.out HBN.out.1 HBN.out.2 ?_; intro v2 w2 hG2 hnil; have HNIL := hid hnil; clear hnil)
              go_roundw
              case rel =>
                have h4 := hG2.tail.tail
                rw [← flat_snoc', ← HSU.out] at h4
                first | exact ⟨q + 1, by omega, by go_num, h4⟩ | ((repeat apply Exists.intro); exact ⟨⟨q + 1, by omega, by go_num, h4⟩, rfl⟩)
              case measure => simp [intOf]; omega
        · obtain rfl : q = 11 := by omega
          clear hlt hq
          rw [List.take_of_length_le (by rw [HRL.out]; omega)] at hG
          have HGE := hid hG
          clear hG
          go_wp2
          go_ret2
          unfold RefRoundsOf
          exact ⟨u11, rfl, rowsAt_of_gr' (by omega) HR16.out HRL.out HGE.out, HGE.out.st.below⟩
end Go.Proofs.Ytkfbfgjfdjhjdaa
