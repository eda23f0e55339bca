/-
  The document's Encrypt at whatever round keys. No condition.
-/
import Derived.Test.YtkfbfgjfdjhjdaaEncrypt
import Derived.Test.YtkfbfgjfdjhjdaaRefShift
import Derived.Test.YtkfbfgjfdjhjdaaRefMix
import Derived.Test.YtkfbfgjfdjhjdaaMulP
namespace Go.Proofs.Ytkfbfgjfdjhjdaa
open Go.ChangeShapes Go.WideShapes Go.ChangeAt Go.RowKit
/-- A column's bytes written into their places: so many are written. -/
def setN (x col : List UInt8) (o : Nat) : Nat → List UInt8
  | 0 => x
  | k + 1 => (setN x col o k).set (o + k) (col.getD k 0)
theorem setN_zero (x col : List UInt8) (o : Nat) : setN x col o 0 = x := rfl
theorem setN_succ (x col : List UInt8) (o k : Nat) : setN x col o (k + 1) = (setN x col o k).set (o + k) (col.getD k 0) := rfl
theorem setN_len (x col : List UInt8) (o k : Nat) : (setN x col o k).length = x.length := by
  induction k with
  | zero => rfl
  | succ k ih => rw [setN_succ, List.length_set, ih]
theorem setN_is (x col : List UInt8) (o : Nat) (ho : o + 4 ≤ x.length) (hc : col.length = 4) : setN x col o 4 = x.take o ++ (col ++ x.drop (o + 4)) := by
  obtain ⟨c0, c1, c2, c3, rfl⟩ := len4 hc
  simp only [setN, List.getD_cons_zero, List.getD_cons_succ]
  apply List.ext_getElem?
  intro i
  simp only [List.getElem?_set, List.length_set, List.getElem?_append, List.length_take, List.getElem?_drop, List.getElem?_take]
  rcases Nat.lt_or_ge i o with h | h
  · simp [h, show ¬ o + 3 = i by omega, show ¬ o + 2 = i by omega, show ¬ o + 1 = i by omega, show ¬ o = i by omega, show i < min o x.length by omega]
  · rcases Nat.lt_or_ge i (o + 4) with h4 | h4
    · obtain ⟨d, hd, rfl⟩ : ∃ d, d < 4 ∧ i = o + d := ⟨i - o, by omega, by omega⟩
      have em : min o x.length = o := by omega
      obtain rfl | rfl | rfl | rfl : d = 0 ∨ d = 1 ∨ d = 2 ∨ d = 3 := by omega
      · simp [em, show o < x.length by omega]
      · simp [em, show o + 1 < x.length by omega, show ¬ o + 1 < o by omega]
      · simp [em, show o + 2 < x.length by omega, show ¬ o + 2 < o by omega]
      · simp [em, show o + 3 < x.length by omega, show ¬ o + 3 < o by omega]
    · have e : i - min o x.length - 4 + (o + 4) = i := by omega
      simp [show ¬ o + 3 = i by omega, show ¬ o + 2 = i by omega, show ¬ o + 1 = i by omega, show ¬ o = i by omega, show ¬ i < min o x.length by omega, show ¬ i - min o x.length < 4 by omega]
      congr 1; omega
theorem cols_step {x : List UInt8} (hx : x.length = 16) (c : Nat) (hc : c < 4) (M : List UInt8 → List UInt8) (l : List UInt8) (h : colsN M l c = x) (hM : (M ((x.drop (4 * c)).take 4)).length = 4) :
    setN x (M ((x.drop (4 * c)).take 4)) (4 * c) 4 = colsN M l (c + 1) := by
  rw [setN_is _ _ _ (by omega) hM, colsN_succ, h]
theorem key_get {cs : Array Value} {off : Nat} {key : List UInt8} (hc : cut cs off 16 = bvs key ∧ off + 16 ≤ csz cs) (hk : key.length = 16) {j : Nat} (hj : j < 16) : cs[off + j]? = some (.int .u8 ((key.getD j 0).toNat : Int)) := by
  obtain ⟨hc, hs⟩ := hc
  have h1 := bvs_get (l := key) (k := j) (by omega)
  rw [← hc] at h1
  have e : csz cs = cs.size := by unfold csz; rfl
  unfold cut at h1
  split at h1
  · rename_i h; obtain ⟨rfl, _⟩ := h; rw [Nat.zero_add]; exact h1
  · rw [← h1, Array.getElem?_extract]
    simp [show j < min (off + 16) cs.size - off by omega]
theorem xorN_zero (a b : List UInt8) : xorN a b 0 = a := by unfold xorN; rfl
theorem mapN_get (f : UInt8 → UInt8) (l : List UInt8) (k : Nat) (hk : k < l.length) : (mapN f l k).getD k 0 = l.getD k 0 := by
  rw [mapN_is f l k (by omega)]
  have e : k - (List.map f (l.take k)).length = 0 := by simp; omega
  rw [List.getD_eq_getElem?_getD, List.getD_eq_getElem?_getD, List.getElem?_append_right (by simp; omega), e, List.getElem?_drop, Nat.add_zero]
theorem take4_is {l : List UInt8} {o : Nat} (h : o + 4 ≤ l.length) : (l.drop o).take 4 = [l.getD o 0, l.getD (o + 1) 0, l.getD (o + 2) 0, l.getD (o + 3) 0] := by
  apply List.ext_getElem?
  intro i
  simp only [List.getElem?_take, List.getElem?_drop]
  rcases Nat.lt_or_ge i 4 with h4 | h4
  · obtain rfl | rfl | rfl | rfl : i = 0 ∨ i = 1 ∨ i = 2 ∨ i = 3 := by omega
    all_goals simp [show o < l.length by omega, show o + 1 < l.length by omega, show o + 2 < l.length by omega, show o + 3 < l.length by omega]
  · rw [if_neg (by omega), List.getElem?_eq_none (by simpa using h4)]
attribute [irreducible] setN
attribute [local irreducible] xorL sboxL subB mapN
theorem refShift_is (l : List UInt8) (hl : l.length = 16) (w : World) : Calls Try.prog 21 #[.agg (bvs (l.map subB))] w fun e w' => e = .returned (.agg (bvs (shSub l))) ∧ Below w.heap.size w w' := by
  have := refShift_any (l.map subB) (by simpa using hl) w
  rwa [← shift_law (by simpa using hl), shSub_is] at this
theorem refMix_is (l : List UInt8) (hl : l.length = 4) (w : World) : Calls Try.prog 24 #[.agg (bvs l)] w fun e w' => e = .returned (.agg (bvs (byPart l [2, 3, 1, 1] 16))) ∧ Below w.heap.size w w' := by
  rw [mix_law hl]; exact refMix_any l hl w

set_option maxRecDepth 100000 in
set_option maxHeartbeats 8000000 in
theorem refEncrypt_any (ks : List (List UInt8)) (s : List UInt8) (hs : s.length = 16) (v : Value) (w : World) (hv : KeysAt w v ks) (hn9 : ks.length ≤ 1000000000) :
    Calls Try.prog 38 #[v, .agg (bvs s)] w fun e w' => e = .returned (.agg (bvs (encN ks s ks.length))) ∧ Below w.heap.size w w' := by
  obtain ⟨hk16, p, c, rfl, hkeys⟩ := hv
  have HL := hid (encN_len hk16 hs)
  have HK := hid hk16; have HKE := hid hkeys
  have s0 : csz (bvs s) = 16 := by rw [csz_bvs, hs]
  have s0z : csz Try.zeroCells32 = 256 := by kernel_rfl
  have s256 : csz (bvs sboxL) = 256 := by rw [csz_bvs, sboxL_len]
  clear hs hk16 hkeys
  obtain ⟨n, hn⟩ : ∃ n, n = ks.length := ⟨_, rfl⟩
  rw [← hn] at hn9 ⊢
  have HN := hid hn; clear hn
  obtain ⟨M, hM⟩ : ∃ M, M = fun l => byPart l [2, 3, 1, 1] 16 := ⟨_, rfl⟩
  have cM : ∀ (l : List UInt8), l.length = 4 → ∀ w, Calls Try.prog 24 #[.agg (bvs l)] w fun e w' => e = .returned (.agg (bvs (M l))) ∧ Below w.heap.size w w' := fun l hl w => by rw [hM]; exact refMix_is l hl w
  have lM : ∀ l, (M l).length = 4 := fun l => by rw [hM]; exact byPart_len _ _ _
  have mA : ∀ l, mixAll l = colsN M l 4 := fun l => by unfold mixAll; rw [hM]
  have LM := hid lM; have CM := hid cM; have MA := hid mA
  clear lM cM hM mA
  have z := zs16
  go_enter Try.func38, Try.ntmps38
  go_wp2_with fail
  with_reducible refine (table2_any _).mono ?_
  rintro e w1 ⟨rfl, hb⟩
  have hS := (show St w ((w.alloc (.cells (bvs s) 25)).alloc (.cells (bvs (zs 16)) 25)) [(w.heap.size + 1, bvs (zs 16), 25), (w.heap.size, bvs s, 25)] from (St.alloc' (St.alloc' (St.start w) (by first | rfl | simp)) (by first | rfl | simp))).call hb
  clear hb
  go_wp2_with fail
  have hS2 := hS.alloc (bvs sboxL) 32
  clear hS
  generalize w1.alloc (.cells (bvs sboxL) 32) = W at *
  generalize w1.heap.size = B5 at *
  go_loopw [6, 7, 8, 9, 10, 11] (fun u6 u7 u8 u9 u10 u11 wr => ∃ k : Nat, k ≤ n ∧ u6 = .int .i64 k ∧ St w wr [(B5, bvs sboxL, 32), (w.heap.size + 1, bvs (zs 16), 25), (w.heap.size, bvs (encN ks s k), 25)])
    (fun i _ _ _ _ _ _ => n - (intOf i).toNat)
  case atStart => exact ⟨0, by omega, rfl, by rw [encN_zero]; exact hS2⟩
  case round =>
    clear hS2
    obtain ⟨k, hk, rfl, hS⟩ := hrel
    have hlx := HL.out k (by rw [← HN.out]; exact hk)
    have s1 : csz (bvs (encN ks s k)) = 16 := by rw [csz_bvs, hlx]
    by_cases hlt : k < n
    · have hkn : k < ks.length := by rw [← HN.out]; exact hlt
      obtain ⟨b, o, cs, t, e, rfl, hb, hfit, hcut⟩ := HKE.out k ks[k] (List.getElem?_eq_getElem hkn)
      have hkey := HK.out ks[k] (List.getElem_mem _)
      have hnx := hid (encN_succ ks s k)
      rw [show ks.getD k [] = ks[k] by simp [List.getD_eq_getElem?_getD, hkn], ← HN.out] at hnx
      generalize ks[k] = key at *
      generalize encN ks s k = x at *
      have HB := hid hb; have HCUT := hid (And.intro hcut hfit); have HKY := hid hkey; have HLX := hid hlx
      clear hb hcut hfit hkey hkn hlx
      by_cases h0 : 0 < k
      · have g0 : (0 : Int) < (k : Int) := by omega
        go_wp2_with fail
        go_loopw [7] (fun u7 wr => ∃ j : Nat, j ≤ 16 ∧ u7 = .int .i64 j ∧ St w wr [(B5, bvs sboxL, 32), (w.heap.size + 1, bvs (zs 16), 25), (w.heap.size, bvs (mapN subB x j), 25)])
          (fun i _ => 16 - (intOf i).toNat)
        case atStart => exact ⟨0, by omega, rfl, by rw [mapN_zero]; exact hS⟩
        case round =>
          clear hS
          obtain ⟨j, hj, rfl, hS⟩ := hrel
          by_cases hlt2 : j < 16
          · have hx := bvs_get (l := mapN subB x j) (k := j) (by rw [mapN_len, HLX.out]; omega)
            rw [mapN_get subB x j (by rw [HLX.out]; omega)] at hx
            generalize hX : x.getD j 0 = a1 at hx
            have HX1 := hid hX; clear hX
            have ha := sboxL_get a1
            have f0 : (0 : Int) ≤ (a1.toNat : Int) := by omega
            have f1 : (a1.toNat : Int) < 256 := by have := a1.toNat_lt; omega
            have f16 : (j : Int) < 16 := by omega
            obtain ⟨kb0, kc0, kf0, kl0, kn0⟩ := hS.at 0 rfl; obtain ⟨kb2, kc2, kf2, kl2, kn2⟩ := hS.at 2 rfl
            go_wp2
            go_roundw
            case rel =>
              refine ⟨j + 1, by omega, by go_num, ?_⟩
              have h3 := hS.setCell 2 rfl j (.int .u8 ((subB a1).toNat : Int))
              simp only [List.set_cons_zero, List.set_cons_succ] at h3
              rw [bvs_set, show (mapN subB x j).set j (subB a1) = mapN subB x (j + 1) by rw [mapN_succ, HX1.out]] at h3
              exact h3
            case measure => simp [intOf]; omega
          · obtain rfl : j = 16 := by omega
            rw [mapN_all subB x 16 HLX.out] at hS
            clear hlt2 hj
            have s2 : csz (bvs (x.map subB)) = 16 := by rw [csz_bvs, List.length_map, HLX.out]
            have s4 : csz (bvs (shSub x)) = 16 := by rw [csz_bvs, shSub_len]
            obtain ⟨kb2, kc2, kf2, kl2, kn2⟩ := hS.at 2 rfl
            go_wp2_with fail
            with_reducible refine (refShift_is x HLX.out _).mono ?_
            rintro e w2 ⟨rfl, hb⟩
            have hS2 := hS.call hb
            clear hS hb kb2 kc2 kf2 kl2 kn2
            obtain ⟨kb2, kc2, kf2, kl2, kn2⟩ := hS2.at 2 rfl
            by_cases h1 : k + 1 < n
            · rw [midN_mid n k h0 h1, MA.out] at hnx
              have g1 : (k : Int) < (n : Int) - 1 := by omega
              have HSH := hid (shSub_len x)
              have HCL := hid (colsN_len LM.out HSH.out)
              generalize shSub x = y at *
              go_wp2_with fail
              have hS3 := hS2.setRow 2 rfl (bvs y)
              simp only [List.set_cons_zero, List.set_cons_succ] at hS3
              clear hS2 kb2 kc2 kf2 kl2 kn2
              generalize w2.setRow w.heap.size (bvs y) = W3 at *
              go_loopw [8, 9, 10] (fun u8 u9 u10 wr => ∃ c : Nat, c ≤ 4 ∧ u8 = .int .i64 c ∧ St w wr [(B5, bvs sboxL, 32), (w.heap.size + 1, bvs (zs 16), 25), (w.heap.size, bvs (colsN M y c), 25)])
                (fun i _ _ _ => 4 - (intOf i).toNat)
              case atStart => exact ⟨0, by omega, rfl, by rw [colsN_zero]; exact hS3⟩
              case round =>
                clear hS3
                obtain ⟨c, hc, rfl, hS⟩ := hrel
                by_cases hlt3 : c < 4
                · have hl16 := HCL.out c hc
                  have hst := hid (cols_step hl16 c hlt3 M y rfl (LM.out _))
                  have c0 := bvs_get (l := colsN M y c) (k := 4 * c) (by omega)
                  have c1 := bvs_get (l := colsN M y c) (k := 4 * c + 1) (by omega)
                  have c2 := bvs_get (l := colsN M y c) (k := 4 * c + 2) (by omega)
                  have c3 := bvs_get (l := colsN M y c) (k := 4 * c + 3) (by omega)
                  have hcol : ((colsN M y c).drop (4 * c)).take 4 = [(colsN M y c).getD (4 * c) 0, (colsN M y c).getD (4 * c + 1) 0, (colsN M y c).getD (4 * c + 2) 0, (colsN M y c).getD (4 * c + 3) 0] := take4_is (by omega)
                  rw [hcol] at hst
                  have HC16 := hid hl16
                  generalize colsN M y c = x2 at *
                  generalize x2.getD (4 * c) 0 = a0 at *
                  generalize x2.getD (4 * c + 1) 0 = a1 at *
                  generalize x2.getD (4 * c + 2) 0 = a2 at *
                  generalize x2.getD (4 * c + 3) 0 = a3 at *
                  clear hcol hl16
                  have sx : csz (bvs x2) = 16 := by rw [csz_bvs, HC16.out]
                  have sm : csz (bvs (M [a0, a1, a2, a3])) = 4 := by rw [csz_bvs, LM.out]
                  have eb : #[.int .u8 (a0.toNat : Int), .int .u8 (a1.toNat : Int), .int .u8 (a2.toNat : Int), .int .u8 (a3.toNat : Int)] = bvs [a0, a1, a2, a3] := rfl
                  have f4 : (c : Int) < 4 := by omega
                  have f16 : 4 * (c : Int) < 16 := by omega
                  have g0 : (0 : Int) ≤ 4 * (c : Int) := by omega
                  have n0 : (4 * (c : Int)).toNat = 4 * c := by omega
                  have f17 : 4 * (c : Int) + 1 < 16 := by omega
                  have g1 : (0 : Int) ≤ 4 * (c : Int) + 1 := by omega
                  have n1 : (4 * (c : Int) + 1).toNat = 4 * c + 1 := by omega
                  have f18 : 4 * (c : Int) + 2 < 16 := by omega
                  have g2 : (0 : Int) ≤ 4 * (c : Int) + 2 := by omega
                  have n2 : (4 * (c : Int) + 2).toNat = 4 * c + 2 := by omega
                  have f19 : 4 * (c : Int) + 3 < 16 := by omega
                  have g3 : (0 : Int) ≤ 4 * (c : Int) + 3 := by omega
                  have n3 : (4 * (c : Int) + 3).toNat = 4 * c + 3 := by omega
                  go_wp2_with fail
                  refine region_mono_lit 22 (by kernel_rfl) (by kernel_rfl) ?_
                  dsimp only [List.take, List.drop]
                  repeat (first | (refine wpM_skip (fun _ => rfl) ?_; simp only [Act.put, List.setIfInBounds_toArray, List.set_cons_zero, List.set_cons_succ]) | (refine wpM_alloc rfl (fun _ => rfl) _ (by intro w; go_simp; rfl) ?_; simp only [Act.put, List.setIfInBounds_toArray, List.set_cons_zero, List.set_cons_succ]) | (refine wpM_slice' rfl (fun _ => rfl) (fun K hK => ?_); apply Exists.intro; apply Exists.intro; apply Exists.intro; apply Exists.intro; refine ⟨fun pB w' hw' hF => ?_, hK _ _ ?_⟩; (focus (have zS := hS.cls hw'; obtain ⟨zb0, zc0, zf0, zl0, zn0⟩ := zS.at 2 rfl; clear zS; (first | (have yd := facts_of (hF.at (List.Mem.head _) (by decide +kernel)); obtain ⟨yb0, yc0, yf0, yl0⟩ := yd) | skip); (first | (have yd := facts_of (hF.at (List.Mem.tail _ (List.Mem.head _)) (by decide +kernel)); obtain ⟨yb1, yc1, yf1, yl1⟩ := yd) | skip); (first | (have yd := facts_of (hF.at (List.Mem.tail _ (List.Mem.tail _ (List.Mem.head _))) (by decide +kernel)); obtain ⟨yb2, yc2, yf2, yl2⟩ := yd) | skip); go_simp; (first | done | rfl | exact ⟨⟨rfl, rfl⟩, rfl⟩ | (refine ⟨?_, ?_⟩ <;> rfl) | (refine ⟨⟨?_, ?_⟩, ?_⟩ <;> rfl) | (refine ⟨⟨?_, ?_⟩, ⟨?_, ?_⟩⟩ <;> rfl)))); clear hK K; simp only [Act.put, List.setIfInBounds_toArray, List.set_cons_zero, List.set_cons_succ]) | (refine wpM_want (fun _ => rfl) (fun K hK => ?_); apply Exists.intro; refine ⟨fun pB w' hw' hF => ?_, hK _ _ ?_⟩; (focus (have zS := hS.cls hw'; obtain ⟨zb0, zc0, zf0, zl0, zn0⟩ := zS.at 2 rfl; clear zS; (first | (have yd := facts_of (hF.at (List.Mem.head _) (by decide +kernel)); obtain ⟨yb0, yc0, yf0, yl0⟩ := yd) | skip); (first | (have yd := facts_of (hF.at (List.Mem.tail _ (List.Mem.head _)) (by decide +kernel)); obtain ⟨yb1, yc1, yf1, yl1⟩ := yd) | skip); (first | (have yd := facts_of (hF.at (List.Mem.tail _ (List.Mem.tail _ (List.Mem.head _))) (by decide +kernel)); obtain ⟨yb2, yc2, yf2, yl2⟩ := yd) | skip); go_simp; (try (go_bits; go_simp)); first | done | rfl | (first | (go_at_call 24; exact CM.out _ rfl _)))); clear hK K; simp only [Act.put, List.setIfInBounds_toArray, List.set_cons_zero, List.set_cons_succ]))
                  refine wpM_nil ?_
                  intro p w' hc hF hN
                  have hS2 := hS.news hc _ (by simp) hF hN
                  simp only [List.map_cons, List.map_nil, List.cons_append, List.nil_append] at hS2
                  clear hF hN hc hS
                  dsimp only
                  simp only [Nat.zero_add, Nat.reduceAdd] at hS2 ⊢
                  generalize p 21 = B9 at *
                  have hd := hS2.2.2
                  simp at hd
                  obtain ⟨kb0, kc0, kf0, kl0, kn0⟩ := hS2.at 0 rfl
                  go_wp2_with fail
                  have hS3 := hS2.setRow 0 rfl (bvs (M [a0, a1, a2, a3]))
                  simp only [List.set_cons_zero, List.set_cons_succ] at hS3
                  clear kb0 kc0 kf0 kl0 kn0 hS2 hd
                  generalize w'.setRow B9 (bvs (M [a0, a1, a2, a3])) = W4 at *
                  have HM4 := hid (LM.out [a0, a1, a2, a3])
                  generalize M [a0, a1, a2, a3] = mc at *
                  clear c0 c1 c2 c3 eb f16 f17 f18 f19 g0 g1 g2 g3 n0 n1 n2 n3
                  go_loopw [10] (fun u10 wr => ∃ d : Nat, d ≤ 4 ∧ u10 = .int .i64 d ∧ St w wr [(B9, bvs mc, 28), (B5, bvs sboxL, 32), (w.heap.size + 1, bvs (zs 16), 25), (w.heap.size, bvs (setN x2 mc (4 * c) d), 25)])
                    (fun i _ => 4 - (intOf i).toNat)
                  case atStart => exact ⟨0, by omega, rfl, by rw [setN_zero]; exact hS3⟩
                  case round =>
                    clear hS3
                    obtain ⟨d, hd, rfl, hS⟩ := hrel
                    by_cases hlt4 : d < 4
                    · have hx := bvs_get (l := mc) (k := d) (by rw [HM4.out]; omega)
                      have hy := bvs_get (l := setN x2 mc (4 * c) d) (k := 4 * c + d) (by rw [setN_len, HC16.out]; omega)
                      generalize hX : mc.getD d 0 = b1 at hx
                      generalize (setN x2 mc (4 * c) d).getD (4 * c + d) 0 = b2 at hy
                      have HX1 := hid hX; clear hX
                      have f5 : 4 * (c : Int) + (d : Int) < 16 := by omega
                      have f6 : (d : Int) < 4 := by omega
                      obtain ⟨kb0, kc0, kf0, kl0, kn0⟩ := hS.at 0 rfl; obtain ⟨kb3, kc3, kf3, kl3, kn3⟩ := hS.at 3 rfl
                      go_wp2
                      go_roundw
                      case rel =>
                        refine ⟨d + 1, by omega, by go_num, ?_⟩
                        have h3 := hS.setCell 3 rfl (4 * c + d) (.int .u8 (b1.toNat : Int))
                        simp only [List.set_cons_zero, List.set_cons_succ] at h3
                        rw [bvs_set, show (setN x2 mc (4 * c) d).set (4 * c + d) b1 = setN x2 mc (4 * c) (d + 1) by rw [setN_succ, HX1.out]] at h3
                        exact h3
                      case measure => simp [intOf]; omega
                    · obtain rfl : d = 4 := by omega
                      clear hd hlt4
                      rw [hst.out] at hS
                      have hS2 := hS.tail
                      clear hS
                      go_wp2
                      go_roundw
                      case rel => exact ⟨c + 1, by omega, by go_num, hS2⟩
                      case measure => simp [intOf]; omega
                · obtain rfl : c = 4 := by omega
                  clear hc hlt3
                  have HX16 := hid (HCL.out 4 (Nat.le_refl 4))
                  generalize colsN M y 4 = x3 at *
                  go_wp2_with fail
                  go_loopw [11] (fun u11 wr => ∃ j : Nat, j ≤ 16 ∧ u11 = .int .i64 j ∧ St w wr [(B5, bvs sboxL, 32), (w.heap.size + 1, bvs (zs 16), 25), (w.heap.size, bvs (xorN x3 key j), 25)])
                    (fun i _ => 16 - (intOf i).toNat)
                  case atStart => exact ⟨0, by omega, rfl, by rw [xorN_zero]; exact hS⟩
                  case round =>
                    clear hS
                    obtain ⟨j, hj, rfl, hS⟩ := hrel
                    by_cases hlt2 : j < 16
                    · have hx := bvs_get (l := xorN x3 key j) (k := j) (by rw [xorN_len, HX16.out]; omega)
                      rw [xorN_get _ _ j j (Nat.le_refl j)] at hx
                      have hy := key_get HCUT.out HKY.out hlt2
                      generalize hX : (x3).getD j 0 = a1 at hx
                      generalize hY : key.getD j 0 = a2 at hy
                      have HX1 := hid hX; have HY1 := hid hY; clear hX hY
                      have f16 : (j : Int) < 16 := by omega
                      go_wp2_with fail
                      refine region_tail_lit (by kernel_rfl) (by kernel_rfl) ?_
                      dsimp only [List.dropLast, List.getLast?, List.getLast, Option.getD]
                      repeat (first | (refine BigFrame.wpQuiet_skip rfl ?_; simp only [Act.put, List.setIfInBounds_toArray, List.set_cons_zero, List.set_cons_succ]) | (refine BigFrame.wpQuiet_want rfl (fun K hK => ?_); apply Exists.intro; refine ⟨fun w' hw' => ?_, hK _ ?_⟩; (focus (have zS := hS.cls hw'; obtain ⟨zb0, zc0, zf0, zl0, zn0⟩ := zS.at 2 rfl; obtain ⟨zb1, zc1, zf1, zl1, zn1⟩ := zS.far HB.out; clear zS; go_simp; (try (go_bits; go_simp)); first | done | rfl | (fail))); clear hK K; simp only [Act.put, List.setIfInBounds_toArray, List.set_cons_zero, List.set_cons_succ]))
                      refine wpQuiet_nil ?_
                      intro w2 hc
                      have hS2 := hS.cls hc
                      clear hS hc
                      obtain ⟨kb2, kc2, kf2, kl2, kn2⟩ := hS2.at 2 rfl
                      go_wp2
                      go_roundw
                      case rel =>
                        refine ⟨j + 1, by omega, by go_num, ?_⟩
                        have h3 := hS2.setCell 2 rfl j (.int .u8 (bits .xor .u8 (a1.toNat : Int) (a2.toNat : Int)))
                        simp only [List.set_cons_zero, List.set_cons_succ] at h3
                        rw [xor_u8, bvs_set, show (xorN x3 key j).set j (a1 ^^^ a2) = xorN x3 key (j + 1) by rw [xorN_succ, HX1.out, HY1.out]] at h3
                        rw [xor_u8]
                        exact h3
                      case measure => simp [intOf]; omega
                    · obtain rfl : j = 16 := by omega
                      clear hlt2 hj
                      go_wp2
                      go_roundw
                      case rel => exact ⟨k + 1, by omega, by go_num, by rw [hnx.out, ← xorN_all x3 key (by rw [HX16.out, HKY.out]) 16 HX16.out]; exact hS⟩
                      case measure => simp [intOf]; omega
            · rw [midN_last n k h0 h1] at hnx
              have g1 : (n : Int) - 1 ≤ (k : Int) := by omega
              have HSH := hid (shSub_len x)
              generalize shSub x = y at *
              go_wp2_with fail
              have hS3 := hS2.setRow 2 rfl (bvs y)
              simp only [List.set_cons_zero, List.set_cons_succ] at hS3
              clear hS2 kb2 kc2 kf2 kl2 kn2
              generalize w2.setRow w.heap.size (bvs y) = W3 at *
              go_loopw [11] (fun u11 wr => ∃ j : Nat, j ≤ 16 ∧ u11 = .int .i64 j ∧ St w wr [(B5, bvs sboxL, 32), (w.heap.size + 1, bvs (zs 16), 25), (w.heap.size, bvs (xorN y key j), 25)])
                (fun i _ => 16 - (intOf i).toNat)
              case atStart => exact ⟨0, by omega, rfl, by rw [xorN_zero]; exact hS3⟩
              case round =>
                clear hS3
                obtain ⟨j, hj, rfl, hS⟩ := hrel
                by_cases hlt2 : j < 16
                · have hx := bvs_get (l := xorN y key j) (k := j) (by rw [xorN_len, HSH.out]; omega)
                  rw [xorN_get _ _ j j (Nat.le_refl j)] at hx
                  have hy := key_get HCUT.out HKY.out hlt2
                  generalize hX : (y).getD j 0 = a1 at hx
                  generalize hY : key.getD j 0 = a2 at hy
                  have HX1 := hid hX; have HY1 := hid hY; clear hX hY
                  have f16 : (j : Int) < 16 := by omega
                  go_wp2_with fail
                  refine region_tail_lit (by kernel_rfl) (by kernel_rfl) ?_
                  dsimp only [List.dropLast, List.getLast?, List.getLast, Option.getD]
                  repeat (first | (refine BigFrame.wpQuiet_skip rfl ?_; simp only [Act.put, List.setIfInBounds_toArray, List.set_cons_zero, List.set_cons_succ]) | (refine BigFrame.wpQuiet_want rfl (fun K hK => ?_); apply Exists.intro; refine ⟨fun w' hw' => ?_, hK _ ?_⟩; (focus (have zS := hS.cls hw'; obtain ⟨zb0, zc0, zf0, zl0, zn0⟩ := zS.at 2 rfl; obtain ⟨zb1, zc1, zf1, zl1, zn1⟩ := zS.far HB.out; clear zS; go_simp; (try (go_bits; go_simp)); first | done | rfl | (fail))); clear hK K; simp only [Act.put, List.setIfInBounds_toArray, List.set_cons_zero, List.set_cons_succ]))
                  refine wpQuiet_nil ?_
                  intro w2 hc
                  have hS2 := hS.cls hc
                  clear hS hc
                  obtain ⟨kb2, kc2, kf2, kl2, kn2⟩ := hS2.at 2 rfl
                  go_wp2
                  go_roundw
                  case rel =>
                    refine ⟨j + 1, by omega, by go_num, ?_⟩
                    have h3 := hS2.setCell 2 rfl j (.int .u8 (bits .xor .u8 (a1.toNat : Int) (a2.toNat : Int)))
                    simp only [List.set_cons_zero, List.set_cons_succ] at h3
                    rw [xor_u8, bvs_set, show (xorN y key j).set j (a1 ^^^ a2) = xorN y key (j + 1) by rw [xorN_succ, HX1.out, HY1.out]] at h3
                    rw [xor_u8]
                    exact h3
                  case measure => simp [intOf]; omega
                · obtain rfl : j = 16 := by omega
                  clear hlt2 hj
                  go_wp2
                  go_roundw
                  case rel => exact ⟨k + 1, by omega, by go_num, by rw [hnx.out, ← xorN_all y key (by rw [HSH.out, HKY.out]) 16 HSH.out]; exact hS⟩
                  case measure => simp [intOf]; omega
      · obtain rfl : k = 0 := by omega
        rw [midN_zero] at hnx
        simp only [Nat.zero_mul, Nat.add_zero] at HCUT
        clear h0 hk
        go_wp2_with fail
        go_loopw [11] (fun u11 wr => ∃ j : Nat, j ≤ 16 ∧ u11 = .int .i64 j ∧ St w wr [(B5, bvs sboxL, 32), (w.heap.size + 1, bvs (zs 16), 25), (w.heap.size, bvs (xorN x key j), 25)])
          (fun i _ => 16 - (intOf i).toNat)
        case atStart => exact ⟨0, by omega, rfl, by rw [xorN_zero]; exact hS⟩
        case round =>
          clear hS
          obtain ⟨j, hj, rfl, hS⟩ := hrel
          by_cases hlt2 : j < 16
          · have hx := bvs_get (l := xorN x key j) (k := j) (by rw [xorN_len, HLX.out]; omega)
            rw [xorN_get _ _ j j (Nat.le_refl j)] at hx
            have hy := key_get HCUT.out HKY.out hlt2
            generalize hX : (x).getD j 0 = a1 at hx
            generalize hY : key.getD j 0 = a2 at hy
            have HX1 := hid hX; have HY1 := hid hY; clear hX hY
            have f16 : (j : Int) < 16 := by omega
            go_wp2_with fail
            refine region_tail_lit (by kernel_rfl) (by kernel_rfl) ?_
            dsimp only [List.dropLast, List.getLast?, List.getLast, Option.getD]
            repeat (first | (refine BigFrame.wpQuiet_skip rfl ?_; simp only [Act.put, List.setIfInBounds_toArray, List.set_cons_zero, List.set_cons_succ]) | (refine BigFrame.wpQuiet_want rfl (fun K hK => ?_); apply Exists.intro; refine ⟨fun w' hw' => ?_, hK _ ?_⟩; (focus (have zS := hS.cls hw'; obtain ⟨zb0, zc0, zf0, zl0, zn0⟩ := zS.at 2 rfl; obtain ⟨zb1, zc1, zf1, zl1, zn1⟩ := zS.far HB.out; clear zS; go_simp; (try (go_bits; go_simp)); first | done | rfl | (fail))); clear hK K; simp only [Act.put, List.setIfInBounds_toArray, List.set_cons_zero, List.set_cons_succ]))
            refine wpQuiet_nil ?_
            intro w2 hc
            have hS2 := hS.cls hc
            clear hS hc
            obtain ⟨kb2, kc2, kf2, kl2, kn2⟩ := hS2.at 2 rfl
            go_wp2
            go_roundw
            case rel =>
              refine ⟨j + 1, by omega, by go_num, ?_⟩
              have h3 := hS2.setCell 2 rfl j (.int .u8 (bits .xor .u8 (a1.toNat : Int) (a2.toNat : Int)))
              simp only [List.set_cons_zero, List.set_cons_succ] at h3
              rw [xor_u8, bvs_set, show (xorN x key j).set j (a1 ^^^ a2) = xorN x key (j + 1) by rw [xorN_succ, HX1.out, HY1.out]] at h3
              rw [xor_u8]
              exact h3
            case measure => simp [intOf]; omega
          · obtain rfl : j = 16 := by omega
            clear hlt2 hj
            go_wp2
            go_roundw
            case rel => exact ⟨1, by omega, by go_num, by rw [hnx.out, ← xorN_all x key (by rw [HLX.out, HKY.out]) 16 HLX.out]; exact hS⟩
            case measure => simp [intOf]; omega
    · obtain rfl : k = n := by omega
      clear hlt hk
      obtain ⟨kb1, kc1, kf1, kl1, kn1⟩ := hS.at 1 rfl; obtain ⟨kb2, kc2, kf2, kl2, kn2⟩ := hS.at 2 rfl
      go_wp2
      have h3 := hS.setRow 1 rfl (bvs (encN ks s k))
      simp only [List.set_cons_zero, List.set_cons_succ] at h3
      exact post_cell (n := 16) Try.results38 (by kernel_rfl) (.inl rfl) _ _ _ _ rfl rfl (h3.blk 1 rfl) s1 ⟨rfl, h3.below⟩
end Go.Proofs.Ytkfbfgjfdjhjdaa
