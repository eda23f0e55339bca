/-
  The law CipherParts, walked. No condition.
-/
import Derived.Test.YtkfbfgjfdjhjdaaEncrypt
import Derived.Test.YtkfbfgjfdjhjdaaKeySlice
namespace Go.Proofs.Ytkfbfgjfdjhjdaa
open Go.ChangeShapes Go.WideShapes Go.ChangeAt Go.RowKit
theorem xorL_comm' (a b : List UInt8) : xorL a b = xorL b a := by
  unfold xorL
  rw [List.zipWith_comm]
  congr 1
  funext x y
  exact UInt8.xor_comm y x
theorem xorL_zero {a : List UInt8} (h : a.length = 16) : xorL a (zs 16) = a := by
  obtain ⟨a0, a1, a2, a3, a4, a5, a6, a7, a8, a9, a10, a11, a12, a13, a14, a15, rfl⟩ := len16 h
  rw [zs16_is]
  simp [xorL]
def kk1 : List UInt8 := [1, 0, 0, 0, 0, 0, 0, 0, 0, 0, 0, 0, 0, 0, 0, 0]
def kk2 : List UInt8 := [2, 0, 0, 0, 0, 0, 0, 0, 0, 0, 0, 0, 0, 0, 0, 0]
def kk3 : List UInt8 := [3, 0, 0, 0, 0, 0, 0, 0, 0, 0, 0, 0, 0, 0, 0, 0]
theorem kk1_lit : #[Value.int .u8 1, .int .u8 0, .int .u8 0, .int .u8 0, .int .u8 0, .int .u8 0, .int .u8 0, .int .u8 0, .int .u8 0, .int .u8 0, .int .u8 0, .int .u8 0, .int .u8 0, .int .u8 0, .int .u8 0, .int .u8 0] = bvs kk1 := rfl
theorem kk2_lit : #[Value.int .u8 2, .int .u8 0, .int .u8 0, .int .u8 0, .int .u8 0, .int .u8 0, .int .u8 0, .int .u8 0, .int .u8 0, .int .u8 0, .int .u8 0, .int .u8 0, .int .u8 0, .int .u8 0, .int .u8 0, .int .u8 0] = bvs kk2 := rfl
theorem kk3_lit : #[Value.int .u8 3, .int .u8 0, .int .u8 0, .int .u8 0, .int .u8 0, .int .u8 0, .int .u8 0, .int .u8 0, .int .u8 0, .int .u8 0, .int .u8 0, .int .u8 0, .int .u8 0, .int .u8 0, .int .u8 0, .int .u8 0] = bvs kk3 := rfl
theorem zs_ne : ¬ bvs (zs 16) = #[] := by rw [← zs16]; simp
theorem kk1_set : (bvs (zs 16)).setIfInBounds 0 (.int .u8 1) = bvs kk1 := by rw [← zs16]; rfl
theorem kk2_set : (bvs (zs 16)).setIfInBounds 0 (.int .u8 2) = bvs kk2 := by rw [← zs16]; rfl
theorem kk3_set : (bvs (zs 16)).setIfInBounds 0 (.int .u8 3) = bvs kk3 := by rw [← zs16]; rfl
theorem kk_len : kk1.length = 16 ∧ kk2.length = 16 ∧ kk3.length = 16 := ⟨rfl, rfl, rfl⟩
theorem kk_sum : xorL kk3 kk1 = kk2 := by decide +kernel
attribute [irreducible] kk1 kk2 kk3
attribute [local irreducible] xorL sboxL subB

theorem cut_l (a b : List UInt8) (ha : a.length = 16) (hb : b.length = 16) : cut (bvs (a ++ b)) 0 16 = bvs a ∧ cut (bvs (a ++ b)) 16 16 = bvs b := by
  have e : csz (bvs (a ++ b)) = 32 := by rw [csz_bvs]; simp; omega
  constructor
  · unfold cut; rw [if_neg (by rw [e]; omega)]; unfold bvs; simp [← ha]
  · unfold cut; rw [if_neg (by omega)]; unfold bvs; simp [← ha]; rw [List.take_of_length_le (by simp; omega)]
theorem keysAt0 (w : World) (p : Option Addr) (c : Nat) : KeysAt w (.slice p 0 c) [] := ⟨fun _ h => (List.not_mem_nil h).elim, p, c, rfl, fun i k h => by simp at h⟩
theorem keysAt1 {w : World} {b : Nat} {t : TypeId} {a : List UInt8} (ha : a.length = 16) (hb : blk w b = some (.cells (bvs a) t (0, 0))) : KeysAt w (.slice (some ⟨b, 0, none⟩) 1 1) [a] := by
  refine ⟨fun k hk => by simp at hk; rw [hk]; exact ha, _, 1, rfl, fun i k hi => ?_⟩
  have : i = 0 ∧ k = a := by
    cases i with
    | zero => simpa using hi.symm
    | succ i => simp at hi
  obtain ⟨rfl, rfl⟩ := this
  exact ⟨b, 0, _, t, _, rfl, hb, by rw [csz_bvs, ha]; omega, cut_whole _ _ (by rw [csz_bvs, ha])⟩
theorem keysAt2 {w : World} {b : Nat} {t : TypeId} {a c : List UInt8} (ha : a.length = 16) (hc : c.length = 16) (hb : blk w b = some (.cells (bvs (a ++ c)) t (0, 0))) : KeysAt w (.slice (some ⟨b, 0, none⟩) 2 2) [a, c] := by
  have e : csz (bvs (a ++ c)) = 32 := by rw [csz_bvs]; simp; omega
  have hcut := cut_l a c ha hc
  refine ⟨fun k hk => by simp at hk; rcases hk with rfl | rfl <;> assumption, _, 2, rfl, fun i k hi => ?_⟩
  have : (i = 0 ∧ k = a) ∨ (i = 1 ∧ k = c) := by
    match i, hi with
    | 0, hi => exact .inl ⟨rfl, by simpa using hi.symm⟩
    | 1, hi => exact .inr ⟨rfl, by simpa using hi.symm⟩
  rcases this with ⟨rfl, rfl⟩ | ⟨rfl, rfl⟩
  · exact ⟨b, 0, _, t, _, rfl, hb, by rw [e]; omega, hcut.1⟩
  · exact ⟨b, 0, _, t, _, rfl, hb, by rw [e]; omega, hcut.2⟩
theorem enc0_any (x : List UInt8) (hx : x.length = 16) (w : World) : Calls Try.prog 37 #[.slice none 0 0, .agg (bvs x)] w fun e w' => e = .returned (.agg (bvs x)) ∧ Below w.heap.size w w' := by
  have := encrypt_any [] x hx _ w (keysAt0 w none 0) (by decide)
  rwa [List.length_nil, encN_zero] at this
theorem enc1_any (a x : List UInt8) (ha : a.length = 16) (hx : x.length = 16) (b : Nat) (t : TypeId) (w : World) (hb : blk w b = some (.cells (bvs a) t (0, 0))) :
    Calls Try.prog 37 #[.slice (some ⟨b, 0, none⟩) 1 1, .agg (bvs x)] w fun e w' => e = .returned (.agg (bvs (xorL x a))) ∧ Below w.heap.size w w' := by
  have := encrypt_any [a] x hx _ w (keysAt1 ha hb) (by simp)
  rwa [List.length_singleton, encN_succ, encN_zero, midN_zero, show [a].getD 0 [] = a from rfl] at this
theorem enc2_any (a c x : List UInt8) (ha : a.length = 16) (hc : c.length = 16) (hx : x.length = 16) (b : Nat) (t : TypeId) (w : World) (hb : blk w b = some (.cells (bvs (a ++ c)) t (0, 0))) :
    Calls Try.prog 37 #[.slice (some ⟨b, 0, none⟩) 2 2, .agg (bvs x)] w fun e w' => e = .returned (.agg (bvs (xorL (shSub (xorL x a)) c))) ∧ Below w.heap.size w w' := by
  have := encrypt_any [a, c] x hx _ w (keysAt2 ha hc hb) (by simp)
  rwa [show [a, c].length = 1 + 1 from rfl, encN_succ, encN_succ, encN_zero, show [a, c].length = 2 from rfl, midN_zero, midN_last 2 1 (by omega) (by omega), show [a, c].getD 0 [] = a from rfl, show [a, c].getD 1 [] = c from rfl] at this

set_option maxRecDepth 100000 in
set_option maxHeartbeats 4000000 in
theorem cipherParts_any (a b x : List UInt8) (ha : a.length = 16) (hb : b.length = 16) (hx : x.length = 16) (w : World) :
    Calls Try.prog 14 #[.agg (bvs a), .agg (bvs b), .agg (bvs x)] w fun e w' => e = .returned (.bool true) ∧ Below w.heap.size w w' := by
  have hxa := xorL_len x a 16 hx ha
  have q1 : (xorL kk3 kk1 == kk2) = true := by rw [kk_sum]; simp
  have q2 : (xorL x a == xorL a x) = true := by rw [xorL_comm' x a]; simp
  have q3 : (xorL (shSub (xorL x a)) b == xorL (shSub (xorL (zs 16) (xorL x a))) b) = true := by rw [xorL_comm' (zs 16), xorL_zero hxa]; simp
  have q4 : (xorL (shSub (xorL x a)) b == xorL (shSub (xorL (xorL x a) (zs 16))) b) = true := by rw [xorL_zero hxa]; simp
  have s0 : csz (bvs a) = 16 := by rw [csz_bvs, ha]
  have s1 : csz (bvs b) = 16 := by rw [csz_bvs, hb]
  have s2 : csz (bvs x) = 16 := by rw [csz_bvs, hx]
  have s3 : csz (bvs kk1) = 16 := by rw [csz_bvs, kk_len.1]
  have s4 : csz (bvs kk2) = 16 := by rw [csz_bvs, kk_len.2.1]
  have s5 : csz (bvs kk3) = 16 := by rw [csz_bvs, kk_len.2.2]
  have s6 : csz (bvs (xorL x a)) = 16 := by rw [csz_bvs, hxa]
  have s7 : csz (bvs (xorL a x)) = 16 := by rw [csz_bvs, xorL_len a x 16 ha hx]
  have s8 : ∀ y, csz (bvs (xorL (shSub y) b)) = 16 := fun y => by rw [csz_bvs, xorL_len _ b 16 (shSub_len y) hb]
  have s9 : csz (bvs (xorL kk3 kk1)) = 16 := by rw [kk_sum]; exact s4
  have HA := hid ha; have HB := hid hb; have HX := hid hx; have HXA := hid hxa; clear ha hb hx hxa
  have z := zs16; have e0 := zs_ne; have e1 := kk1_set; have e2 := kk2_set; have e3 := kk3_set
  go_enter Try.func14, Try.ntmps14
  go_wp2_with fail
  have hS : St w ((((w.alloc (.cells (bvs a) 25)).alloc (.cells (bvs b) 25)).alloc (.cells (bvs x) 25)).alloc (.cells (bvs a) 25)) [(w.heap.size + 1 + 1 + 1, bvs a, 25), (w.heap.size + 1 + 1, bvs x, 25), (w.heap.size + 1, bvs b, 25), (w.heap.size, bvs a, 25)] := (St.alloc' (St.alloc' (St.alloc' (St.alloc' (St.start w) (by first | rfl | simp)) (by first | rfl | simp)) (by first | rfl | simp)) (by first | rfl | simp))
  with_reducible refine (enc1_any a x HA.out HX.out _ _ _ (hS.blk 0 rfl)).mono ?_
  rintro e w1 ⟨rfl, hb⟩
  have hS1 := hS.call hb
  clear hS hb
  obtain ⟨kb1, kc1, kf1, kl1, kn1⟩ := hS1.at 1 rfl; obtain ⟨kb2, kc2, kf2, kl2, kn2⟩ := hS1.at 2 rfl; obtain ⟨kb3, kc3, kf3, kl3, kn3⟩ := hS1.at 3 rfl
  go_wp2_with fail
  have hS2 := (hS1.alloc (bvs (xorL x a)) 25).alloc' (cs := bvs (a ++ b)) (t := 25) (n := w1.heap.size + 1) (by simp)
  clear hS1 kb1 kc1 kf1 kl1 kn1 kb2 kc2 kf2 kl2 kn2 kb3 kc3 kf3 kl3 kn3
  with_reducible refine (enc2_any a b x HA.out HB.out HX.out _ _ _ (hS2.blk 0 rfl)).mono ?_
  rintro e w2 ⟨rfl, hb⟩
  have hS3 := hS2.call hb
  clear hS2 hb
  obtain ⟨kb3, kc3, kf3, kl3, kn3⟩ := hS3.at 3 rfl
  go_wp2_with fail
  with_reducible refine (enc0_any x HX.out _).mono ?_
  rintro e w3 ⟨rfl, hb⟩
  have hS4 := (hS3.alloc (bvs (xorL (shSub (xorL x a)) b)) 25).call hb
  clear hS3 hb kb3 kc3 kf3 kl3 kn3
  generalize w2.heap.size = n2 at *
  generalize w1.heap.size = n1 at *
  go_wp2_with fail
  have hS5 := hS4.alloc (bvs x) 25
  clear hS4
  generalize w3.heap.size = n3 at *
  generalize w3.alloc (.cells (bvs x) 25) = W at *
  refine region_mono_lit 29 (by kernel_rfl) (by kernel_rfl) ?_
  dsimp only [List.take, List.drop]
  repeat (first | (refine wpM_skip (fun _ => rfl) ?_; simp only [Act.put, List.setIfInBounds_toArray, List.set_cons_zero, List.set_cons_succ]) | (refine wpM_alloc rfl (fun _ => rfl) _ (by intro w; go_simp; rfl) ?_; simp only [Act.put, List.setIfInBounds_toArray, List.set_cons_zero, List.set_cons_succ]) | (refine wpM_slice' rfl (fun _ => rfl) (fun K hK => ?_); apply Exists.intro; apply Exists.intro; apply Exists.intro; apply Exists.intro; refine ⟨fun pB w' hw' hF => ?_, hK _ _ ?_⟩; (focus (have zS := hS5.cls hw'; obtain ⟨zb0, zc0, zf0, zl0, zn0⟩ := zS.at 0 rfl; obtain ⟨zb1, zc1, zf1, zl1, zn1⟩ := zS.at 1 rfl; obtain ⟨zb2, zc2, zf2, zl2, zn2⟩ := zS.at 3 rfl; obtain ⟨zb3, zc3, zf3, zl3, zn3⟩ := zS.at 5 rfl; obtain ⟨zb4, zc4, zf4, zl4, zn4⟩ := zS.at 6 rfl; obtain ⟨zb5, zc5, zf5, zl5, zn5⟩ := zS.at 7 rfl; clear zS; (first | (have yd := facts_of (hF.at (List.Mem.head _) (by decide +kernel)); obtain ⟨yb0, yc0, yf0, yl0⟩ := yd) | skip); (first | (have yd := facts_of (hF.at (List.Mem.tail _ (List.Mem.head _)) (by decide +kernel)); obtain ⟨yb1, yc1, yf1, yl1⟩ := yd) | skip); (first | (have yd := facts_of (hF.at (List.Mem.tail _ (List.Mem.tail _ (List.Mem.head _))) (by decide +kernel)); obtain ⟨yb2, yc2, yf2, yl2⟩ := yd) | skip); go_simp; (first | done | rfl | exact ⟨⟨rfl, rfl⟩, rfl⟩ | (refine ⟨?_, ?_⟩ <;> rfl) | (refine ⟨⟨?_, ?_⟩, ?_⟩ <;> rfl) | (refine ⟨⟨?_, ?_⟩, ⟨?_, ?_⟩⟩ <;> rfl)))); clear hK K; simp only [Act.put, List.setIfInBounds_toArray, List.set_cons_zero, List.set_cons_succ]) | (refine wpM_want (fun _ => rfl) (fun K hK => ?_); apply Exists.intro; refine ⟨fun pB w' hw' hF => ?_, hK _ _ ?_⟩; (focus (have zS := hS5.cls hw'; obtain ⟨zb0, zc0, zf0, zl0, zn0⟩ := zS.at 0 rfl; obtain ⟨zb1, zc1, zf1, zl1, zn1⟩ := zS.at 1 rfl; obtain ⟨zb2, zc2, zf2, zl2, zn2⟩ := zS.at 3 rfl; obtain ⟨zb3, zc3, zf3, zl3, zn3⟩ := zS.at 5 rfl; obtain ⟨zb4, zc4, zf4, zl4, zn4⟩ := zS.at 6 rfl; obtain ⟨zb5, zc5, zf5, zl5, zn5⟩ := zS.at 7 rfl; clear zS; (first | (have yd := facts_of (hF.at (List.Mem.head _) (by decide +kernel)); obtain ⟨yb0, yc0, yf0, yl0⟩ := yd) | skip); (first | (have yd := facts_of (hF.at (List.Mem.tail _ (List.Mem.head _)) (by decide +kernel)); obtain ⟨yb1, yc1, yf1, yl1⟩ := yd) | skip); (first | (have yd := facts_of (hF.at (List.Mem.tail _ (List.Mem.tail _ (List.Mem.head _))) (by decide +kernel)); obtain ⟨yb2, yc2, yf2, yl2⟩ := yd) | skip); go_simp; (try (go_bits; go_simp)); first | done | rfl | (first | (go_at_call 37; first | ((with_reducible apply enc1_any kk1 kk3 kk_len.1 kk_len.2.2); first | exact yb0 | exact yb1 | exact yb2) | ((with_reducible apply enc1_any x a HX.out HA.out); first | exact yb0 | exact yb1 | exact yb2) | ((with_reducible apply enc2_any (zs 16) b (xorL x a) (zs_len 16) HB.out HXA.out); first | exact yb0 | exact yb1 | exact yb2))))); clear hK K; simp only [Act.put, List.setIfInBounds_toArray, List.set_cons_zero, List.set_cons_succ]))
  refine wpM_nil ?_
  intro p w' hc hF hN
  have hS6 := hS5.news hc _ (by simp) hF hN
  simp only [List.map_cons, List.map_nil, List.cons_append, List.nil_append] at hS6
  clear hF hN hc hS5
  dsimp only
  have hB := hS6.below

  go_wp2
  go_ret
  exact ⟨rfl, hB⟩
end Go.Proofs.Ytkfbfgjfdjhjdaa
