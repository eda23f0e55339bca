/-
  The plain law of encrypting and decrypting: each undoes the other. No program in sight but for the contracts' own words.
-/
import Derived.Test.YtkfbfgjfdjhjdaaDecrypt
import Derived.Test.YtkfbfgjfdjhjdaaMulP
namespace Go.Proofs.Ytkfbfgjfdjhjdaa
open Go.ChangeShapes Go.WideShapes Go.ChangeAt Go.RowKit
theorem xorL_twice {a k : List UInt8} (h : a.length = k.length) : xorL (xorL a k) k = a := by
  unfold xorL
  apply List.ext_getElem
  · simp [h]
  · intro i h1 h2
    simp [UInt8.xor_assoc]
theorem colsN_is {M : List UInt8 → List UInt8} (hM : ∀ l, (M l).length = 4) {a b c d : List UInt8} (ha : a.length = 4) (hb : b.length = 4) (hc : c.length = 4) (hd : d.length = 4) :
    colsN M (a ++ (b ++ (c ++ d))) 4 = M a ++ (M b ++ (M c ++ M d)) := by
  obtain ⟨a0, a1, a2, a3, rfl⟩ := len4 ha
  obtain ⟨b0, b1, b2, b3, rfl⟩ := len4 hb
  obtain ⟨c0, c1, c2, c3, rfl⟩ := len4 hc
  obtain ⟨d0, d1, d2, d3, rfl⟩ := len4 hd
  have k1 : colsN M ([a0, a1, a2, a3] ++ ([b0, b1, b2, b3] ++ ([c0, c1, c2, c3] ++ [d0, d1, d2, d3]))) 1 = M [a0, a1, a2, a3] ++ ([b0, b1, b2, b3] ++ ([c0, c1, c2, c3] ++ [d0, d1, d2, d3])) := by
    rw [colsN_succ, colsN_zero]; rfl
  have hma := hM [a0, a1, a2, a3]
  obtain ⟨m0, m1, m2, m3, hm⟩ := len4 hma
  have k2 : colsN M ([a0, a1, a2, a3] ++ ([b0, b1, b2, b3] ++ ([c0, c1, c2, c3] ++ [d0, d1, d2, d3]))) 2 = M [a0, a1, a2, a3] ++ (M [b0, b1, b2, b3] ++ ([c0, c1, c2, c3] ++ [d0, d1, d2, d3])) := by
    rw [colsN_succ, k1, hm]; rfl
  obtain ⟨n0, n1, n2, n3, hn⟩ := len4 (hM [b0, b1, b2, b3])
  have k3 : colsN M ([a0, a1, a2, a3] ++ ([b0, b1, b2, b3] ++ ([c0, c1, c2, c3] ++ [d0, d1, d2, d3]))) 3 = M [a0, a1, a2, a3] ++ (M [b0, b1, b2, b3] ++ (M [c0, c1, c2, c3] ++ [d0, d1, d2, d3])) := by
    rw [colsN_succ, k2, hm, hn]; rfl
  obtain ⟨o0, o1, o2, o3, ho⟩ := len4 (hM [c0, c1, c2, c3])
  rw [colsN_succ, k3, hm, hn, ho]
  show [m0, m1, m2, m3, n0, n1, n2, n3, o0, o1, o2, o3] ++ (M [d0, d1, d2, d3] ++ []) = _
  rw [List.append_nil]; rfl
theorem four {l : List UInt8} (h : l.length = 16) : ∃ a b c d : List UInt8, a.length = 4 ∧ b.length = 4 ∧ c.length = 4 ∧ d.length = 4 ∧ l = a ++ (b ++ (c ++ d)) := by
  obtain ⟨a0, a1, a2, a3, a4, a5, a6, a7, a8, a9, a10, a11, a12, a13, a14, a15, rfl⟩ := len16 h
  exact ⟨[a0, a1, a2, a3], [a4, a5, a6, a7], [a8, a9, a10, a11], [a12, a13, a14, a15], rfl, rfl, rfl, rfl, rfl⟩
theorem unmix_mixAll {l : List UInt8} (h : l.length = 16) : unmixAll (mixAll l) = l := by
  obtain ⟨a, b, c, d, ha, hb, hc, hd, rfl⟩ := four h
  unfold unmixAll mixAll
  rw [colsN_is (fun l => byPart_len _ _ _) ha hb hc hd, colsN_is (fun l => byPart_len _ _ _) (byPart_len _ _ _) (byPart_len _ _ _) (byPart_len _ _ _) (byPart_len _ _ _), unmix_mix ha, unmix_mix hb, unmix_mix hc, unmix_mix hd]
theorem mix_unmixAll {l : List UInt8} (h : l.length = 16) : mixAll (unmixAll l) = l := by
  obtain ⟨a, b, c, d, ha, hb, hc, hd, rfl⟩ := four h
  unfold unmixAll mixAll
  rw [colsN_is (fun l => byPart_len _ _ _) ha hb hc hd, colsN_is (fun l => byPart_len _ _ _) (byPart_len _ _ _) (byPart_len _ _ _) (byPart_len _ _ _) (byPart_len _ _ _), mix_unmix ha, mix_unmix hb, mix_unmix hc, mix_unmix hd]
theorem map_back (l : List UInt8) : (l.map subB).map backB = l := by
  rw [List.map_map]; conv => rhs; rw [← List.map_id l]
  exact List.map_congr_left fun x _ => (turns x).1
theorem map_sub (l : List UInt8) : (l.map backB).map subB = l := by
  rw [List.map_map]; conv => rhs; rw [← List.map_id l]
  exact List.map_congr_left fun x _ => (turns x).2.1
theorem un_sh {l : List UInt8} (h : l.length = 16) : unSub (shSub l) = l := by
  unfold unSub shSub
  rw [unshift_shift (by simpa using h), map_back]
theorem sh_un {l : List UInt8} (h : l.length = 16) : shSub (unSub l) = l := by
  unfold unSub shSub
  rw [map_sub, shift_unshift h]
theorem un_mid (n k : Nat) {x : List UInt8} (h : x.length = 16) : unMid n k (midN n k x) = x := by
  unfold unMid midN
  split
  · split
    · rw [unmix_mixAll (shSub_len _), un_sh h]
    · rw [un_sh h]
  · rfl
theorem mid_un (n k : Nat) {x : List UInt8} (h : x.length = 16) : midN n k (unMid n k x) = x := by
  unfold unMid midN
  split
  · split
    · rw [sh_un (unmixAll_len h), mix_unmixAll h]
    · rw [sh_un h]
  · rfl
theorem midN_len (n k : Nat) {x : List UInt8} (h : x.length = 16) : (midN n k x).length = 16 := by
  unfold midN
  split
  · split
    · exact mixAll_len (shSub_len _)
    · exact shSub_len _
  · exact h
theorem dec_enc {ks : List (List UInt8)} (hk : ∀ k ∈ ks, k.length = 16) {s : List UInt8} (hs : s.length = 16) : ∀ j, j ≤ ks.length → decN ks (encN ks s ks.length) j = encN ks s (ks.length - j)
  | 0, _ => by rw [decN_zero, Nat.sub_zero]
  | j + 1, h => by
    rw [decN_succ, dec_enc hk hs j (by omega), show ks.length - j = (ks.length - 1 - j) + 1 by omega, encN_succ, show ks.length - (j + 1) = ks.length - 1 - j by omega]
    have h1 := encN_len hk hs (ks.length - 1 - j) (by omega)
    rw [xorL_twice (by rw [midN_len _ _ h1, key_len hk (by omega)]), un_mid _ _ h1]
theorem enc_dec {ks : List (List UInt8)} (hk : ∀ k ∈ ks, k.length = 16) {s : List UInt8} (hs : s.length = 16) : ∀ k, k ≤ ks.length → encN ks (decN ks s ks.length) k = decN ks s (ks.length - k)
  | 0, _ => by rw [encN_zero, Nat.sub_zero]
  | k + 1, h => by
    rw [encN_succ, enc_dec hk hs k (by omega), show ks.length - k = (ks.length - (k + 1)) + 1 by omega, decN_succ, show ks.length - 1 - (ks.length - (k + 1)) = k by omega]
    have h1 := decN_len hk hs (ks.length - (k + 1)) (by omega)
    have hkk := key_len hk (i := k) (by omega)
    rw [mid_un _ _ (xorL_len _ _ 16 h1 hkk), xorL_twice (by rw [h1, hkk])]
theorem dec_enc_all {ks : List (List UInt8)} (hk : ∀ k ∈ ks, k.length = 16) {s : List UInt8} (hs : s.length = 16) : decN ks (encN ks s ks.length) ks.length = s := by
  rw [dec_enc hk hs _ (Nat.le_refl _), Nat.sub_self, encN_zero]
theorem enc_dec_all {ks : List (List UInt8)} (hk : ∀ k ∈ ks, k.length = 16) {s : List UInt8} (hs : s.length = 16) : encN ks (decN ks s ks.length) ks.length = s := by
  rw [enc_dec hk hs _ (Nat.le_refl _), Nat.sub_self, decN_zero]
/-- Round keys that came in are what they were while nothing below turns. -/
theorem KeysAt.below {w w' : World} {v : Value} {ks : List (List UInt8)} (h : KeysAt w v ks) (hb : Below w.heap.size w w') : KeysAt w' v ks := by
  obtain ⟨h1, p, c, h2, h3⟩ := h
  refine ⟨h1, p, c, h2, fun i k hi => ?_⟩
  obtain ⟨b, o, cs, t, e, h4, h5, h6⟩ := h3 i k hi
  exact ⟨b, o, cs, t, e, h4, (hb.block b (blk_lt h5)).trans h5, h6⟩
end Go.Proofs.Ytkfbfgjfdjhjdaa
