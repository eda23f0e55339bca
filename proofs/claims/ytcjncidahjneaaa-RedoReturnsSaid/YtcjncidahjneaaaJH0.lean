/-
  Laws that the claims of this seat use, of several texts in one: Field, Mix, RefMulP, RefMul, RefMix, MulP, Xor7, Sh14, Sh15, Sh16, Sh17. No condition of their own.
-/
import Derived.Test.YtcjncidahjneaaaJG0

namespace Go.Proofs.Ytcjncidahjneaaa
open Go.ChangeShapes Go.WideShapes Go.ChangeAt Go.RowKit

def twiceB (b : UInt8) : UInt8 := (b <<< 1) ^^^ ((27 : UInt8) * (b >>> 7))
def mulGo : Nat → UInt8 → UInt8 → UInt8 → UInt8
  | 0, _, _, out => out
  | n + 1, a, b, out => if b = 0 then out else mulGo n (twiceB a) (b >>> 1) (out ^^^ a * (b &&& 1))
def mulB (a b : UInt8) : UInt8 := mulGo 8 a b 0

end Go.Proofs.Ytcjncidahjneaaa

namespace Go.Proofs.Ytcjncidahjneaaa
open Go.ChangeShapes Go.WideShapes Go.ChangeAt Go.RowKit

end Go.Proofs.Ytcjncidahjneaaa

namespace Go.Proofs.Ytcjncidahjneaaa
open Go.ChangeShapes Go.WideShapes Go.ChangeAt Go.RowKit

/-- A bit of a number. -/
def tb (x i : Nat) : Nat := x / 2 ^ i % 2
/-- Fifteen bits as cells. -/
def pl (P : Nat) : List Value := (List.range 15).map fun j => .int .i64 (tb P j)
/-! ### It is the field's own product: by lines of the second number's bits -/
end Go.Proofs.Ytcjncidahjneaaa

namespace Go.Proofs.Ytcjncidahjneaaa
open Go.ChangeShapes Go.WideShapes Go.ChangeAt Go.RowKit

attribute [local irreducible] tb
end Go.Proofs.Ytcjncidahjneaaa

namespace Go.Proofs.Ytcjncidahjneaaa
open Go.ChangeShapes Go.WideShapes Go.ChangeAt Go.RowKit

end Go.Proofs.Ytcjncidahjneaaa

namespace Go.Proofs.Ytcjncidahjneaaa
open Go.ChangeShapes Go.WideShapes Go.ChangeAt Go.RowKit

theorem x4 (a b c d : UInt8) : (a ^^^ b) ^^^ (c ^^^ d) = (a ^^^ c) ^^^ (b ^^^ d) := by
  rw [UInt8.xor_assoc, UInt8.xor_assoc, ← UInt8.xor_assoc b c d, UInt8.xor_comm b c, UInt8.xor_assoc c b d]
theorem mul1' : ∀ n : Fin 256, mulB (UInt8.ofNat n) 1 = UInt8.ofNat n := by decide +kernel
theorem mul_one (x : UInt8) : mulB x 1 = x := by simpa using mul1' ⟨x.toNat, x.toNat_lt⟩
end Go.Proofs.Ytcjncidahjneaaa

namespace Go.Proofs.Ytcjncidahjneaaa
open Go.RowKit
theorem bv8 (x : UInt8) : (BitVec.ofInt 8 (x.toNat : Int)) = x.toBitVec := by
  rw [BitVec.ofInt_natCast]
  apply BitVec.eq_of_toNat_eq
  rw [BitVec.toNat_ofNat, Nat.mod_eq_of_lt (UInt8.toNat_lt x)]
  rfl
theorem r_xor8 {P : Program} {o : Oper} {a : Act} {w : World} {t t' : TypeId} {x y : Operand} {m n q : UInt8} (hop : o.op = .binOp .xor t x y t') (hx : evO a x = some (.int .u8 (m.toNat : Int))) (hy : evO a y = some (.int .u8 (n.toNat : Int))) (hq : m ^^^ n = q) : (execOp a.eval o).run P w = .ok (.value (.int .u8 (q.toNat : Int))) w := by
  unfold execOp; rw [hop]; subst hq
  have hb : (BitVec.ofInt IntKind.u8.bits (m.toNat : Int) ^^^ BitVec.ofInt IntKind.u8.bits (n.toNat : Int)).toNat = (m ^^^ n).toNat := by
    show (BitVec.ofInt 8 (m.toNat : Int) ^^^ BitVec.ofInt 8 (n.toNat : Int)).toNat = _
    rw [bv8, bv8]; rfl
  have hw : IntKind.u8.wrap (((m ^^^ n).toNat : Nat) : Int) = (((m ^^^ n).toNat : Nat) : Int) := IntWalk.u8_in _ (by have := UInt8.toNat_lt (m ^^^ n); omega)
  simp only [Bb hx, Bb hy, Sem.run_bind, eqGuard, binOp]
  simp only [Op.intBits, hb, hw]
  rfl
theorem r_or8 {P : Program} {o : Oper} {a : Act} {w : World} {t t' : TypeId} {x y : Operand} (m : UInt8) {n q : UInt8} (hop : o.op = .binOp .or t x y t') (hx : evO a x = some (.int .u8 (m.toNat : Int))) (hy : evO a y = some (.int .u8 (n.toNat : Int))) (hq : m ||| n = q) : (execOp a.eval o).run P w = .ok (.value (.int .u8 (q.toNat : Int))) w := by
  unfold execOp; rw [hop]; subst hq
  have hb : (BitVec.ofInt IntKind.u8.bits (m.toNat : Int) ||| BitVec.ofInt IntKind.u8.bits (n.toNat : Int)).toNat = (m ||| n).toNat := by
    show (BitVec.ofInt 8 (m.toNat : Int) ||| BitVec.ofInt 8 (n.toNat : Int)).toNat = _
    rw [bv8, bv8]; rfl
  have hw : IntKind.u8.wrap (((m ||| n).toNat : Nat) : Int) = (((m ||| n).toNat : Nat) : Int) := IntWalk.u8_in _ (by have := UInt8.toNat_lt (m ||| n); omega)
  simp only [Bb hx, Bb hy, Sem.run_bind, eqGuard, binOp]
  simp only [Op.intBits, hb, hw]
  rfl
end Go.Proofs.Ytcjncidahjneaaa

namespace Go.Proofs.Ytcjncidahjneaaa
open Go.ChangeShapes Go.WideShapes Go.ChangeAt Go.RowKit
attribute [local irreducible] wpList wpListIn Oper.quietAt wpM
/-- append of bytes, whatever slice they lie in, to an own slice. -/
theorem s_appX {P : Program} {ops : Array Oper} {W : List Oper → Act → World → Prop} {o : Oper} {rest : List Oper} {a : Act} {w : World} {B : Nat} {H : World → List Blk → Prop} {L : List Blk} {x y : Operand} {t e bytes b n c i nm : Nat} {cs : Array Value} {l m : List UInt8} {spare : List Value} {sv : Value} (hs : Stp P ops W) (hH : Own B H) (hS : H w L) (hw : Region.wanted o (yielded ops a.tmps) = true)
    (hop : o.op = .call { callee := .builtin .append, args := #[x, y], argTypes := #[t, t] }) (hx : evO a x = some (.slice (some ⟨b, 0, none⟩) n c)) (hy : evO a y = some sv) (hT : SlT P t e 1 bytes)
    (hi : L[i]? = some (b, cs, e)) (hcs : cs.toList = l.map bv ++ spare) (hl : l.length = n) (hnc : n ≤ c) (hsp : spare.length = c - n) (hv : BytesAt w sv m)
    (hmax : n + m.length ≤ maxLen ∧ (n + m.length) * bytes ≤ 140737488355328 ∧ c ≤ maxLen) (hnm : n + m.length = nm)
    (hk : ∀ (b' c' : Nat) (sp' : List Value) (w' : World), nm ≤ c' → c' ≤ maxLen → sp'.length = c' - nm → H w' ((b', ((l ++ m).map bv ++ sp').toArray, e) :: L.eraseIdx i) → W rest (a.put o.dst (.slice (some ⟨b', 0, none⟩) nm c')) w') : W (o :: rest) a w := by
  obtain ⟨p, c2, rfl, hc, hp0, hcell⟩ := id hv
  rcases p with _ | q
  · have hc0 := hp0 rfl
    have hm : m = [] := List.eq_nil_of_length_eq_zero (by omega)
    subst hm hc0
    have hil : i < L.length := (List.getElem?_eq_some_iff.1 hi).1
    refine hs.go hw (by unfold Bp; rw [hop]) (r_appendN hop hx hy hT hnc) ?_
    have h2 := hH.front hS hi
    have e1 : cs = ((l ++ []).map bv ++ spare).toArray := by rw [List.append_nil, ← hcs]
    rw [e1] at h2
    have e2 : nm = n := by rw [← hnm]; rfl
    subst e2
    exact hk b c spare w hnc hmax.2.2 hsp h2
  · refine s_append hs hH hS hw hop hx hy hT hi (olds := l.map bv) (spare := spare) hcs (by rw [List.length_map, hl, Nat.mul_one]) hnc (by rw [hsp, Nat.mul_one]) hv.srcs (by rw [List.length_map, Nat.mul_one]) (bv_one m) hmax hnm ?_
    intro b' c' sp' w' h1 h2 h3 h4
    rw [← List.map_append] at h4
    exact hk b' c' sp' w' h1 h2 (by rw [h3, Nat.mul_one]) h4
theorem map_at (p : List UInt8) (f : UInt8 → UInt8) {i : Nat} (h : i < p.length) : (bvs ((p.take i).map f ++ p.drop i)).setIfInBounds i (.int .u8 ((f (p.getD i 0)).toNat : Int)) = bvs ((p.take (i + 1)).map f ++ p.drop (i + 1)) ∧ (bvs ((p.take i).map f ++ p.drop i))[i]? = some (.int .u8 ((p.getD i 0).toNat : Int)) := by
  have e1 : p.drop i = p.getD i 0 :: p.drop (i + 1) := by rw [List.drop_eq_getElem_cons h, List.getD_eq_getElem?_getD, List.getElem?_eq_getElem h]; rfl
  have e2 : p.take (i + 1) = p.take i ++ [p.getD i 0] := by rw [List.take_add_one, List.getD_eq_getElem?_getD, List.getElem?_eq_getElem h]; rfl
  have e3 : (((p.take i).map f).map bv).length = i := by rw [List.length_map, List.length_map, List.length_take]; omega
  rw [e1, e2]
  unfold bvs
  refine ⟨?_, ?_⟩
  · rw [List.setIfInBounds_toArray, List.map_append, List.set_append_right _ _ (by omega), e3, Nat.sub_self]
    simp [bv]
  · rw [List.getElem?_toArray, List.map_append, List.getElem?_append_right (by omega), e3, Nat.sub_self]
    rfl
set_option maxRecDepth 100000 in
set_option maxHeartbeats 1000000 in
theorem masked_any (p : List UInt8) (hp : p.length = 64) (x : UInt8) (w0 : World) :
    Calls Try.prog 57 #[.agg (bvs p), .int .u8 (x.toNat : Int)] w0 fun e w' => ∃ g, e = .returned (.slice (some ⟨g, 0, none⟩) 64 64) ∧ w0.heap.size ≤ g ∧ blk w' g = some (.cells (bvs (p.map (· ^^^ x))) 108 (0, 0)) ∧ Below w0.heap.size w0 w' := by
  have hS := St.start w0
  have s1 : csz (bvs p) = 64 := by rw [Bg, hp]
  go_enter Try.func57, Try.ntmps57
  repeat' (first | ((with_reducible refine Ac ?_); first | ((first | refine Ai Aa ?_ | refine Al Aa ?_ | refine Af Aa ?_ | refine Av Aa Ab hS ?_ | refine Ag Aa ?_ | refine Ae Aa ?_ | refine Bd Aa ?_ | refine Ak Aa ?_ | refine Aj Aa ?_ | refine Aw Aa (fun hc => ?_) (fun hc => ?_) | refine Bh Aa ?_ | refine Bc Aa ?_ | refine Au Aa ?_) <;> refine Ad ?_) | ((first | refine Cu Aa Ab hS ?_); clear hS; intro b w hS; refine Ad ?_) | ((first | refine Br Aa Ab hS ?_); clear hS; intro w hS; refine Ad ?_)) | ((fail_if_success (with_reducible refine Ac ?_)); first | go_step | go_step3 | rw [Exit.noGoto_normal] | rw [Exit.noGoto_ret] | rw [Exit.noGoto_exit]))
  go_loopw [5, 6] (fun u5 u6 wr => ∃ i : Nat, i ≤ 64 ∧ u6 = .int .i64 (i : Int) ∧ St w0 wr [(b, bvs ((p.take i).map (· ^^^ x) ++ p.drop i), 108)]) (fun _ u6 _ => 64 - (intOf u6).toNat)
  case atStart => exact ⟨0, by omega, rfl, hS⟩
  case round =>
    clear hS
    obtain ⟨i, hi, rfl, hS⟩ := hrel
    have s2 : csz (bvs ((p.take i).map (· ^^^ x) ++ p.drop i)) = 64 := by rw [Bg, List.length_append, List.length_map, List.length_take, List.length_drop]; omega
    by_cases hlt : i < 64
    · obtain ⟨hset, hget⟩ := map_at p (· ^^^ x) (i := i) (by omega)
      obtain ⟨y, hy⟩ : ∃ y, p.getD i 0 = y := ⟨_, rfl⟩
      rw [hy] at hset hget
      obtain ⟨X, hX⟩ : ∃ X, bvs ((p.take i).map (· ^^^ x) ++ p.drop i) = X := ⟨_, rfl⟩
      rw [hX] at hS s2 hset hget
      repeat' (first | ((with_reducible refine Ac ?_); first | ((first | refine Ai Aa ?_ | refine Al Aa ?_ | refine Af Aa ?_ | refine Av Aa Ab hS ?_ (hv := by first | rfl | exact Bi | (rw [Array.getElem?_toList]; exact hget)) | refine Ag Aa ?_ | refine Ae Aa ?_ | refine Bd Aa ?_ | refine Ak Aa ?_ | refine Aj Aa ?_ | refine Aw Aa (fun hc => ?_) (fun hc => ?_) | refine Bh Aa ?_ | refine Bc Aa ?_ | refine Au Aa ?_) <;> refine Ad ?_) | ((first | refine Cu Aa Ab hS ?_); clear hS; intro b w hS; refine Ad ?_) | ((first | refine Br Aa Ab hS ?_); clear hS; intro w hS; refine Ad ?_) | (refine Stp.go Aa (by rfl) (by rfl) (r_xor8 (by rfl) (by rfl) (by rfl) rfl) ?_; refine Ad ?_)) | ((fail_if_success (with_reducible refine Ac ?_)); first | go_step | go_step3 | rw [Exit.noGoto_normal] | rw [Exit.noGoto_ret] | rw [Exit.noGoto_exit]))
      rw [hset] at hS
      go_roundw
      case rel => exact ⟨i + 1, by omega, by push_cast; rfl, hS⟩
      case measure => first | (simp [intOf]; done) | (simp [intOf]; omega)
    · obtain rfl : i = 64 := by omega
      replace hS : St w0 wr [(b, bvs (p.map (· ^^^ x)), 108)] := by
        have e : (p.take 64).map (· ^^^ x) ++ p.drop 64 = p.map (· ^^^ x) := by rw [List.take_of_length_le (by omega), List.drop_of_length_le (by omega), List.append_nil]
        rw [e] at hS; exact hS
      repeat' (first | ((with_reducible refine Ac ?_); first | ((first | refine Ai Aa ?_ | refine Al Aa ?_ | refine Af Aa ?_ | refine Av Aa Ab hS ?_ | refine Ag Aa ?_ | refine Ae Aa ?_ | refine Bd Aa ?_ | refine Ak Aa ?_ | refine Aj Aa ?_ | refine Aw Aa (fun hc => ?_) (fun hc => ?_) | refine Bh Aa ?_ | refine Bc Aa ?_ | refine Au Aa ?_) <;> refine Ad ?_) | ((first | refine Cu Aa Ab hS ?_); clear hS; intro b w hS; refine Ad ?_) | ((first | refine Br Aa Ab hS ?_); clear hS; intro w hS; refine Ad ?_)) | ((fail_if_success (with_reducible refine Ac ?_)); first | go_step | go_step3 | rw [Exit.noGoto_normal] | rw [Exit.noGoto_ret] | rw [Exit.noGoto_exit]))
      go_ret
      exact ⟨_, rfl, hS.low 0 rfl, hS.blk 0 rfl, hS.below⟩
/-- How unlike two texts of one length are, in their first bytes. -/
def difL (a b : List UInt8) : Nat → UInt8
  | 0 => 0
  | k + 1 => difL a b k ||| (a.getD k 0 ^^^ b.getD k 0)
theorem or_zero {x y : UInt8} : x ||| y = 0 ↔ x = 0 ∧ y = 0 := by
  constructor
  · intro h
    have h1 : x.toBitVec ||| y.toBitVec = 0#8 := by
      have := congrArg UInt8.toBitVec h
      simpa using this
    refine ⟨?_, ?_⟩
    · apply UInt8.eq_of_toBitVec_eq
      apply BitVec.eq_of_getLsbD_eq
      intro i hi
      have := congrArg (fun z => z.getLsbD i) h1
      simp at this
      simp [this.1]
    · apply UInt8.eq_of_toBitVec_eq
      apply BitVec.eq_of_getLsbD_eq
      intro i hi
      have := congrArg (fun z => z.getLsbD i) h1
      simp at this
      simp [this.2]
  · rintro ⟨rfl, rfl⟩; rfl
theorem xor_zero {x y : UInt8} : x ^^^ y = 0 ↔ x = y := by
  constructor
  · intro h
    have : x ^^^ y ^^^ y = 0 ^^^ y := by rw [h]
    simpa [UInt8.xor_assoc] using this
  · rintro rfl; simp
theorem dif_zero (a b : List UInt8) (h : a.length = b.length) : ∀ k, k ≤ a.length → (difL a b k = 0 ↔ a.take k = b.take k)
  | 0, _ => by simp [difL]
  | k + 1, hk => by
    have ih := dif_zero a b h k (by omega)
    have ea : a.take (k + 1) = a.take k ++ [a.getD k 0] := by rw [List.take_add_one, List.getD_eq_getElem?_getD, List.getElem?_eq_getElem (by omega)]; rfl
    have eb : b.take (k + 1) = b.take k ++ [b.getD k 0] := by rw [List.take_add_one, List.getD_eq_getElem?_getD, List.getElem?_eq_getElem (by omega)]; rfl
    rw [difL, or_zero, xor_zero, ih, ea, eb]
    constructor
    · rintro ⟨h1, h2⟩; rw [h1, h2]
    · intro h1
      have := List.append_inj h1 (by rw [List.length_take, List.length_take]; omega)
      exact ⟨this.1, by simpa using this.2⟩
set_option maxRecDepth 100000 in
set_option maxHeartbeats 2000000 in
theorem equal_any (l1 l2 : List UInt8) (hl : l1.length = l2.length) (hne : l1 ≠ []) (hm : l1.length ≤ 1000000) (v1 v2 : Value) (w0 : World) (h1 : BytesAt w0 v1 l1) (h2 : BytesAt w0 v2 l2) :
    Calls Try.prog 36 #[v1, v2] w0 fun e w' => e = .returned (.bool (decide (l1 = l2))) ∧ Below w0.heap.size w0 w' := by
  obtain ⟨p, c, rfl, hc, _, hcell⟩ := id h1
  obtain ⟨tb, ti, cs, ty, fr, rfl, htb, hx⟩ := hcell hne
  obtain ⟨p2, c2, rfl, hc2, _, hcell2⟩ := id h2
  obtain ⟨ub, ui, cs2, ty2, fr2, rfl, hub, hx2⟩ := hcell2 (by rintro rfl; exact hne (List.eq_nil_of_length_eq_zero hl))
  have hS := St.start w0
  obtain ⟨n, hn⟩ : ∃ n, l1.length = n := ⟨_, rfl⟩
  have hn2 : l2.length = n := by omega
  rw [hn] at hm
  have g1 : ∀ j, j < n → cs[ti + j]? = some (.int .u8 ((l1.getD j 0).toNat : Int)) := fun j hj => by
    refine hx j _ ?_
    rw [List.getD_eq_getElem?_getD, List.getElem?_eq_getElem (by omega)]; rfl
  have g2 : ∀ j, j < n → cs2[ui + j]? = some (.int .u8 ((l2.getD j 0).toNat : Int)) := fun j hj => by
    refine hx2 j _ ?_
    rw [List.getD_eq_getElem?_getD, List.getElem?_eq_getElem (by omega)]; rfl
  have hz := dif_zero l1 l2 hl n (by omega)
  rw [List.take_of_length_le (by omega), List.take_of_length_le (by omega)] at hz
  rw [hn] at hc ⊢
  rw [hn2] at hc2 ⊢
  clear hx hx2 hcell hcell2 h1 h2
  go_enter Try.func36, Try.ntmps36
  repeat' (first | ((with_reducible refine Ac ?_); first | ((first | refine Ai Aa ?_ | refine Al Aa ?_ | refine Af Aa ?_ | refine Av Aa Ab hS ?_ | refine Ag Aa ?_ | refine Ae Aa ?_ | refine Be Aa ?_ | refine Bd Aa ?_ | refine Ak Aa ?_ | refine Aj Aa ?_ | refine Aw Aa (fun hc => ?_) (fun hc => ?_)) <;> refine Ad ?_)) | ((fail_if_success (with_reducible refine Ac ?_)); first | go_step | go_step3 | rw [Exit.noGoto_normal] | rw [Exit.noGoto_ret] | rw [Exit.noGoto_exit]))
  go_loopw [5, 6, 7, 15] (fun u5 u6 u7 u15 wr => ∃ k : Nat, k ≤ n ∧ u15 = .int .i64 (k : Int) ∧ u5 = .int .u8 ((difL l1 l2 k).toNat : Int) ∧ St w0 wr []) (fun _ _ _ u15 _ => n - (intOf u15).toNat)
  case atStart => exact ⟨0, by omega, rfl, rfl, hS⟩
  case round =>
    obtain ⟨k, hk, rfl, rfl, hS⟩ := hrel
    by_cases hlt : k < n
    · have c1 := g1 k hlt
      have c2' := g2 k hlt
      have hd : difL l1 l2 (k + 1) = difL l1 l2 k ||| (l1.getD k 0 ^^^ l2.getD k 0) := rfl
      obtain ⟨x, hxx⟩ : ∃ x, l1.getD k 0 = x := ⟨_, rfl⟩
      obtain ⟨y, hyy⟩ : ∃ y, l2.getD k 0 = y := ⟨_, rfl⟩
      obtain ⟨d, hdd⟩ : ∃ d, difL l1 l2 k = d := ⟨_, rfl⟩
      rw [hxx] at c1 hd
      rw [hyy] at c2' hd
      rw [hdd] at hd ⊢
      repeat' (first | ((with_reducible refine Ac ?_); first | ((first | refine Ai Aa ?_ | refine Al Aa ?_ | refine Af Aa ?_ | refine Av Aa Ab hS ?_ (hv := by first | rfl | exact Bi | (rw [Array.getElem?_toList]; first | exact c1 | exact c2')) | refine Bs Aa (by first | exact ((hS).far htb).1) ?_ (hv := by first | rfl | exact Bi | (rw [Array.getElem?_toList]; first | exact c1 | exact c2')) | refine Bs Aa (by first | exact ((hS).far hub).1) ?_ (hv := by first | rfl | exact Bi | (rw [Array.getElem?_toList]; first | exact c1 | exact c2')) | refine Ag Aa ?_ | refine Ae Aa ?_ | refine Be Aa ?_ | refine Bd Aa ?_ | refine Ak Aa ?_ | refine Aj Aa ?_ | refine Aw Aa (fun hc => ?_) (fun hc => ?_)) <;> refine Ad ?_) | (refine Stp.go Aa (by rfl) (by rfl) (r_xor8 (by rfl) (by rfl) (by rfl) rfl) ?_; refine Ad ?_) | (refine Stp.go Aa (by rfl) (by rfl) (r_or8 d (by rfl) (by rfl) (by rfl) rfl) ?_; refine Ad ?_)) | ((fail_if_success (with_reducible refine Ac ?_)); first | go_step | go_step3 | rw [Exit.noGoto_normal] | rw [Exit.noGoto_ret] | rw [Exit.noGoto_exit]))
      go_roundw
      case rel => exact ⟨k + 1, by omega, by push_cast; rfl, by rw [hd], hS⟩
      case measure => first | (simp [intOf]; done) | (simp [intOf]; omega)
    · obtain rfl : k = n := by omega
      obtain ⟨d, hdd⟩ : ∃ d, difL l1 l2 k = d := ⟨_, rfl⟩
      rw [hdd] at hz ⊢
      by_cases h0 : d = 0
      · have h0' : (d.toNat : Int) = 0 := by rw [h0]; rfl
        have hdec := decide_eq_true (hz.1 h0)
        repeat' (first | ((with_reducible refine Ac ?_); first | ((first | refine Ai Aa ?_ | refine Al Aa ?_ | refine Af Aa ?_ | refine Av Aa Ab hS ?_ | refine Ag Aa ?_ | refine Ae Aa ?_ | refine Be Aa ?_ | refine Bd Aa ?_ | refine Ak Aa ?_ | refine Aj Aa ?_ | refine Aw Aa (fun hc => ?_) (fun hc => ?_)) <;> refine Ad ?_)) | ((fail_if_success (with_reducible refine Ac ?_)); first | go_step | go_step3 | rw [Exit.noGoto_normal] | rw [Exit.noGoto_ret] | rw [Exit.noGoto_exit]))
        go_ret
        refine ⟨?_, hS.below⟩
        rw [hdec]
        rfl
      · have h0' : ¬ (d.toNat : Int) = 0 := by
          intro e
          exact h0 (UInt8.toNat_inj.1 (by simpa using e))
        have hdec := decide_eq_false (fun e => h0 (hz.2 e))
        repeat' (first | ((with_reducible refine Ac ?_); first | ((first | refine Ai Aa ?_ | refine Al Aa ?_ | refine Af Aa ?_ | refine Av Aa Ab hS ?_ | refine Ag Aa ?_ | refine Ae Aa ?_ | refine Be Aa ?_ | refine Bd Aa ?_ | refine Ak Aa ?_ | refine Aj Aa ?_ | refine Aw Aa (fun hc => ?_) (fun hc => ?_)) <;> refine Ad ?_)) | ((fail_if_success (with_reducible refine Ac ?_)); first | go_step | go_step3 | rw [Exit.noGoto_normal] | rw [Exit.noGoto_ret] | rw [Exit.noGoto_exit]))
        go_ret
        refine ⟨?_, hS.below⟩
        rw [hdec]
        rfl
set_option maxRecDepth 100000 in
set_option maxHeartbeats 2000000 in
theorem piece_any (key : List UInt8) (hk : key.length ≤ 1000000) (v : Value) (w0 : World) (hv : BytesAt w0 v key) :
    Calls Try.prog 55 #[v] w0 fun e w' => e = .returned (.agg (bvs (pieceL key))) ∧ Below w0.heap.size w0 w' := by
  have sP : csz (bvs (pieceL key)) = 64 := by rw [Bg, pieceL_len]
  have sZ : csz (bvs (zs 64)) = 64 := by rw [Bg, zs_len]
  have hKl := pieceL_len key
  have fin : ∀ m : List UInt8, m.length ≤ 64 → pieceL key = m ++ zs (64 - m.length) → ovw (bvs (zs 64)) 0 (m.take 64) = bvs (pieceL key) := by
    intro m hm he
    rw [he, List.take_of_length_le hm, ovw_bvs, List.take_zero, List.nil_append]
    congr 2
    unfold zs
    rw [List.drop_replicate]
    congr 1
    omega
  by_cases hlong : 64 < key.length
  · have hpl : pieceL key = shaL key ++ zs (64 - (shaL key).length) := by unfold pieceL; simp only [if_pos (show key.length > 64 from hlong)]
    have hsl := shaL_len key
    have hov := fin (shaL key) (by omega) hpl
    obtain ⟨S, hS'⟩ : ∃ S, shaL key = S := ⟨_, rfl⟩
    obtain ⟨p, c, rfl, hc⟩ := hv.slice
    have hof := fun w bb cs ty fr hv hbb hcs => of_any [.slice p key.length c] [key] (by simp) (by simpa using hk) bb 0 1 cs ty fr w hv hbb hcs (by simp)
    have hfl : [key].flatten = key := by simp
    rw [hfl, hS'] at hof
    rw [hS'] at hsl hov
    obtain ⟨K, hK⟩ : ∃ K, pieceL key = K := ⟨_, rfl⟩
    rw [hK] at hov sP hKl ⊢
    clear hpl fin
    have sS : csz (bvs S) = 32 := by rw [Bg, hsl]
    have sZ2 : csz (bvs (zs 32)) = 32 := by rw [Bg, zs_len]
    have hS := St.start w0
    have hne : key ≠ [] := by rintro rfl; simp at hlong
    go_enter Try.func55, Try.ntmps55
    repeat' (first | ((with_reducible refine Ac ?_); first | ((first | refine Ai Aa ?_ | refine Al Aa ?_ | refine Af Aa ?_ | refine Ba Aa Ab hS ?_ | refine Be Aa ?_ | refine Ak Aa ?_ | refine Aj Aa ?_ | refine Aw Aa (fun hc => ?_) (fun hc => ?_) | refine Bh Aa ?_ | refine Bc Aa ?_ | refine Au Aa ?_ | refine Ar Aa ?_) <;> refine Ad ?_) | ((first | refine Ay Aa Ab hS ?_ | refine Ao Aa Ab hS ?_ | refine As Aa Ab hS ?_); clear hS; intro b w hS; refine Ad ?_) | ((first | refine Ap Aa Ab hS ?_ | refine Aq Aa Ab hS ?_); clear hS; intro w hS; refine Ad ?_)) | ((fail_if_success (with_reducible refine Ac ?_)); first | go_step | go_step3 | rw [Exit.noGoto_normal] | rw [Exit.noGoto_ret] | rw [Exit.noGoto_exit]))
    refine s_call Aa (by rfl) (by rfl) (by rfl) (by rfl) (by rfl) (by infer_instance) (hof _ _ _ _ _ (PartsAt.cons (hv.below hS.below) hne (PartsAt.nil _)) (hS.blk 0 rfl) (fun i v h => by rw [Nat.zero_add, List.getElem?_toArray]; exact h)) ?_
    rintro e w' ⟨rfl, hB⟩
    refine ⟨_, rfl, ?_⟩
    refine Ad ?_
    replace hS := hS.call hB
    repeat' (first | ((with_reducible refine Ac ?_); first | ((first | refine Ai Aa ?_ | refine Al Aa ?_ | refine Af Aa ?_ | refine Ba Aa Ab hS ?_ | refine Be Aa ?_ | refine Ak Aa ?_ | refine Aj Aa ?_ | refine Aw Aa (fun hc => ?_) (fun hc => ?_) | refine Bh Aa ?_ | refine Bc Aa ?_ | refine Au Aa ?_ | refine Ar Aa ?_) <;> refine Ad ?_) | ((first | refine Ay Aa Ab hS ?_ | refine Ao Aa Ab hS ?_ | refine As Aa Ab hS ?_); clear hS; intro b w hS; refine Ad ?_) | ((first | refine Ap Aa Ab hS ?_ | refine Aq Aa Ab hS ?_); clear hS; intro w hS; refine Ad ?_)) | ((fail_if_success (with_reducible refine Ac ?_)); first | go_step | go_step3 | rw [Exit.noGoto_normal] | rw [Exit.noGoto_ret] | rw [Exit.noGoto_exit]))
    refine s_copy (i := 2) Aa Ab hS (by rfl) (by rfl) (by rfl) (by rfl) (by infer_instance) (by rfl) (bytesAt_whole (hS.blk 0 rfl) hsl) (by rw [List.length_take, Bg, zs_len]; omega) (cs2 := bvs K) hov (by (try conv => lhs; simp only [List.set_cons_zero, List.set_cons_succ, List.eraseIdx_cons_zero, List.eraseIdx_cons_succ]); first | done | rfl) rfl ?_
    clear hS
    intro w hS
    refine Ad ?_
    repeat' (first | ((with_reducible refine Ac ?_); first | ((first | refine Ai Aa ?_ | refine Al Aa ?_ | refine Af Aa ?_ | refine Ba Aa Ab hS ?_ | refine Be Aa ?_ | refine Ak Aa ?_ | refine Aj Aa ?_ | refine Aw Aa (fun hc => ?_) (fun hc => ?_) | refine Bh Aa ?_ | refine Bc Aa ?_ | refine Au Aa ?_ | refine Ar Aa ?_) <;> refine Ad ?_) | ((first | refine Ay Aa Ab hS ?_ | refine Ao Aa Ab hS ?_ | refine As Aa Ab hS ?_); clear hS; intro b w hS; refine Ad ?_) | ((first | refine Ap Aa Ab hS ?_ | refine Aq Aa Ab hS ?_); clear hS; intro w hS; refine Ad ?_)) | ((fail_if_success (with_reducible refine Ac ?_)); first | go_step | go_step3 | rw [Exit.noGoto_normal] | rw [Exit.noGoto_ret] | rw [Exit.noGoto_exit]))
    exact post_cell (n := 64) Try.results55 (by kernel_rfl) (.inl rfl) _ _ _ _ rfl rfl (hS.blk 3 rfl) (by rw [← csz_is]; exact sP) ⟨rfl, hS.below⟩
  · have hpl : pieceL key = key ++ zs (64 - key.length) := by unfold pieceL; simp only [if_neg (show ¬ key.length > 64 from hlong)]
    have hov := fin key (by omega) hpl
    obtain ⟨p, c, rfl, hc⟩ := hv.slice
    obtain ⟨K, hK⟩ : ∃ K, pieceL key = K := ⟨_, rfl⟩
    rw [hK] at hov sP hKl ⊢
    clear hpl fin
    have hS := St.start w0
    go_enter Try.func55, Try.ntmps55
    repeat' (first | ((with_reducible refine Ac ?_); first | ((first | refine Ai Aa ?_ | refine Al Aa ?_ | refine Af Aa ?_ | refine Ba Aa Ab hS ?_ | refine Be Aa ?_ | refine Ak Aa ?_ | refine Aj Aa ?_ | refine Aw Aa (fun hc => ?_) (fun hc => ?_) | refine Bh Aa ?_ | refine Bc Aa ?_ | refine Au Aa ?_ | refine Ar Aa ?_) <;> refine Ad ?_) | ((first | refine Ay Aa Ab hS ?_ | refine Ao Aa Ab hS ?_ | refine As Aa Ab hS ?_); clear hS; intro b w hS; refine Ad ?_) | ((first | refine Ap Aa Ab hS ?_ | refine Aq Aa Ab hS ?_); clear hS; intro w hS; refine Ad ?_)) | ((fail_if_success (with_reducible refine Ac ?_)); first | go_step | go_step3 | rw [Exit.noGoto_normal] | rw [Exit.noGoto_ret] | rw [Exit.noGoto_exit]))
    refine s_copy (i := 0) Aa Ab hS (by rfl) (by rfl) (by rfl) (by rfl) (by infer_instance) (by rfl) (hv.below hS.below) (by rw [List.length_take, Bg, zs_len]; omega) (cs2 := bvs K) hov (by (try conv => lhs; simp only [List.set_cons_zero, List.set_cons_succ, List.eraseIdx_cons_zero, List.eraseIdx_cons_succ]); first | done | rfl) rfl ?_
    clear hS
    intro w hS
    refine Ad ?_
    repeat' (first | ((with_reducible refine Ac ?_); first | ((first | refine Ai Aa ?_ | refine Al Aa ?_ | refine Af Aa ?_ | refine Ba Aa Ab hS ?_ | refine Be Aa ?_ | refine Ak Aa ?_ | refine Aj Aa ?_ | refine Aw Aa (fun hc => ?_) (fun hc => ?_) | refine Bh Aa ?_ | refine Bc Aa ?_ | refine Au Aa ?_ | refine Ar Aa ?_) <;> refine Ad ?_) | ((first | refine Ay Aa Ab hS ?_ | refine Ao Aa Ab hS ?_ | refine As Aa Ab hS ?_); clear hS; intro b w hS; refine Ad ?_) | ((first | refine Ap Aa Ab hS ?_ | refine Aq Aa Ab hS ?_); clear hS; intro w hS; refine Ad ?_)) | ((fail_if_success (with_reducible refine Ac ?_)); first | go_step | go_step3 | rw [Exit.noGoto_normal] | rw [Exit.noGoto_ret] | rw [Exit.noGoto_exit]))
    exact post_cell (n := 64) Try.results55 (by kernel_rfl) (.inl rfl) _ _ _ _ rfl rfl (hS.blk 1 rfl) (by rw [← csz_is]; exact sP) ⟨rfl, hS.below⟩
end Go.Proofs.Ytcjncidahjneaaa

namespace Go.Proofs.Ytcjncidahjneaaa
open Go.ChangeShapes Go.WideShapes Go.ChangeAt Go.RowKit
attribute [local irreducible] wpList wpListIn Oper.quietAt wpM
theorem PartsAt.one {w : World} {vs : List Value} {ls : List (List UInt8)} (h : PartsAt w vs ls) : ∀ v ∈ vs, v.oneCell' = true := by
  intro v hv
  obtain ⟨i, hi, rfl⟩ := List.getElem_of_mem hv
  have h1 := List.getElem?_eq_getElem hi
  have h2 := List.getElem?_eq_getElem (l := ls) (i := i) (by rw [← h.1]; exact hi)
  obtain ⟨p, c, he, _⟩ := (h.2 i _ _ h1 h2).1
  rw [he]; rfl
attribute [local irreducible] shaL pieceL
set_option maxRecDepth 100000 in
set_option maxHeartbeats 4000000 in
theorem tag_any (key : List UInt8) (hk : key.length ≤ 1000000) (kv : Value) (vs : List Value) (ls : List (List UInt8)) (_hne : ls ≠ []) (hl : ls.flatten.length ≤ 100000) (bb off c : Nat) (cs : Array Value) (ty : TypeId) (fr : Nat × Nat) (w0 : World) (hkv : BytesAt w0 kv key) (hv : PartsAt w0 vs ls) (hbb : blk w0 bb = some (.cells cs ty fr)) (hcs : ∀ i v, vs[i]? = some v → cs[off + i]? = some v) (hl9 : ls.length ≤ 1000 ∧ ls.length ≤ c) :
    Calls Try.prog 33 #[kv, .slice (some ⟨bb, off, none⟩) ls.length c] w0 fun e w' => e = .returned (.agg (bvs (tagL key ls.flatten))) ∧ Below w0.heap.size w0 w' := by
  have hpc := fun w hv => piece_any key hk kv w hv
  have hKl := pieceL_len key
  have hT : tagL key ls.flatten = shaL ((pieceL key).map (· ^^^ 0x5c) ++ shaL ((pieceL key).map (· ^^^ 0x36) ++ ls.flatten)) := rfl
  obtain ⟨K, hK⟩ : ∃ K, pieceL key = K := ⟨_, rfl⟩
  rw [hK] at hpc hKl hT
  have hIl : (K.map (· ^^^ 0x36)).length = 64 := by rw [List.length_map, hKl]
  have hOl : (K.map (· ^^^ 0x5c)).length = 64 := by rw [List.length_map, hKl]
  have hmI := fun w => masked_any K hKl 0x36 w
  have hmO := fun w => masked_any K hKl 0x5c w
  obtain ⟨I, hI⟩ : ∃ I, K.map (· ^^^ 0x36) = I := ⟨_, rfl⟩
  obtain ⟨O, hO⟩ : ∃ O, K.map (· ^^^ 0x5c) = O := ⟨_, rfl⟩
  rw [hI] at hIl hmI hT
  rw [hO] at hOl hmO hT
  have hDl := shaL_len (I ++ ls.flatten)
  obtain ⟨D, hD⟩ : ∃ D, shaL (I ++ ls.flatten) = D := ⟨_, rfl⟩
  rw [hD] at hDl hT
  have hEl := shaL_len (O ++ D)
  obtain ⟨E, hE⟩ : ∃ E, shaL (O ++ D) = E := ⟨_, rfl⟩
  rw [hE] at hEl hT
  have hIne : I ≠ [] := by intro e; rw [e] at hIl; cases hIl
  have hOne : O ≠ [] := by intro e; rw [e] at hOl; cases hOl
  have hDne : D ≠ [] := by intro e; rw [e] at hDl; cases hDl
  clear hI hO hK
  have sK : csz (bvs K) = 64 := by rw [Bg, hKl]
  have hS := St.start w0
  go_enter Try.func33, Try.ntmps33
  repeat' (first | ((with_reducible refine Ac ?_); first | ((first | refine Ai Aa ?_ | refine Al Aa ?_ | refine Ba Aa Ab hS ?_ | refine Bh Aa ?_ | refine Bc Aa ?_ | refine Au Aa ?_ | refine Ar Aa ?_) <;> refine Ad ?_) | ((first | refine Ay Aa Ab hS ?_ | refine Ao Aa Ab hS ?_ | refine As Aa Ab hS ?_); clear hS; intro b w hS; refine Ad ?_) | ((first | refine Ap Aa Ab hS ?_ | refine Aq Aa Ab hS ?_); clear hS; intro w hS; refine Ad ?_) | (refine Ce Aa Ab hS (hpc _ (hkv.below hS.below)) ?_; clear hS; intro w hS; refine Ad ?_)) | ((fail_if_success (with_reducible refine Ac ?_)); first | go_step | go_step3 | rw [Exit.noGoto_normal] | rw [Exit.noGoto_ret] | rw [Exit.noGoto_exit]))
  refine s_call Aa (by rfl) (by rfl) (by rfl) (by rfl) (by rfl) (by infer_instance) (hmI _) ?_
  rintro e w1 ⟨g, rfl, k1, k2, k3⟩
  refine ⟨_, rfl, ?_⟩
  refine Ad ?_
  replace hS := Ab.new hS k3 k1 k2
  repeat' (first | ((with_reducible refine Ac ?_); first | ((first | refine Ai Aa ?_ | refine Al Aa ?_ | refine Ba Aa Ab hS ?_ | refine Bh Aa ?_ | refine Bc Aa ?_ | refine Au Aa ?_ | refine Ar Aa ?_) <;> refine Ad ?_) | ((first | refine Ay Aa Ab hS ?_ | refine Ao Aa Ab hS ?_ | refine As Aa Ab hS ?_); clear hS; intro b w hS; refine Ad ?_) | ((first | refine Ap Aa Ab hS ?_ | refine Aq Aa Ab hS ?_); clear hS; intro w hS; refine Ad ?_)) | ((fail_if_success (with_reducible refine Ac ?_)); first | go_step | go_step3 | rw [Exit.noGoto_normal] | rw [Exit.noGoto_ret] | rw [Exit.noGoto_exit]))
  have hbw := (hS.far hbb).1
  have hvw := hv.below hS.below
  refine s_append Aa Ab hS (by rfl) (by rfl) (by rfl) (by rfl) (by infer_instance) (by exact at_ 0 rfl) (olds := [.slice (some ⟨g, 0, none⟩) 64 64]) (spare := []) (by rfl) (by rfl) (by omega) (by rfl) (xs := vs) (src_blk hbw (fun j v h => by rw [Array.getElem?_toList]; exact hcs j v h)) (by rw [hv.1, Nat.mul_one]) hvw.one (by unfold maxLen; omega) (nm := ls.length + 1) (by omega) ?_
  clear hS
  intro b1 d1 sp1 w2 q1 q2 q3 hS
  refine Ad ?_
  rename_i bR y3 y2 bK y1 y0 KK hKK
  replace hS : St w0 w2 [(b1, ((.slice (some ⟨g, 0, none⟩) 64 64) :: (vs ++ sp1)).toArray, 22), (g, bvs I, 108), (bK, bvs K, 108), (bR, bvs (zs 32), 24)] := hS
  have hvw2 := hv.below hS.below
  have hof := of_any (.slice (some ⟨g, 0, none⟩) 64 64 :: vs) (I :: ls) (by simp) (by rw [List.flatten_cons, List.length_append]; omega) b1 0 d1 _ _ _ w2 (PartsAt.cons (bytesAt_whole (hS.blk 1 rfl) hIl) hIne hvw2) (hS.blk 0 rfl) (fun j v h => by
    rw [Nat.zero_add, List.getElem?_toArray, ← List.cons_append, List.getElem?_append_left (List.getElem?_eq_some_iff.1 h).1]; exact h) (by rw [List.length_cons]; omega)
  rw [List.flatten_cons, hD] at hof
  (refine Ce Aa Ab hS (hof) ?_; clear hS; intro w hS; refine Ad ?_)
  have sD : csz (bvs D) = 32 := by rw [Bg, hDl]
  have sZ : csz (bvs (zs 32)) = 32 := by rw [Bg, zs_len]
  replace hS := (hS.erase 0).erase 0
  repeat' (first | ((with_reducible refine Ac ?_); first | ((first | refine Ai Aa ?_ | refine Al Aa ?_ | refine Ba Aa Ab hS ?_ | refine Bh Aa ?_ | refine Bc Aa ?_ | refine Au Aa ?_ | refine Ar Aa ?_) <;> refine Ad ?_) | ((first | refine Ay Aa Ab hS ?_ | refine Ao Aa Ab hS ?_ | refine As Aa Ab hS ?_); clear hS; intro b w hS; refine Ad ?_) | ((first | refine Ap Aa Ab hS ?_ | refine Aq Aa Ab hS ?_); clear hS; intro w hS; refine Ad ?_)) | ((fail_if_success (with_reducible refine Ac ?_)); first | go_step | go_step3 | rw [Exit.noGoto_normal] | rw [Exit.noGoto_ret] | rw [Exit.noGoto_exit]))
  refine any_start [0, 1, 2, 3, 4, 5] (by kernel_rfl) (by kernel_rfl) ?_
  intro w hcq
  replace hS := hS.cls hcq
  clear hcq
  (refine any_pull 2 (by kernel_rfl) (by rfl) (by rfl) (by exact fun _ _ _ _ h => h) ?_; apply Exists.intro; refine ⟨fun C w' => ?_, ?_⟩; (focus (first | exact Db | exact Ct | exact Cc)); refine wa_put ?_)
  refine any_turn 0 (by kernel_rfl) (by rfl) ?_
  repeat' (first | ((with_reducible refine Ac ?_); first | ((first | refine Ai Aa ?_ | refine Ba Aa Ab hS ?_) <;> refine Ad ?_)) | ((fail_if_success (with_reducible refine Ac ?_)); first | go_step | go_step3 | rw [Exit.noGoto_normal] | rw [Exit.noGoto_ret] | rw [Exit.noGoto_exit]))
  refine any_turn 1 (by kernel_rfl) (by rfl) ?_
  refine s_call Aa (by rfl) (by rfl) (by rfl) (by rfl) (by rfl) (by infer_instance) (hmO _) ?_
  rintro e w3 ⟨g2, rfl, k1, k2, k3⟩
  refine ⟨_, rfl, ?_⟩
  refine Ad ?_
  replace hS := Ab.new hS k3 k1 k2
  repeat' (first | ((with_reducible refine Ac ?_); first | ((first | refine Ai Aa ?_) <;> refine Ad ?_)) | ((fail_if_success (with_reducible refine Ac ?_)); first | go_step | go_step3 | rw [Exit.noGoto_normal] | rw [Exit.noGoto_ret] | rw [Exit.noGoto_exit]))
  refine any_turn 3 (by kernel_rfl) (by rfl) ?_
  repeat' (first | ((with_reducible refine Ac ?_); first | ((first | refine Ai Aa ?_ | refine Ar Aa ?_) <;> refine Ad ?_) | ((first | refine Ao Aa Ab hS ?_ | refine As Aa Ab hS ?_); clear hS; intro b w hS; refine Ad ?_)) | ((fail_if_success (with_reducible refine Ac ?_)); first | go_step | go_step3 | rw [Exit.noGoto_normal] | rw [Exit.noGoto_ret] | rw [Exit.noGoto_exit]))
  refine any_turn 4 (by kernel_rfl) (by rfl) ?_
  have hof2 := of_any [.slice (some ⟨g2, 0, none⟩) 64 64, .slice (some ⟨_, 0, none⟩) 32 32] [O, D] (by simp) (by simp [hOl, hDl]) _ 0 2 _ _ _ _ (PartsAt.cons (bytesAt_whole (hS.blk 1 rfl) hOl) hOne (PartsAt.cons (bytesAt_whole (hS.blk 2 rfl) hDl) hDne (PartsAt.nil _))) (hS.blk 0 rfl) (fun j v h => by rw [Nat.zero_add, List.getElem?_toArray]; exact h) (by simp)
  rw [show [O, D].flatten = O ++ D by simp, hE] at hof2
  have sE : csz (bvs E) = 32 := by rw [Bg, hEl]
  (refine Ce Aa Ab hS (hof2) ?_; clear hS; intro w hS; refine Ad ?_)
  repeat' (first | ((with_reducible refine Ac ?_); first | ((first | refine Ai Aa ?_) <;> refine Ad ?_)) | ((fail_if_success (with_reducible refine Ac ?_)); first | go_step | go_step3 | rw [Exit.noGoto_normal] | rw [Exit.noGoto_ret] | rw [Exit.noGoto_exit]))
  refine any_turn 5 (by kernel_rfl) (by rfl) ?_
  repeat' (first | ((with_reducible refine Ac ?_); first | ((first | refine Ai Aa ?_) <;> refine Ad ?_) | ((first | refine Ap Aa Ab hS ?_ | refine Aq Aa Ab hS ?_); clear hS; intro w hS; refine Ad ?_)) | ((fail_if_success (with_reducible refine Ac ?_)); first | go_step | go_step3 | rw [Exit.noGoto_normal] | rw [Exit.noGoto_ret] | rw [Exit.noGoto_exit]))
  refine any_done (by kernel_rfl) ?_
  repeat' (first | ((with_reducible refine Ac ?_); first | ((first | refine Ai Aa ?_ | refine Al Aa ?_ | refine Ba Aa Ab hS ?_ | refine Bh Aa ?_ | refine Bc Aa ?_ | refine Au Aa ?_ | refine Ar Aa ?_) <;> refine Ad ?_) | ((first | refine Ay Aa Ab hS ?_ | refine Ao Aa Ab hS ?_ | refine As Aa Ab hS ?_); clear hS; intro b w hS; refine Ad ?_) | ((first | refine Ap Aa Ab hS ?_ | refine Aq Aa Ab hS ?_); clear hS; intro w hS; refine Ad ?_)) | ((fail_if_success (with_reducible refine Ac ?_)); first | go_step | go_step3 | rw [Exit.noGoto_normal] | rw [Exit.noGoto_ret] | rw [Exit.noGoto_exit]))
  exact post_cell (n := 32) Try.results33 (by kernel_rfl) (.inl rfl) _ _ _ _ rfl rfl (hS.blk 4 rfl) (by rw [← csz_is]; exact sE) ⟨by rw [hT], hS.below⟩
end Go.Proofs.Ytcjncidahjneaaa

namespace Go.Proofs.Ytcjncidahjneaaa
open Go.ChangeShapes Go.WideShapes Go.ChangeAt Go.RowKit
attribute [local irreducible] wpList wpListIn Oper.quietAt wpM
attribute [local irreducible] shaL
theorem St.perm {w0 w : World} {L L' : List Blk} (h : St w0 w L) (hp : L.Perm L') : St w0 w L' :=
  Ab.sub h (fun _x hx => hp.mem_iff.2 hx) ((hp.map _).nodup_iff.1 h.2.2)
set_option maxRecDepth 100000 in
set_option maxHeartbeats 4000000 in
theorem refPiece_any (key : List UInt8) (hk : key.length ≤ 1000000) (v : Value) (w0 : World) (hv : BytesAt w0 v key) :
    Calls Try.prog 49 #[v] w0 fun e w' => ∃ sv, e = .returned sv ∧ OwnB w0.heap.size w' sv (pieceL key) ∧ Below w0.heap.size w0 w' := by
  have hS := St.start w0
  obtain ⟨p, c, hsv, hc⟩ := hv.slice
  by_cases hlong : 64 < key.length
  · have hpl : pieceL key = shaL key ++ zs (64 - (shaL key).length) := by unfold pieceL; simp only [if_pos (show key.length > 64 from hlong)]
    have hsl := shaL_len key
    have hne : key ≠ [] := by rintro rfl; simp at hlong
    have hrf := fun w hv => refOf_any key hne hk v w hv
    obtain ⟨M, hM⟩ : ∃ S, shaL key = S := ⟨_, rfl⟩
    rw [hM] at hpl hsl hrf
    rw [hpl]
    clear hpl hM
    have sS : csz (bvs M) = 32 := by rw [Bg, hsl]
    have sZ : csz (bvs (zs 32)) = 32 := by rw [Bg, zs_len]
    subst hsv
    go_enter Try.func49, Try.ntmps49
    repeat' (first | ((with_reducible refine Ac ?_); first | ((first | refine Ai Aa ?_ | refine Al Aa ?_ | refine Af Aa ?_ | refine Be Aa ?_ | refine Ak Aa ?_ | refine Aj Aa ?_ | refine Aw Aa (fun hc => ?_) (fun hc => ?_) | refine Bh Aa ?_ | refine Bc Aa ?_ | refine Au Aa ?_ | refine Ar Aa ?_) <;> refine Ad ?_) | ((first | refine Ay Aa Ab hS ?_ | refine Ao Aa Ab hS ?_ | refine As Aa Ab hS ?_); clear hS; intro b w hS; refine Ad ?_) | ((first | refine Ap Aa Ab hS ?_ | refine Aq Aa Ab hS ?_); clear hS; intro w hS; refine Ad ?_)) | ((fail_if_success (with_reducible refine Ac ?_)); first | go_step | go_step3 | rw [Exit.noGoto_normal] | rw [Exit.noGoto_ret] | rw [Exit.noGoto_exit]))
    refine s_appX Aa Ab hS (by rfl) (by rfl) (by rfl) (by rfl) (by infer_instance) (by exact at_ 0 rfl) (l := []) (spare := []) (by rfl) (by rfl) (by omega) (by rfl) (hv.below hS.below) (by unfold maxLen; omega) (Nat.zero_add _) ?_
    clear hS
    intro b1 d1 sp1 w1 q1 q2 q3 hS
    refine Ad ?_
    repeat' (first | ((with_reducible refine Ac ?_); first | ((first | refine Ai Aa ?_ | refine Al Aa ?_ | refine Af Aa ?_ | refine Be Aa ?_ | refine Ak Aa ?_ | refine Aj Aa ?_ | refine Aw Aa (fun hc => ?_) (fun hc => ?_) | refine Bh Aa ?_ | refine Bc Aa ?_ | refine Au Aa ?_ | refine Ar Aa ?_) <;> refine Ad ?_) | ((first | refine Ay Aa Ab hS ?_ | refine Ao Aa Ab hS ?_ | refine As Aa Ab hS ?_); clear hS; intro b w hS; refine Ad ?_) | ((first | refine Ap Aa Ab hS ?_ | refine Aq Aa Ab hS ?_); clear hS; intro w hS; refine Ad ?_) | (refine Ce Aa Ab hS (hrf _ (hv.below hS.below)) ?_; clear hS; intro w hS; refine Ad ?_)) | ((fail_if_success (with_reducible refine Ac ?_)); first | go_step | go_step3 | rw [Exit.noGoto_normal] | rw [Exit.noGoto_ret] | rw [Exit.noGoto_exit]))
    refine s_appX Aa Ab hS (by rfl) (by rfl) (by rfl) (by rfl) (by infer_instance) (by exact at_ 0 rfl) (l := []) (spare := []) (by rfl) (by rfl) (by omega) (by rfl) (bytesAt_whole (hS.blk 1 rfl) hsl) (by unfold maxLen; omega) (nm := M.length) (by omega) ?_
    clear hS
    intro b2 d2 sp2 w2 r1 r2 r3 hS
    replace hS := hS.take 1
    refine Ad ?_
    repeat' (first | ((with_reducible refine Ac ?_); first | ((first | refine Ai Aa ?_ | refine Al Aa ?_ | refine Af Aa ?_ | refine Be Aa ?_ | refine Ak Aa ?_ | refine Aj Aa ?_ | refine Aw Aa (fun hc => ?_) (fun hc => ?_) | refine Bh Aa ?_ | refine Bc Aa ?_ | refine Au Aa ?_ | refine Ar Aa ?_) <;> refine Ad ?_) | ((first | refine Ay Aa Ab hS ?_ | refine Ao Aa Ab hS ?_ | refine As Aa Ab hS ?_); clear hS; intro b w hS; refine Ad ?_) | ((first | refine Ap Aa Ab hS ?_ | refine Aq Aa Ab hS ?_); clear hS; intro w hS; refine Ad ?_)) | ((fail_if_success (with_reducible refine Ac ?_)); first | go_step | go_step3 | rw [Exit.noGoto_normal] | rw [Exit.noGoto_ret] | rw [Exit.noGoto_exit]))
    go_loopw [3] (fun u3 wr => ∃ (k : Nat) (Lr : List Blk), M.length + k ≤ 64 ∧ BL (M ++ zs k) u3 Lr ∧ St w0 wr Lr) (fun u3 _ => match u3 with | .slice _ m _ => 64 - m | _ => 0)
    case atStart => exact ⟨0, [_], by omega, by rw [zs0, List.append_nil]; exact .inr ⟨b2, d2, sp2, rfl, r1, r2, r3, rfl⟩, hS⟩
    case round =>
      clear hS
      obtain ⟨k, Lr, hk2, hR, hS⟩ := hrel
      have hlk : (M ++ zs k).length = M.length + k := by rw [List.length_append, zs_len]
      obtain ⟨p', c', hsv⟩ := hR.slice
      rw [hlk] at hsv
      subst hsv
      by_cases hlt : M.length + k < 64
      · have hlt' : ((M.length + k : Nat) : Int) < 64 := by omega
        repeat' (first | ((with_reducible refine Ac ?_); first | ((first | refine Ai Aa ?_ | refine Al Aa ?_ | refine Af Aa ?_ | refine Be Aa ?_ | refine Ak Aa ?_ | refine Aj Aa ?_ | refine Aw Aa (fun hc => ?_) (fun hc => ?_) | refine Bh Aa ?_ | refine Bc Aa ?_ | refine Au Aa ?_ | refine Ar Aa ?_) <;> refine Ad ?_) | ((first | refine Ay Aa Ab hS ?_ | refine Ao Aa Ab hS ?_ | refine As Aa Ab hS ?_); clear hS; intro b w hS; refine Ad ?_) | ((first | refine Ap Aa Ab hS ?_ | refine Aq Aa Ab hS ?_); clear hS; intro w hS; refine Ad ?_)) | ((fail_if_success (with_reducible refine Ac ?_)); first | go_step | go_step3 | rw [Exit.noGoto_normal] | rw [Exit.noGoto_ret] | rw [Exit.noGoto_exit]))
        refine s_appB (z := 0) (L := []) (show St w0 w ((b, #[.int .u8 (((0 : UInt8).toNat : Nat) : Int)], 5) :: (Lr ++ [])) by rw [List.append_nil]; exact hS) hR (by rw [hlk]; omega) (by rfl) (by rfl) (by rfl) (by rfl) ?_
        clear hS
        intro sv' Lr' w' hR' hS
        obtain ⟨p2, c2, hsv⟩ := hR'.slice
        rw [List.length_append, hlk] at hsv
        subst hsv
        refine Ad ?_
        repeat' (first | ((with_reducible refine Ac ?_); first | ((first | refine Ai Aa ?_ | refine Al Aa ?_ | refine Af Aa ?_ | refine Be Aa ?_ | refine Ak Aa ?_ | refine Aj Aa ?_ | refine Aw Aa (fun hc => ?_) (fun hc => ?_) | refine Bh Aa ?_ | refine Bc Aa ?_ | refine Au Aa ?_ | refine Ar Aa ?_) <;> refine Ad ?_) | ((first | refine Ay Aa Ab hS ?_ | refine Ao Aa Ab hS ?_ | refine As Aa Ab hS ?_); clear hS; intro b w hS; refine Ad ?_) | ((first | refine Ap Aa Ab hS ?_ | refine Aq Aa Ab hS ?_); clear hS; intro w hS; refine Ad ?_)) | ((fail_if_success (with_reducible refine Ac ?_)); first | go_step | go_step3 | rw [Exit.noGoto_normal] | rw [Exit.noGoto_ret] | rw [Exit.noGoto_exit]))
        go_roundw
        case rel => exact ⟨k + 1, Lr', by omega, by rw [zs_snoc, ← List.append_assoc]; exact hR', by rw [List.append_nil] at hS; exact hS⟩
        case measure => first | (dsimp only; omega) | (simp only [List.length_cons]; omega)
      · have hlt' : ¬ ((M.length + k : Nat) : Int) < 64 := by omega
        have hk3 : k = 64 - M.length := by omega
        repeat' (first | ((with_reducible refine Ac ?_); first | ((first | refine Ai Aa ?_ | refine Al Aa ?_ | refine Af Aa ?_ | refine Be Aa ?_ | refine Ak Aa ?_ | refine Aj Aa ?_ | refine Aw Aa (fun hc => ?_) (fun hc => ?_) | refine Bh Aa ?_ | refine Bc Aa ?_ | refine Au Aa ?_ | refine Ar Aa ?_) <;> refine Ad ?_) | ((first | refine Ay Aa Ab hS ?_ | refine Ao Aa Ab hS ?_ | refine As Aa Ab hS ?_); clear hS; intro b w hS; refine Ad ?_) | ((first | refine Ap Aa Ab hS ?_ | refine Aq Aa Ab hS ?_); clear hS; intro w hS; refine Ad ?_)) | ((fail_if_success (with_reducible refine Ac ?_)); first | go_step | go_step3 | rw [Exit.noGoto_normal] | rw [Exit.noGoto_ret] | rw [Exit.noGoto_exit]))
        go_ret
        refine ⟨_, rfl, ?_, hS.below⟩
        rw [hk3] at hR
        have := hR.own hS (fun x hx => hx)
        rw [show M.length + k = M.length + (64 - M.length) by omega]
        exact this
  · have hpl : pieceL key = key ++ zs (64 - key.length) := by unfold pieceL; simp only [if_neg (show ¬ key.length > 64 from hlong)]
    obtain ⟨M, hM⟩ : ∃ S, key = S := ⟨_, rfl⟩
    rw [hpl]
    rw [hM] at hlong hc hsv hv ⊢
    clear hpl hM
    have hsl : M.length ≤ 64 := by omega
    subst hsv
    go_enter Try.func49, Try.ntmps49
    repeat' (first | ((with_reducible refine Ac ?_); first | ((first | refine Ai Aa ?_ | refine Al Aa ?_ | refine Af Aa ?_ | refine Be Aa ?_ | refine Ak Aa ?_ | refine Aj Aa ?_ | refine Aw Aa (fun hc => ?_) (fun hc => ?_) | refine Bh Aa ?_ | refine Bc Aa ?_ | refine Au Aa ?_ | refine Ar Aa ?_) <;> refine Ad ?_) | ((first | refine Ay Aa Ab hS ?_ | refine Ao Aa Ab hS ?_ | refine As Aa Ab hS ?_); clear hS; intro b w hS; refine Ad ?_) | ((first | refine Ap Aa Ab hS ?_ | refine Aq Aa Ab hS ?_); clear hS; intro w hS; refine Ad ?_)) | ((fail_if_success (with_reducible refine Ac ?_)); first | go_step | go_step3 | rw [Exit.noGoto_normal] | rw [Exit.noGoto_ret] | rw [Exit.noGoto_exit]))
    refine s_appX Aa Ab hS (by rfl) (by rfl) (by rfl) (by rfl) (by infer_instance) (by exact at_ 0 rfl) (l := []) (spare := []) (by rfl) (by rfl) (by omega) (by rfl) (hv.below hS.below) (by unfold maxLen; omega) (Nat.zero_add _) ?_
    clear hS
    intro b2 d2 sp2 w2 r1 r2 r3 hS
    replace hS := hS.take 1
    refine Ad ?_
    repeat' (first | ((with_reducible refine Ac ?_); first | ((first | refine Ai Aa ?_ | refine Al Aa ?_ | refine Af Aa ?_ | refine Be Aa ?_ | refine Ak Aa ?_ | refine Aj Aa ?_ | refine Aw Aa (fun hc => ?_) (fun hc => ?_) | refine Bh Aa ?_ | refine Bc Aa ?_ | refine Au Aa ?_ | refine Ar Aa ?_) <;> refine Ad ?_) | ((first | refine Ay Aa Ab hS ?_ | refine Ao Aa Ab hS ?_ | refine As Aa Ab hS ?_); clear hS; intro b w hS; refine Ad ?_) | ((first | refine Ap Aa Ab hS ?_ | refine Aq Aa Ab hS ?_); clear hS; intro w hS; refine Ad ?_)) | ((fail_if_success (with_reducible refine Ac ?_)); first | go_step | go_step3 | rw [Exit.noGoto_normal] | rw [Exit.noGoto_ret] | rw [Exit.noGoto_exit]))
    go_loopw [3] (fun u3 wr => ∃ (k : Nat) (Lr : List Blk), M.length + k ≤ 64 ∧ BL (M ++ zs k) u3 Lr ∧ St w0 wr Lr) (fun u3 _ => match u3 with | .slice _ m _ => 64 - m | _ => 0)
    case atStart => exact ⟨0, [_], by omega, by rw [zs0, List.append_nil]; exact .inr ⟨b2, d2, sp2, rfl, r1, r2, r3, rfl⟩, hS⟩
    case round =>
      clear hS
      obtain ⟨k, Lr, hk2, hR, hS⟩ := hrel
      have hlk : (M ++ zs k).length = M.length + k := by rw [List.length_append, zs_len]
      obtain ⟨p', c', hsv⟩ := hR.slice
      rw [hlk] at hsv
      subst hsv
      by_cases hlt : M.length + k < 64
      · have hlt' : ((M.length + k : Nat) : Int) < 64 := by omega
        repeat' (first | ((with_reducible refine Ac ?_); first | ((first | refine Ai Aa ?_ | refine Al Aa ?_ | refine Af Aa ?_ | refine Be Aa ?_ | refine Ak Aa ?_ | refine Aj Aa ?_ | refine Aw Aa (fun hc => ?_) (fun hc => ?_) | refine Bh Aa ?_ | refine Bc Aa ?_ | refine Au Aa ?_ | refine Ar Aa ?_) <;> refine Ad ?_) | ((first | refine Ay Aa Ab hS ?_ | refine Ao Aa Ab hS ?_ | refine As Aa Ab hS ?_); clear hS; intro b w hS; refine Ad ?_) | ((first | refine Ap Aa Ab hS ?_ | refine Aq Aa Ab hS ?_); clear hS; intro w hS; refine Ad ?_)) | ((fail_if_success (with_reducible refine Ac ?_)); first | go_step | go_step3 | rw [Exit.noGoto_normal] | rw [Exit.noGoto_ret] | rw [Exit.noGoto_exit]))
        refine s_appB (z := 0) (L := []) (show St w0 w ((b, #[.int .u8 (((0 : UInt8).toNat : Nat) : Int)], 5) :: (Lr ++ [])) by rw [List.append_nil]; exact hS) hR (by rw [hlk]; omega) (by rfl) (by rfl) (by rfl) (by rfl) ?_
        clear hS
        intro sv' Lr' w' hR' hS
        obtain ⟨p2, c2, hsv⟩ := hR'.slice
        rw [List.length_append, hlk] at hsv
        subst hsv
        refine Ad ?_
        repeat' (first | ((with_reducible refine Ac ?_); first | ((first | refine Ai Aa ?_ | refine Al Aa ?_ | refine Af Aa ?_ | refine Be Aa ?_ | refine Ak Aa ?_ | refine Aj Aa ?_ | refine Aw Aa (fun hc => ?_) (fun hc => ?_) | refine Bh Aa ?_ | refine Bc Aa ?_ | refine Au Aa ?_ | refine Ar Aa ?_) <;> refine Ad ?_) | ((first | refine Ay Aa Ab hS ?_ | refine Ao Aa Ab hS ?_ | refine As Aa Ab hS ?_); clear hS; intro b w hS; refine Ad ?_) | ((first | refine Ap Aa Ab hS ?_ | refine Aq Aa Ab hS ?_); clear hS; intro w hS; refine Ad ?_)) | ((fail_if_success (with_reducible refine Ac ?_)); first | go_step | go_step3 | rw [Exit.noGoto_normal] | rw [Exit.noGoto_ret] | rw [Exit.noGoto_exit]))
        go_roundw
        case rel => exact ⟨k + 1, Lr', by omega, by rw [zs_snoc, ← List.append_assoc]; exact hR', by rw [List.append_nil] at hS; exact hS⟩
        case measure => first | (dsimp only; omega) | (simp only [List.length_cons]; omega)
      · have hlt' : ¬ ((M.length + k : Nat) : Int) < 64 := by omega
        have hk3 : k = 64 - M.length := by omega
        repeat' (first | ((with_reducible refine Ac ?_); first | ((first | refine Ai Aa ?_ | refine Al Aa ?_ | refine Af Aa ?_ | refine Be Aa ?_ | refine Ak Aa ?_ | refine Aj Aa ?_ | refine Aw Aa (fun hc => ?_) (fun hc => ?_) | refine Bh Aa ?_ | refine Bc Aa ?_ | refine Au Aa ?_ | refine Ar Aa ?_) <;> refine Ad ?_) | ((first | refine Ay Aa Ab hS ?_ | refine Ao Aa Ab hS ?_ | refine As Aa Ab hS ?_); clear hS; intro b w hS; refine Ad ?_) | ((first | refine Ap Aa Ab hS ?_ | refine Aq Aa Ab hS ?_); clear hS; intro w hS; refine Ad ?_)) | ((fail_if_success (with_reducible refine Ac ?_)); first | go_step | go_step3 | rw [Exit.noGoto_normal] | rw [Exit.noGoto_ret] | rw [Exit.noGoto_exit]))
        go_ret
        refine ⟨_, rfl, ?_, hS.below⟩
        rw [hk3] at hR
        have := hR.own hS (fun x hx => hx)
        rw [show M.length + k = M.length + (64 - M.length) by omega]
        exact this
end Go.Proofs.Ytcjncidahjneaaa

namespace Go.Proofs.Ytcjncidahjneaaa
open Go.ChangeShapes Go.WideShapes Go.ChangeAt Go.RowKit
attribute [local irreducible] wpList wpListIn Oper.quietAt wpM
attribute [local irreducible] shaL pieceL
theorem map_snoc (K : List UInt8) (f : UInt8 → UInt8) {i : Nat} (h : i < K.length) : (K.map f).take (i + 1) = (K.map f).take i ++ [f (K.getD i 0)] := by
  rw [List.take_add_one, List.getElem?_map, List.getElem?_eq_getElem h, List.getD_eq_getElem?_getD, List.getElem?_eq_getElem h]
  rfl
set_option maxRecDepth 100000 in
set_option maxHeartbeats 4000000 in
theorem refTag_any (key text : List UInt8) (hk : key.length ≤ 1000000) (ht : text.length ≤ 100000) (kv tv : Value) (w0 : World) (hkv : BytesAt w0 kv key) (htv : BytesAt w0 tv text) :
    Calls Try.prog 28 #[kv, tv] w0 fun e w' => e = .returned (.agg (bvs (tagL key text))) ∧ Below w0.heap.size w0 w' := by
  have hpc := fun w hv => refPiece_any key hk kv w hv
  have hKl := pieceL_len key
  have hT : tagL key text = shaL ((pieceL key).map (· ^^^ 0x5c) ++ shaL ((pieceL key).map (· ^^^ 0x36) ++ text)) := rfl
  obtain ⟨K, hK⟩ : ∃ K, pieceL key = K := ⟨_, rfl⟩
  rw [hK] at hpc hKl hT
  have hIl : (K.map (· ^^^ 0x36)).length = 64 := by rw [List.length_map, hKl]
  have hOl : (K.map (· ^^^ 0x5c)).length = 64 := by rw [List.length_map, hKl]
  have hIs := fun i (h : i < 64) => map_snoc K (· ^^^ 0x36) (i := i) (by omega)
  have hOs := fun i (h : i < 64) => map_snoc K (· ^^^ 0x5c) (i := i) (by omega)
  obtain ⟨I, hI⟩ : ∃ I, K.map (· ^^^ 0x36) = I := ⟨_, rfl⟩
  obtain ⟨O, hO⟩ : ∃ O, K.map (· ^^^ 0x5c) = O := ⟨_, rfl⟩
  rw [hI] at hIl hT hIs
  rw [hO] at hOl hT hOs
  have hrf1 := fun v w hv => refOf_any (I ++ text) (by intro e; have := congrArg List.length e; rw [List.length_append, hIl] at this; simp at this) (by rw [List.length_append]; omega) v w hv
  have hDl := shaL_len (I ++ text)
  obtain ⟨D, hD⟩ : ∃ D, shaL (I ++ text) = D := ⟨_, rfl⟩
  rw [hD] at hDl hT hrf1
  have hrf2 := fun v w hv => refOf_any (O ++ D) (by intro e; have := congrArg List.length e; rw [List.length_append, hOl] at this; simp at this) (by rw [List.length_append]; omega) v w hv
  have hEl := shaL_len (O ++ D)
  obtain ⟨E, hE⟩ : ∃ E, shaL (O ++ D) = E := ⟨_, rfl⟩
  rw [hE] at hEl hT hrf2
  clear hI hO hK hD hE
  have sD : csz (bvs D) = 32 := by rw [Bg, hDl]
  have sE : csz (bvs E) = 32 := by rw [Bg, hEl]
  have sZ : csz (bvs (zs 32)) = 32 := by rw [Bg, zs_len]
  have hS := St.start w0
  go_enter Try.func28, Try.ntmps28
  repeat' (first | ((with_reducible refine Ac ?_); first | ((first | refine Ai Aa ?_ | refine Al Aa ?_ | refine Af Aa ?_ | refine Av Aa Ab hS ?_ | refine Ag Aa ?_ | refine Ae Aa ?_ | refine Bd Aa ?_ | refine Ak Aa ?_ | refine Aj Aa ?_ | refine Aw Aa (fun hc => ?_) (fun hc => ?_) | refine Bh Aa ?_ | refine Bc Aa ?_ | refine Au Aa ?_ | refine Ar Aa ?_) <;> refine Ad ?_) | ((first | refine Ay Aa Ab hS ?_ | refine Ao Aa Ab hS ?_ | refine As Aa Ab hS ?_); clear hS; intro b w hS; refine Ad ?_) | ((first | refine Ap Aa Ab hS ?_ | refine Aq Aa Ab hS ?_); clear hS; intro w hS; refine Ad ?_)) | ((fail_if_success (with_reducible refine Ac ?_)); first | go_step | go_step3 | rw [Exit.noGoto_normal] | rw [Exit.noGoto_ret] | rw [Exit.noGoto_exit]))
  refine s_call Aa (by rfl) (by rfl) (by rfl) (by rfl) (by rfl) (by infer_instance) (hpc _ (hkv.below hS.below)) ?_
  rintro e w1 ⟨pv, rfl, hR, hB⟩
  refine ⟨_, rfl, ?_⟩
  refine Ad ?_
  rcases hR with ⟨_, hbad⟩ | ⟨gp, cp, sp, rfl, k1, k2, k3, k4, k5⟩
  · rw [hbad] at hKl; simp at hKl
  replace hS := Ab.new hS hB k4 k5
  rw [hKl] at k1 k3 ⊢
  have hKg : ∀ i, i < 64 → ((K.map bv ++ sp).toArray)[i]? = some (.int .u8 ((K.getD i 0).toNat : Int)) := fun i hi => by
    rw [List.getElem?_toArray, List.getElem?_append_left (by rw [List.length_map]; omega), List.getElem?_map, List.getElem?_eq_getElem (by omega), List.getD_eq_getElem?_getD, List.getElem?_eq_getElem (by omega)]
    rfl
  repeat' (first | ((with_reducible refine Ac ?_); first | ((first | refine Ai Aa ?_ | refine Al Aa ?_ | refine Af Aa ?_ | refine Av Aa Ab hS ?_ | refine Ag Aa ?_ | refine Ae Aa ?_ | refine Bd Aa ?_ | refine Ak Aa ?_ | refine Aj Aa ?_ | refine Aw Aa (fun hc => ?_) (fun hc => ?_) | refine Bh Aa ?_ | refine Bc Aa ?_ | refine Au Aa ?_ | refine Ar Aa ?_) <;> refine Ad ?_) | ((first | refine Ay Aa Ab hS ?_ | refine Ao Aa Ab hS ?_ | refine As Aa Ab hS ?_); clear hS; intro b w hS; refine Ad ?_) | ((first | refine Ap Aa Ab hS ?_ | refine Aq Aa Ab hS ?_); clear hS; intro w hS; refine Ad ?_)) | ((fail_if_success (with_reducible refine Ac ?_)); first | go_step | go_step3 | rw [Exit.noGoto_normal] | rw [Exit.noGoto_ret] | rw [Exit.noGoto_exit]))
  obtain ⟨bR, hbR⟩ : ∃ x, x = b := ⟨_, rfl⟩
  rw [← hbR] at hS ⊢
  clear hbR
  go_loopw [6, 7, 8] (fun u6 u7 u8 wr => ∃ (i : Nat) (La Lb : List Blk), i ≤ 64 ∧ u8 = .int .i64 (i : Int) ∧ BL (I.take i) u6 La ∧ BL (O.take i) u7 Lb ∧ St w0 wr (La ++ (Lb ++ [(gp, (K.map bv ++ sp).toArray, 5), (bR, bvs (zs 32), 24)]))) (fun _ _ u8 _ => 64 - (intOf u8).toNat)
  case atStart => exact ⟨0, [], [], by omega, rfl, .inl ⟨rfl, rfl, rfl⟩, .inl ⟨rfl, rfl, rfl⟩, hS⟩
  case round =>
    clear hS
    obtain ⟨i, La, Lb, hi, rfl, hRa, hRb, hS⟩ := hrel
    have hla : (I.take i).length = i := by rw [List.length_take]; omega
    have hlb : (O.take i).length = i := by rw [List.length_take]; omega
    by_cases hlt : i < 64
    · have hg := hKg i hlt
      have hIs1 := hIs i hlt
      have hOs1 := hOs i hlt
      obtain ⟨y, hy⟩ : ∃ y, K.getD i 0 = y := ⟨_, rfl⟩
      rw [hy] at hg hIs1 hOs1
      obtain ⟨pa, ca, hsa⟩ := hRa.slice
      obtain ⟨pb, cb, hsb⟩ := hRb.slice
      rw [hla] at hsa
      rw [hlb] at hsb
      subst hsa hsb
      have hpw : blk wr gp = some (.cells (K.map bv ++ sp).toArray 5 (0, 0)) := (hS.2.1 _ (List.mem_append_right _ (List.mem_append_right _ (List.mem_cons_self ..)))).2
      repeat' (first | ((with_reducible refine Ac ?_); first | ((first | refine Ai Aa ?_ | refine Al Aa ?_ | refine Af Aa ?_ | refine Av Aa Ab hS ?_ (hv := by first | rfl | exact Bi | (rw [Array.getElem?_toList]; exact hg)) | refine Bs Aa (by first | exact hpw) ?_ (hv := by first | rfl | exact Bi | (rw [Array.getElem?_toList]; exact hg)) | refine Ag Aa ?_ | refine Ae Aa ?_ | refine Bd Aa ?_ | refine Ak Aa ?_ | refine Aj Aa ?_ | refine Aw Aa (fun hc => ?_) (fun hc => ?_) | refine Bh Aa ?_ | refine Bc Aa ?_ | refine Au Aa ?_ | refine Ar Aa ?_) <;> refine Ad ?_) | ((first | refine Ay Aa Ab hS ?_ | refine Ao Aa Ab hS ?_ | refine As Aa Ab hS ?_); clear hS; intro b w hS; refine Ad ?_) | ((first | refine Ap Aa Ab hS ?_ | refine Aq Aa Ab hS ?_); clear hS; intro w hS; refine Ad ?_) | (refine Stp.go Aa (by rfl) (by rfl) (r_xor8 (n := 0x36) (by rfl) (by rfl) (by rfl) rfl) ?_; refine Ad ?_)) | ((fail_if_success (with_reducible refine Ac ?_)); first | go_step | go_step3 | rw [Exit.noGoto_normal] | rw [Exit.noGoto_ret] | rw [Exit.noGoto_exit]))
      refine s_appB (z := y ^^^ 0x36) hS hRa (by rw [hla]; omega) (by rfl) (by rfl) (by rfl) (by rfl) ?_
      clear hS
      intro sa La' w2 hRa' hS
      rw [← hIs1] at hRa'
      refine Ad ?_
      have hpw2 : blk w2 gp = some (.cells (K.map bv ++ sp).toArray 5 (0, 0)) := (hS.2.1 _ (List.mem_append_right _ (List.mem_append_right _ (List.mem_cons_self ..)))).2
      repeat' (first | ((with_reducible refine Ac ?_); first | ((first | refine Ai Aa ?_ | refine Al Aa ?_ | refine Af Aa ?_ | refine Av Aa Ab hS ?_ (hv := by first | rfl | exact Bi | (rw [Array.getElem?_toList]; exact hg)) | refine Bs Aa (by first | exact hpw2) ?_ (hv := by first | rfl | exact Bi | (rw [Array.getElem?_toList]; exact hg)) | refine Ag Aa ?_ | refine Ae Aa ?_ | refine Bd Aa ?_ | refine Ak Aa ?_ | refine Aj Aa ?_ | refine Aw Aa (fun hc => ?_) (fun hc => ?_) | refine Bh Aa ?_ | refine Bc Aa ?_ | refine Au Aa ?_ | refine Ar Aa ?_) <;> refine Ad ?_) | ((first | refine Ay Aa Ab hS ?_ | refine Ao Aa Ab hS ?_ | refine As Aa Ab hS ?_); clear hS; intro b w hS; refine Ad ?_) | ((first | refine Ap Aa Ab hS ?_ | refine Aq Aa Ab hS ?_); clear hS; intro w hS; refine Ad ?_) | (refine Stp.go Aa (by rfl) (by rfl) (r_xor8 (n := 0x5c) (by rfl) (by rfl) (by rfl) rfl) ?_; refine Ad ?_)) | ((fail_if_success (with_reducible refine Ac ?_)); first | go_step | go_step3 | rw [Exit.noGoto_normal] | rw [Exit.noGoto_ret] | rw [Exit.noGoto_exit]))
      replace hS := St.perm hS (L' := (b, #[.int .u8 ((y ^^^ 0x5c).toNat : Int)], 5) :: (Lb ++ (La' ++ [(gp, (K.map bv ++ sp).toArray, 5), (bR, bvs (zs 32), 24)]))) (List.Perm.cons _ (by
        rw [← List.append_assoc, ← List.append_assoc]
        exact (List.perm_append_comm).append_right _))
      refine s_appB (z := y ^^^ 0x5c) hS hRb (by rw [hlb]; omega) (by rfl) (by rfl) (by rfl) (by rfl) ?_
      clear hS
      intro sb Lb' w3 hRb' hS
      rw [← hOs1] at hRb'
      refine Ad ?_
      repeat' (first | ((with_reducible refine Ac ?_); first | ((first | refine Ai Aa ?_ | refine Al Aa ?_ | refine Af Aa ?_ | refine Av Aa Ab hS ?_ | refine Ag Aa ?_ | refine Ae Aa ?_ | refine Bd Aa ?_ | refine Ak Aa ?_ | refine Aj Aa ?_ | refine Aw Aa (fun hc => ?_) (fun hc => ?_) | refine Bh Aa ?_ | refine Bc Aa ?_ | refine Au Aa ?_ | refine Ar Aa ?_) <;> refine Ad ?_) | ((first | refine Ay Aa Ab hS ?_ | refine Ao Aa Ab hS ?_ | refine As Aa Ab hS ?_); clear hS; intro b w hS; refine Ad ?_) | ((first | refine Ap Aa Ab hS ?_ | refine Aq Aa Ab hS ?_); clear hS; intro w hS; refine Ad ?_)) | ((fail_if_success (with_reducible refine Ac ?_)); first | go_step | go_step3 | rw [Exit.noGoto_normal] | rw [Exit.noGoto_ret] | rw [Exit.noGoto_exit]))
      go_roundw
      case rel => exact ⟨i + 1, La', Lb', by omega, by push_cast; rfl, hRa', hRb', St.perm hS (by
        rw [← List.append_assoc, ← List.append_assoc]
        exact (List.perm_append_comm).append_right _)⟩
      case measure => first | (simp [intOf]; done) | (simp [intOf]; omega)
    · obtain rfl : i = 64 := by omega
      rw [List.take_of_length_le (by omega)] at hRa hRb
      rcases hRa with ⟨_, hbad, _⟩ | ⟨ga, ca, spa, rfl, a1, a2, a3, rfl⟩
      · rw [hbad] at hIl; simp at hIl
      rcases hRb with ⟨_, hbad, _⟩ | ⟨gb, cb, spb, rfl, b1, b2, b3, rfl⟩
      · rw [hbad] at hOl; simp at hOl
      replace hS : St w0 wr [(ga, (I.map bv ++ spa).toArray, 5), (gb, (O.map bv ++ spb).toArray, 5), (gp, (K.map bv ++ sp).toArray, 5), (bR, bvs (zs 32), 24)] := hS
      rw [hIl] at a1 a3 ⊢
      rw [hOl] at b1 b3 ⊢
      have a2' := a2
      have b2' := b2
      unfold maxLen at a2' b2'
      repeat' (first | ((with_reducible refine Ac ?_); first | ((first | refine Ai Aa ?_ | refine Al Aa ?_ | refine Af Aa ?_ | refine Av Aa Ab hS ?_ | refine Ag Aa ?_ | refine Ae Aa ?_ | refine Bd Aa ?_ | refine Ak Aa ?_ | refine Aj Aa ?_ | refine Aw Aa (fun hc => ?_) (fun hc => ?_) | refine Bh Aa ?_ | refine Bc Aa ?_ | refine Au Aa ?_ | refine Ar Aa ?_) <;> refine Ad ?_) | ((first | refine Ay Aa Ab hS ?_ | refine Ao Aa Ab hS ?_ | refine As Aa Ab hS ?_); clear hS; intro b w hS; refine Ad ?_) | ((first | refine Ap Aa Ab hS ?_ | refine Aq Aa Ab hS ?_); clear hS; intro w hS; refine Ad ?_)) | ((fail_if_success (with_reducible refine Ac ?_)); first | go_step | go_step3 | rw [Exit.noGoto_normal] | rw [Exit.noGoto_ret] | rw [Exit.noGoto_exit]))
      refine s_appX Aa Ab hS (by rfl) (by rfl) (by rfl) (by rfl) (by infer_instance) (by exact at_ 0 rfl) (l := I) (spare := spa) (by rfl) hIl a1 a3 (htv.below hS.below) (by unfold maxLen; omega) (nm := (I ++ text).length) (by rw [List.length_append]; omega) ?_
      clear hS
      intro d1 e1 sp1 w5 q1 q2 q3 hS
      refine Ad ?_
      repeat' (first | ((with_reducible refine Ac ?_); first | ((first | refine Ai Aa ?_ | refine Al Aa ?_ | refine Af Aa ?_ | refine Av Aa Ab hS ?_ | refine Ag Aa ?_ | refine Ae Aa ?_ | refine Bd Aa ?_ | refine Ak Aa ?_ | refine Aj Aa ?_ | refine Aw Aa (fun hc => ?_) (fun hc => ?_) | refine Bh Aa ?_ | refine Bc Aa ?_ | refine Au Aa ?_ | refine Ar Aa ?_) <;> refine Ad ?_) | ((first | refine Ay Aa Ab hS ?_ | refine Ao Aa Ab hS ?_ | refine As Aa Ab hS ?_); clear hS; intro b w hS; refine Ad ?_) | ((first | refine Ap Aa Ab hS ?_ | refine Aq Aa Ab hS ?_); clear hS; intro w hS; refine Ad ?_) | (refine Ce Aa Ab hS (hrf1 _ _ (bytesAt_mid (pre := []) (off := 0) (hS.blk 0 rfl) rfl rfl rfl q1)) ?_; clear hS; intro w hS; refine Ad ?_)) | ((fail_if_success (with_reducible refine Ac ?_)); first | go_step | go_step3 | rw [Exit.noGoto_normal] | rw [Exit.noGoto_ret] | rw [Exit.noGoto_exit]))
      refine s_appX Aa Ab hS (by rfl) (by rfl) (by rfl) (by rfl) (by infer_instance) (by exact at_ 2 rfl) (l := O) (spare := spb) (by rfl) hOl b1 b3 (bytesAt_whole (hS.blk 0 rfl) hDl) (by unfold maxLen; omega) (nm := (O ++ D).length) (by rw [List.length_append]; omega) ?_
      clear hS
      intro d2 e2 sp2 w6 r1 r2 r3 hS
      refine Ad ?_
      repeat' (first | ((with_reducible refine Ac ?_); first | ((first | refine Ai Aa ?_ | refine Al Aa ?_ | refine Af Aa ?_ | refine Av Aa Ab hS ?_ | refine Ag Aa ?_ | refine Ae Aa ?_ | refine Bd Aa ?_ | refine Ak Aa ?_ | refine Aj Aa ?_ | refine Aw Aa (fun hc => ?_) (fun hc => ?_) | refine Bh Aa ?_ | refine Bc Aa ?_ | refine Au Aa ?_ | refine Ar Aa ?_) <;> refine Ad ?_) | ((first | refine Ay Aa Ab hS ?_ | refine Ao Aa Ab hS ?_ | refine As Aa Ab hS ?_); clear hS; intro b w hS; refine Ad ?_) | ((first | refine Ap Aa Ab hS ?_ | refine Aq Aa Ab hS ?_); clear hS; intro w hS; refine Ad ?_) | (refine Ce Aa Ab hS (hrf2 _ _ (bytesAt_mid (pre := []) (off := 0) (hS.blk 0 rfl) rfl rfl rfl r1)) ?_; clear hS; intro w hS; refine Ad ?_)) | ((fail_if_success (with_reducible refine Ac ?_)); first | go_step | go_step3 | rw [Exit.noGoto_normal] | rw [Exit.noGoto_ret] | rw [Exit.noGoto_exit]))
      exact post_cell (n := 32) Try.results28 (by kernel_rfl) (.inl rfl) _ _ _ _ rfl rfl (hS.blk 4 rfl) (by rw [← csz_is]; exact sE) ⟨by rw [hT], hS.below⟩
end Go.Proofs.Ytcjncidahjneaaa
