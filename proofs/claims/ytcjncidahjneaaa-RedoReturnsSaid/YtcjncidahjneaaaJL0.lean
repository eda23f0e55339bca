/-
  Laws that the claims of this seat use, of several texts in one: RedoEncodesW, RdB, OwL, RdC, RdD. No condition of their own.
-/
import Derived.Test.YtcjncidahjneaaaJK0

namespace Go.Proofs.Ytcjncidahjneaaa
open Go.ChangeShapes Go.WideShapes Go.ChangeAt Go.RowKit
attribute [local irreducible] wpList wpListIn Oper.quietAt wpM
attribute [local irreducible] encL cellN rowP
theorem sound_nil : soundP [] := ⟨by simp, by simp, by simp⟩
theorem encL_len (key : List UInt8) (n : Int) {l : List Pt} (ho : okP l) (h : l.length ≤ 56) : (encL key n l).length = 128 * (l.length + 2) := by
  unfold encL
  rw [List.length_append, List.length_append, firstC_len n h, tagC_len, bodyL_len ho]; omega
theorem PutsAt.nil (w : World) : PutsAt w (.slice none 0 0) [] := ⟨fun _ h => absurd h List.not_mem_nil, none, 0, rfl, Nat.le_refl _, fun _ => rfl, fun h => absurd rfl h⟩
end Go.Proofs.Ytcjncidahjneaaa

namespace Go.Proofs.Ytcjncidahjneaaa
open Go.ChangeShapes Go.WideShapes Go.ChangeAt Go.RowKit
attribute [local irreducible] wpList wpListIn Oper.quietAt wpM
/-- A number of two bytes, and a count, in a sector. -/
def numR (C : List UInt8) (o : Nat) : Nat := beN ((C.drop o).take 2)
def cntR (C : List UInt8) : Int := wrap64 (beN (C.take 8) : Int)
theorem beN_two (l : List UInt8) (h : l.length ≤ 2) : beN l < 65536 := by
  have h1 := beN_lt l
  have h2 : 256 ^ l.length ≤ 256 ^ 2 := Nat.pow_le_pow_right (by omega) h
  have h3 : (256 : Nat) ^ 2 = 65536 := by decide +kernel
  rw [h3] at h2
  exact Nat.lt_of_lt_of_le h1 h2
theorem numR_lt (C : List UInt8) (o : Nat) : numR C o < 65536 := beN_two _ (by rw [List.length_take]; omega)
theorem r_convR {P : Program} {o : Oper} {a : Act} {w : World} {s t : TypeId} {x : Operand} {k ks : IntKind} {n q : Int} (hop : o.op = .convert s t x) (hx : evO a x = some (.int k n)) (hs : IntT P s ks) (ht : IntT P t .i64) (hq : wrap64 n = q) : (execOp a.eval o).run P w = .ok (.value (.int .i64 q)) w := by
  subst hq
  unfold execOp; rw [hop]
  simp only [Bb hx, convert, Sem.run_bind, run_underlying hs.is, run_underlying ht.is, Result.andThen_ok, Conv.intToInt]
  rw [show IntKind.i64.wrap n = wrap64 n by rw [IntKind.wrap_i64]; unfold wrap64; omega]
  rfl
theorem wrap_small2 {n : Nat} (h : n < 65536) : wrap64 (n : Int) = (n : Int) := by unfold wrap64; omega
theorem big_quiet (v : Value) (l : List UInt8) (w : World) (hv : BytesAt w v l) (hl : l.length ≤ 8) : Calls Try.prog 35 #[v] w fun e w' => e = .returned (.int .u64 (beN l)) ∧ Below w.heap.size w w' :=
  (big_any v l w hv hl).mono (fun _ _ h => ⟨h.1, h.2 ▸ Below.refl _ _⟩)
set_option maxRecDepth 100000 in
set_option maxHeartbeats 2000000 in
theorem number_any (C : List UInt8) (hC : C.length = 128) (o : Nat) (ho : o ≤ 126) (w0 : World) :
    Calls Try.prog 46 #[.agg (bvs C), .int .i64 (o : Int)] w0 fun e w' => e = .returned (.int .i64 (numR C o : Int)) ∧ Below w0.heap.size w0 w' := by
  have hS := St.start w0
  have sC : csz (bvs C) = 128 := by rw [Bg, hC]
  have hlt := numR_lt C o
  have hN : beN ((C.drop o).take 2) = numR C o := rfl
  have l2 : ((C.drop o).take 2).length = 2 := by rw [List.length_take, List.length_drop]; omega
  have hbg := fun w b (hv : BytesAt w (.slice (some ⟨b, o, none⟩) 2 (128 - o)) ((C.drop o).take 2)) => big_quiet _ ((C.drop o).take 2) w hv (by omega)
  obtain ⟨N, hN2⟩ : ∃ N, numR C o = N := ⟨_, rfl⟩
  rw [hN] at hbg
  rw [hN2] at hbg hlt ⊢
  go_enter Try.func46, Try.ntmps46
  repeat' (first | ((with_reducible refine Ac ?_); first | ((first | refine Ai Aa ?_ | refine Al Aa ?_ | refine Af Aa ?_ | refine Bd Aa ?_ | refine Bq Aa ?_ | refine Bh Aa ?_ | refine Bc Aa ?_ | refine Au Aa ?_) <;> refine Ad ?_) | ((first | refine Cu Aa Ab hS ?_); clear hS; intro b w hS; refine Ad ?_)) | ((fail_if_success (with_reducible refine Ac ?_)); first | go_step | go_step3 | rw [Exit.noGoto_normal] | rw [Exit.noGoto_ret] | rw [Exit.noGoto_exit]))
  rw [show ((o : Int) + 2).toNat - o = 2 by omega]
  repeat' (first | ((with_reducible refine Ac ?_); first | ((first | refine Ai Aa ?_ | refine Al Aa ?_ | refine Af Aa ?_ | refine Bd Aa ?_ | refine Bq Aa ?_ | refine Bh Aa ?_ | refine Bc Aa ?_ | refine Au Aa ?_) <;> refine Ad ?_) | ((first | refine Cu Aa Ab hS ?_); clear hS; intro b w hS; refine Ad ?_) | (refine Ce Aa Ab hS (hbg _ _ (bytesAt_bvs (hS.blk 0 rfl) (by omega) (by omega))) ?_; clear hS; intro w hS; refine Ad ?_) | (refine Stp.go Aa (by rfl) (by rfl) (r_convR (by rfl) (by rfl) (by infer_instance) (by infer_instance) (wrap_small2 hlt)) ?_; refine Ad ?_)) | ((fail_if_success (with_reducible refine Ac ?_)); first | go_step | go_step3 | rw [Exit.noGoto_normal] | rw [Exit.noGoto_ret] | rw [Exit.noGoto_exit]))
  go_ret
  exact ⟨rfl, hS.below⟩
end Go.Proofs.Ytcjncidahjneaaa

namespace Go.Proofs.Ytcjncidahjneaaa
open Go.ChangeShapes Go.WideShapes Go.ChangeAt Go.RowKit
attribute [local irreducible] wpList wpListIn Oper.quietAt wpM
/-- An own slice of elements that `f` writes in cells, or nil. -/
def OwL {α : Type} (f : α → List Value) (sz : Nat) (t : TypeId) (l : List α) (v : Value) (Lr : List Blk) : Prop := (v = .slice none 0 0 ∧ l = [] ∧ Lr = []) ∨
  ∃ g c sp, v = .slice (some ⟨g, 0, none⟩) l.length c ∧ l.length ≤ c ∧ c ≤ maxLen ∧ sp.length = (c - l.length) * sz ∧ Lr = [(g, (l.flatMap f ++ sp).toArray, t)]
/-- The same, as a function leaves it. -/
def OwnL {α : Type} (f : α → List Value) (sz : Nat) (t : TypeId) (B : Nat) (w : World) (v : Value) (l : List α) : Prop := (v = .slice none 0 0 ∧ l = []) ∨
  ∃ g c sp, v = .slice (some ⟨g, 0, none⟩) l.length c ∧ l.length ≤ c ∧ c ≤ maxLen ∧ sp.length = (c - l.length) * sz ∧ B ≤ g ∧ blk w g = some (.cells (l.flatMap f ++ sp).toArray t (0, 0))
/-- A slice of elements, wherever it lies. -/
def OwAt {α : Type} (f : α → List Value) (w : World) (v : Value) (l : List α) : Prop := ∃ p c, v = .slice p l.length c ∧ l.length ≤ c ∧ (p = none → c = 0) ∧ (l ≠ [] → ∃ b o cs t fr, p = some ⟨b, o, none⟩ ∧ blk w b = some (.cells cs t fr) ∧ ∀ j x, (l.flatMap f)[j]? = some x → cs[o + j]? = some x)
section
variable {α : Type} {f : α → List Value} {sz : Nat} {t : TypeId} {l : List α} {v : Value} {Lr : List Blk}
theorem OwAt.below {w w' : World} (h : OwAt f w v l) (hb : Below w.heap.size w w') : OwAt f w' v l := by
  obtain ⟨p, c, h1, h2, h3, h4⟩ := h
  refine ⟨p, c, h1, h2, h3, fun hne => ?_⟩
  obtain ⟨b, o, cs, t, fr, h5, h6, h7⟩ := h4 hne
  exact ⟨b, o, cs, t, fr, h5, (hb.block b (blk_lt h6)).trans h6, h7⟩
theorem OwL.slice (h : OwL f sz t l v Lr) : ∃ p c, v = .slice p l.length c := by
  rcases h with ⟨rfl, rfl, _⟩ | ⟨g, c, sp, rfl, _⟩
  · exact ⟨_, _, rfl⟩
  · exact ⟨_, _, rfl⟩
theorem OwnL.slice {B : Nat} {w : World} (h : OwnL f sz t B w v l) : ∃ p c, v = .slice p l.length c := by
  rcases h with ⟨rfl, rfl⟩ | ⟨g, c, sp, rfl, _⟩
  · exact ⟨_, _, rfl⟩
  · exact ⟨_, _, rfl⟩
theorem OwnL.join {B : Nat} {H : World → List Blk → Prop} (hH : Own B H) {w w' : World} {L : List Blk} (h : OwnL f sz t w.heap.size w' v l) (hS : H w L) (hB : Below w.heap.size w w') : ∃ Lr, OwL f sz t l v Lr ∧ H w' (Lr ++ L) := by
  rcases h with ⟨rfl, rfl⟩ | ⟨g, c, sp, rfl, h1, h2, h3, h4, h5⟩
  · exact ⟨[], .inl ⟨rfl, rfl, rfl⟩, hH.call hS hB⟩
  · exact ⟨[_], .inr ⟨g, c, sp, rfl, h1, h2, h3, rfl⟩, hH.new hS hB h4 h5⟩
theorem OwL.own {w0 w : World} {L : List Blk} (h : OwL f sz t l v Lr) (hS : St w0 w L) (hm : ∀ x ∈ Lr, x ∈ L) : OwnL f sz t w0.heap.size w v l := by
  rcases h with ⟨rfl, rfl, rfl⟩ | ⟨g, c, sp, rfl, h1, h2, h3, rfl⟩
  · exact .inl ⟨rfl, rfl⟩
  · have := hS.2.1 _ (hm _ (List.mem_cons_self ..))
    exact .inr ⟨g, c, sp, rfl, h1, h2, h3, this.1, this.2⟩
theorem OwAt.nil (w : World) : OwAt f w (.slice none 0 0) [] := ⟨none, 0, rfl, Nat.le_refl _, fun _ => rfl, fun h => absurd rfl h⟩
theorem OwAt.blk {w : World} {g c n : Nat} {sp : List Value} {t : TypeId} {fr : Nat × Nat} (hn : n = l.length) (hc : n ≤ c) (hb : blk w g = some (.cells (l.flatMap f ++ sp).toArray t fr)) : OwAt f w (.slice (some ⟨g, 0, none⟩) n c) l := by
  subst hn
  exact ⟨_, c, rfl, hc, (fun h => by cases h), fun _ => ⟨g, 0, _, t, fr, rfl, hb, fun j x hj => by
    rw [Nat.zero_add, List.getElem?_toArray, List.getElem?_append_left (List.getElem?_eq_some_iff.1 hj).1, hj]⟩⟩
theorem OwL.at {B : Nat} {H : World → List Blk → Prop} (hH : Own B H) {w : World} {L : List Blk} (h : OwL f sz t l v Lr) (hS : H w L) (hm : ∀ x ∈ Lr, x ∈ L) : OwAt f w v l := by
  rcases h with ⟨rfl, rfl, rfl⟩ | ⟨g, c, sp, rfl, h1, h2, h3, rfl⟩
  · exact OwAt.nil w
  · obtain ⟨i, hi⟩ := List.getElem?_of_mem (hm _ (List.mem_cons_self ..))
    exact OwAt.blk rfl h1 (hH.blk i hS hi)
theorem owl_len (hf : ∀ a ∈ l, (f a).length = sz) : (l.flatMap f).length = l.length * sz := by
  induction l with
  | nil => simp
  | cons a l ih =>
    rw [List.flatMap_cons, List.length_append, hf a (List.mem_cons_self ..), ih (fun b hb => hf b (List.mem_cons_of_mem _ hb)), List.length_cons, Nat.add_mul]
    omega
theorem owl_snoc (l : List α) (x : α) : (l ++ [x]).flatMap f = l.flatMap f ++ f x := by rw [List.flatMap_append, List.flatMap_singleton]
end
/-- One element more. -/
theorem s_appL {α : Type} {f : α → List Value} {sz bytes : Nat} {t e : TypeId} {l : List α} {x0 : α} {sv : Value} {Lr L : List Blk} {nb : Nat} {x y : Operand} {P : Program} {ops : Array Oper} {W : List Oper → Act → World → Prop} {o : Oper} {rest : List Oper} {a : Act} {w : World} {B : Nat} {H : World → List Blk → Prop}
    (hs : Stp P ops W) (hH : Own B H) (hS : H w ((nb, (f x0).toArray, e) :: (Lr ++ L))) (hR : OwL f sz e l sv Lr) (hw : Region.wanted o (yielded ops a.tmps) = true) (hop : o.op = .call { callee := .builtin .append, args := #[x, y], argTypes := #[t, t] }) (hx : evO a x = some sv) (hy : evO a y = some (.slice (some ⟨nb, 0, none⟩) 1 1)) (hT : SlT P t e sz bytes)
    (hf : ∀ a ∈ l, (f a).length = sz) (hfx : (f x0).length = sz) (hone : ∀ v ∈ f x0, v.oneCell' = true) (hm : l.length + 1 ≤ maxLen ∧ (l.length + 1) * bytes ≤ 140737488355328)
    (hk : ∀ sv' Lr' w', OwL f sz e (l ++ [x0]) sv' Lr' → H w' (Lr' ++ L) → W rest (a.put o.dst sv') w') : W (o :: rest) a w := by
  have hsrc : ∀ j v, (f x0)[j]? = some v → w.cell? ((⟨nb, 0, none⟩ : Addr).add j) = some v := src_blk (hH.blk 0 hS rfl) (fun j v h => by rw [Nat.zero_add]; exact h)
  rcases hR with ⟨rfl, rfl, rfl⟩ | ⟨g, c, sp, rfl, h1, h2, h3, rfl⟩
  · simp only [List.nil_append] at hS
    refine s_append0 hs hH hS hw hop hx hy hT (xs := f x0) hsrc (by rw [hfx, Nat.one_mul]) (by
      obtain ⟨q1, q2⟩ := hm
      simp only [List.length_nil, Nat.zero_add] at q1 q2
      exact ⟨by omega, q1, q2⟩) ?_
    intro by2 cy2 S2 w' hq1 hq2 hq3 hS2
    refine hk _ [(by2, (([] ++ [x0]).flatMap f ++ S2).toArray, e)] _ (.inr ⟨by2, cy2, S2, rfl, hq1, hq2, hq3, rfl⟩) ?_
    have hn := hH.nodup hS2
    rw [show f x0 = ([] ++ [x0]).flatMap f by rw [List.nil_append, List.flatMap_singleton]] at hS2
    simp only [List.map_cons, List.nodup_cons, List.mem_cons, not_or] at hn
    refine hH.sub (L' := (by2, (([] ++ [x0]).flatMap f ++ S2).toArray, e) :: L) hS2 (fun z hz => ?_) ?_
    · rcases List.mem_cons.1 hz with rfl | hz
      · exact List.mem_cons_self ..
      · exact List.mem_cons_of_mem _ (List.mem_cons_of_mem _ hz)
    · simp only [List.map_cons, List.nodup_cons]
      exact ⟨hn.1.2, hn.2.2⟩
  · simp only [List.cons_append, List.nil_append] at hS
    refine s_append hs hH hS hw hop hx hy hT (by exact at_ 1 rfl) (olds := l.flatMap f) (spare := sp) (by rfl) (owl_len hf) h1 h3 (xs := f x0) hsrc (by rw [hfx, Nat.one_mul]) hone ⟨hm.1, hm.2, h2⟩ rfl ?_
    intro by2 cy2 S2 w' hq1 hq2 hq3 hS2
    have e1 : l.length + 1 = (l ++ [x0]).length := by rw [List.length_append]; rfl
    refine hk _ [(by2, ((l ++ [x0]).flatMap f ++ S2).toArray, e)] _ (.inr ⟨by2, cy2, S2, by rw [e1], by rw [← e1]; exact hq1, hq2, by rw [← e1]; exact hq3, rfl⟩) ?_
    have hn := hH.nodup hS2
    rw [← owl_snoc] at hS2
    simp only [List.eraseIdx_cons_succ, List.eraseIdx_cons_zero, List.map_cons, List.nodup_cons, List.mem_cons, not_or] at hn
    refine hH.sub (L' := (by2, ((l ++ [x0]).flatMap f ++ S2).toArray, e) :: L) hS2 (fun z hz => ?_) ?_
    · rcases List.mem_cons.1 hz with rfl | hz
      · exact List.mem_cons_self ..
      · exact List.mem_cons_of_mem _ (List.mem_cons_of_mem _ hz)
    · simp only [List.map_cons, List.nodup_cons]
      exact ⟨hn.1.2, hn.2.2⟩
end Go.Proofs.Ytcjncidahjneaaa

namespace Go.Proofs.Ytcjncidahjneaaa
open Go.ChangeShapes Go.WideShapes Go.ChangeAt Go.RowKit
attribute [local irreducible] wpList wpListIn Oper.quietAt wpM
/-- How many numbers a first sector says, and which. -/
def saysR (C : List UInt8) : Nat := if numR C 8 ≤ 56 then numR C 8 else 0
theorem saysR_le (C : List UInt8) : saysR C ≤ 56 := by unfold saysR; split <;> omega
end Go.Proofs.Ytcjncidahjneaaa

namespace Go.Proofs.Ytcjncidahjneaaa
open Go.ChangeShapes Go.WideShapes Go.ChangeAt Go.RowKit
attribute [local irreducible] wpList wpListIn Oper.quietAt wpM
/-- The first sector, or none. -/
def firX (X : List UInt8) (n : Nat) : List UInt8 := if 0 < n then celX X 0 else zs 128
theorem firX_len {X : List UInt8} {n : Nat} (h : X.length = 128 * n) : (firX X n).length = 128 := by
  unfold firX
  split
  · exact celX_len h (by omega)
  · exact zs_len 128
set_option maxRecDepth 100000 in
set_option maxHeartbeats 2000000 in
theorem putsFn_any (X : List UInt8) (n : Nat) (v : Value) (w0 : World) (hv : CellsAt w0 v X n) :
    Calls Try.prog 26 #[v] w0 fun e w' => ∃ gm gc, e = .returned (.func (.func 45) #[] #[.pointer (some ⟨gm, 0, none⟩), .pointer (some ⟨gc, 0, none⟩)]) ∧ w0.heap.size ≤ gm ∧ w0.heap.size ≤ gc ∧ ¬ gm = gc ∧ blk w' gm = some (.cells #[.int .i64 (numR (firX X n) 8 : Int)] 3 (0, 0)) ∧ blk w' gc = some (.cells (bvs (firX X n)) 30 (0, 0)) ∧ Below w0.heap.size w0 w' := by
  have hlF := firX_len hv.1
  obtain ⟨hX, p, c, rfl, hc, hp0, hcell⟩ := hv
  have hS := St.start w0
  have sZ : csz (bvs (zs 128)) = 128 := by rw [Bg, zs_len]
  have l2 : (((firX X n).drop 8).take 2).length = 2 := by rw [List.length_take, List.length_drop]; omega
  have hbg := fun w b (hv : BytesAt w (.slice (some ⟨b, 8, none⟩) 2 120) (((firX X n).drop 8).take 2)) => big_quiet _ (((firX X n).drop 8).take 2) w hv (by omega)
  have hN : beN (((firX X n).drop 8).take 2) = numR (firX X n) 8 := rfl
  have hlt := numR_lt (firX X n) 8
  obtain ⟨N, hN2⟩ : ∃ N, numR (firX X n) 8 = N := ⟨_, rfl⟩
  rw [hN] at hbg
  rw [hN2] at hbg hlt ⊢
  have hbF : ∀ w b, blk w b = some (.cells (bvs (firX X n)) 30 (0, 0)) → BytesAt w (.slice (some ⟨b, 8, none⟩) 2 120) (((firX X n).drop 8).take 2) := fun w b h => bytesAt_bvs h (by omega) (by omega)
  by_cases h0 : 0 < n
  · obtain ⟨b0, o, cs, ty, fr, rfl, hb, hcc⟩ := hcell h0
    obtain ⟨c1, c2, c3⟩ := celX_cut hX h0 hcc
    have hF : firX X n = celX X 0 := if_pos h0
    rw [Nat.zero_mul, Nat.add_zero] at c1 c2
    rw [← hF] at c2
    obtain ⟨F, hFF⟩ : ∃ F, firX X n = F := ⟨_, rfl⟩
    rw [hFF] at c2 hbg hbF hlF ⊢
    have sF : csz (bvs F) = 128 := by rw [Bg, hlF]
    clear hFF hF hN hN2 l2 c3
    go_enter Try.func26, Try.ntmps26
    repeat' (first | ((with_reducible refine Ac ?_); first | ((first | refine Ai Aa ?_ | refine Al Aa ?_ | refine Af Aa ?_ | refine Ba Aa Ab hS ?_ (hv := by first | exact Bo _ _ (by (try simp only [Bn, Bg, Bm, List.length_append, List.length_set, zs_len, List.length_take, List.length_drop, List.length_cons, List.length_nil]); first | done | rfl | omega) | (exact c2) | rfl) | refine Da Aa (by first | exact ((hS).far hb).1) ?_ (hv := by first | exact Bo _ _ (by (try simp only [Bn, Bg, Bm, List.length_append, List.length_set, zs_len, List.length_take, List.length_drop, List.length_cons, List.length_nil]); first | done | rfl | omega) | (exact c2) | rfl) | refine Ag Aa ?_ | refine Ae Aa ?_ | refine Be Aa ?_ | refine Ak Aa ?_ | refine Aj Aa ?_ | refine Aw Aa (fun hc => ?_) (fun hc => ?_) | refine Dj Aa ?_ | refine Bq Aa ?_ | refine Bh Aa ?_ | refine Bc Aa ?_ | refine Au Aa ?_) <;> refine Ad ?_) | ((first | refine Ay Aa Ab hS ?_); clear hS; intro b w hS; refine Ad ?_) | ((first | refine Br Aa Ab hS ?_ | refine Ap Aa Ab hS ?_ | refine Aq Aa Ab hS ?_); clear hS; intro w hS; refine Ad ?_)) | ((fail_if_success (with_reducible refine Ac ?_)); first | go_step | go_step3 | rw [Exit.noGoto_normal] | rw [Exit.noGoto_ret] | rw [Exit.noGoto_exit]))
    repeat' (first | ((with_reducible refine Ac ?_); first | ((first | refine Ai Aa ?_ | refine Al Aa ?_ | refine Af Aa ?_ | refine Ba Aa Ab hS ?_ | refine Ag Aa ?_ | refine Ae Aa ?_ | refine Be Aa ?_ | refine Ak Aa ?_ | refine Aj Aa ?_ | refine Aw Aa (fun hc => ?_) (fun hc => ?_) | refine Dj Aa ?_ | refine Bq Aa ?_ | refine Bh Aa ?_ | refine Bc Aa ?_ | refine Au Aa ?_) <;> refine Ad ?_) | ((first | refine Ay Aa Ab hS ?_); clear hS; intro b w hS; refine Ad ?_) | ((first | refine Br Aa Ab hS ?_ | refine Ap Aa Ab hS ?_ | refine Aq Aa Ab hS ?_); clear hS; intro w hS; refine Ad ?_) | (refine Ce Aa Ab hS (hbg _ _ (hbF _ _ (hS.blk 0 rfl))) ?_; clear hS; intro w hS; refine Ad ?_) | (refine Stp.go Aa (by rfl) (by rfl) (r_convR (by rfl) (by rfl) (by infer_instance) (by infer_instance) (wrap_small2 hlt)) ?_; refine Ad ?_)) | ((fail_if_success (with_reducible refine Ac ?_)); first | go_step | go_step3 | rw [Exit.noGoto_normal] | rw [Exit.noGoto_ret] | rw [Exit.noGoto_exit]))
    go_ret
    exact ⟨_, _, rfl, hS.low 0 rfl, hS.low 1 rfl, hS.ne 0 1 rfl rfl (by decide), hS.blk 0 rfl, hS.blk 1 rfl, hS.below⟩
  · have hF : firX X n = zs 128 := if_neg h0
    rw [hF] at hbg hbF ⊢
    obtain rfl : n = 0 := by omega
    clear hF hN hN2 l2
    go_enter Try.func26, Try.ntmps26
    repeat' (first | ((with_reducible refine Ac ?_); first | ((first | refine Ai Aa ?_ | refine Al Aa ?_ | refine Af Aa ?_ | refine Ba Aa Ab hS ?_ | refine Ag Aa ?_ | refine Ae Aa ?_ | refine Be Aa ?_ | refine Ak Aa ?_ | refine Aj Aa ?_ | refine Aw Aa (fun hc => ?_) (fun hc => ?_) | refine Dj Aa ?_ | refine Bq Aa ?_ | refine Bh Aa ?_ | refine Bc Aa ?_ | refine Au Aa ?_) <;> refine Ad ?_) | ((first | refine Ay Aa Ab hS ?_); clear hS; intro b w hS; refine Ad ?_) | ((first | refine Br Aa Ab hS ?_ | refine Ap Aa Ab hS ?_ | refine Aq Aa Ab hS ?_); clear hS; intro w hS; refine Ad ?_) | (refine Ce Aa Ab hS (hbg _ _ (hbF _ _ (hS.blk 0 rfl))) ?_; clear hS; intro w hS; refine Ad ?_) | (refine Stp.go Aa (by rfl) (by rfl) (r_convR (by rfl) (by rfl) (by infer_instance) (by infer_instance) (wrap_small2 hlt)) ?_; refine Ad ?_)) | ((fail_if_success (with_reducible refine Ac ?_)); first | go_step | go_step3 | rw [Exit.noGoto_normal] | rw [Exit.noGoto_ret] | rw [Exit.noGoto_exit]))
    go_ret
    exact ⟨_, _, rfl, hS.low 0 rfl, hS.low 1 rfl, hS.ne 0 1 rfl rfl (by decide), hS.blk 0 rfl, hS.blk 1 rfl, hS.below⟩
set_option maxRecDepth 100000 in
set_option maxHeartbeats 8000000 in
theorem puts1_iter (C : List UInt8) (hC : C.length = 128) (gm gc : Nat) (W0 : World) (hgm : blk W0 gm = some (.cells #[.int .i64 (numR C 8 : Int)] 3 (0, 0))) (hgc : blk W0 gc = some (.cells (bvs C) 30 (0, 0))) :
    IterAt Try.prog 45 #[.pointer (some ⟨gm, 0, none⟩), .pointer (some ⟨gc, 0, none⟩)] (fun k => #[.int .i64 (k : Int), .int .i64 (numR C (10 + 2 * k) : Int)]) (some (saysR C)) [gm, gc] W0 := by
  intro lb J Jx M W L0 hbW hR hM hJ0 hH' hY
  have hmW : blk W gm = some (.cells #[.int .i64 (numR C 8 : Int)] 3 (0, 0)) := (hbW.block gm (blk_lt hgm)).trans hgm
  have hcW : blk W gc = some (.cells (bvs C) 30 (0, 0)) := (hbW.block gc (blk_lt hgc)).trans hgc
  have hgn : gm ∉ L0.map (·.1) := hR gm (List.mem_cons_self ..)
  have hgn2 : gc ∉ L0.map (·.1) := hR gc (List.mem_cons_of_mem _ (List.mem_cons_self ..))
  have sC : csz (bvs C) = 128 := by rw [Bg, hC]
  have hle := saysR_le C
  have hsr : saysR C = if numR C 8 ≤ 56 then numR C 8 else 0 := rfl
  have hlt2 := numR_lt C 8
  have hnb : ∀ k : Nat, k ≤ 56 → ∀ w, Calls Try.prog 46 #[.agg (bvs C), .int .i64 (8 + 2 * ((k : Int) + 1))] w fun e w' => e = .returned (.int .i64 (numR C (10 + 2 * k) : Int)) ∧ Below w.heap.size w w' := fun k hk w => by
    have := number_any C hC (10 + 2 * k) (by omega) w
    rwa [show ((10 + 2 * k : Nat) : Int) = 8 + 2 * ((k : Int) + 1) by omega] at this
  obtain ⟨q, hq⟩ : ∃ q, saysR C = q := ⟨_, rfl⟩
  obtain ⟨m, hm⟩ : ∃ m, numR C 8 = m := ⟨_, rfl⟩
  rw [hq] at hle hsr hY ⊢
  rw [hm] at hsr hmW hlt2
  clear hq hm hgm hgc hbW hR
  refine (callsIn_wide (n := 1)).1 ?_
  refine callsIn_of_wp Try.func45 rfl trivial ?_ rfl
  simp only [Try.ntmps45, List.size_toArray, List.length_cons, List.length_nil, Nat.reduceAdd, Nat.reduceSub, Array.replicate_succ, Array.replicate_zero, List.push_toArray, List.append_toArray, List.nil_append, List.cons_append]
  have hS := St.start W
  repeat' (first | ((with_reducible refine cons_in ?_); first | ((first | refine Ai Ah ?_ | refine Al Ah ?_ | refine Af Ah ?_ | refine Av Ah Ab hS ?_ | refine Bs Ah (by first | exact ((hS).far hmW).1) ?_ | refine Bs Ah (by first | exact ((hS).far hcW).1) ?_ | refine Ba Ah Ab hS ?_ | refine Da Ah (by first | exact ((hS).far hmW).1) ?_ | refine Da Ah (by first | exact ((hS).far hcW).1) ?_ | refine Ag Ah ?_ | refine Ae Ah ?_ | refine Be Ah ?_ | refine g_cap Ah ?_ | refine Bl Ah ?_ | refine Bd Ah ?_ | refine Cj Ah ?_ | refine Ca Ah ?_ | refine Cz Ah ?_ | refine Cq Ah ?_ | refine Ak Ah ?_ | refine Aj Ah ?_ | refine Aw Ah (fun hc => ?_) (fun hc => ?_) | refine Cg Ah ?_ | refine Bz Ah ?_ | refine Ck Ah ?_ | refine Cd Ah ?_ | refine Az Ah ?_ | refine g_field1 Ah ?_ | refine g_fieldR Ah ?_ | refine Bx Ah ?_ | refine Bu Ah ?_ | refine Ax Ah ?_ | refine Dj Ah ?_ | refine Bq Ah ?_ | refine Bk Ah ?_ | refine Bw Ah ?_ | refine Bh Ah ?_ | refine Bc Ah ?_ | refine Au Ah ?_ | refine g_nilCheck Ah ?_ | refine Cp Ah ?_ | refine Ar Ah ?_) <;> refine Ad ?_) | ((first | refine Ay Ah Ab hS ?_ | refine Cu Ah Ab hS ?_ | refine Ao Ah Ab hS ?_ | refine As Ah Ab hS ?_ | refine g_make Ah Ab hS ?_); clear hS; intro b w hS; refine Ad ?_) | ((first | refine Br Ah Ab hS ?_ | refine Ap Ah Ab hS ?_ | refine Aq Ah Ab hS ?_); clear hS; intro w hS; refine Ad ?_)) | ((fail_if_success (with_reducible refine cons_in ?_)); first | gi_step | (with_reducible refine wpIn_scope_wide ?_) | (with_reducible refine wpIn_label ?_) | rw [Exit.noGoto_normal] | rw [Exit.noGoto_ret] | rw [Exit.noGoto_exit]))
  gi_loopg [4] q (fun r u4 wr => ∃ k L, r + k = q ∧ u4 = .int .i64 (k : Int) ∧ J k L ∧ Rd L0 W L wr)
  case atStart => exact ⟨0, L0, by omega, rfl, hJ0, .call hH' hS.below⟩
  case round =>
    obtain ⟨k, L, hk, rfl, hJ, hRd⟩ := hrel
    have hmr : blk wr gm = some (.cells #[.int .i64 (m : Int)] 3 (0, 0)) := (hRd.farCells hmW hgn).1
    have hcr : blk wr gc = some (.cells (bvs C) 30 (0, 0)) := (hRd.farCells hcW hgn2).1
    replace hS := St.start wr
    by_cases hlt : k < q
    · have h56 : m ≤ 56 := by
        rcases Nat.lt_or_ge 56 m with h | h
        · rw [if_neg (by omega)] at hsr; omega
        · exact h
      rw [if_pos h56] at hsr
      subst hsr
      have hnk := hnb k (by omega)
      have hyk := fun W => hY k L W hJ
      dsimp only at hyk
      obtain ⟨N, hN⟩ : ∃ N, numR C (10 + 2 * k) = N := ⟨_, rfl⟩
      rw [hN] at hnk hyk
      repeat' (first | ((with_reducible refine cons_in ?_); first | ((first | refine Ai Ah ?_ | refine Al Ah ?_ | refine Af Ah ?_ | refine Av Ah Ab hS ?_ | refine Bs Ah (by first | exact ((hS).far hmr).1) ?_ | refine Bs Ah (by first | exact ((hS).far hcr).1) ?_ | refine Ba Ah Ab hS ?_ | refine Da Ah (by first | exact ((hS).far hmr).1) ?_ | refine Da Ah (by first | exact ((hS).far hcr).1) ?_ | refine Ag Ah ?_ | refine Ae Ah ?_ | refine Be Ah ?_ | refine g_cap Ah ?_ | refine Bl Ah ?_ | refine Bd Ah ?_ | refine Cj Ah ?_ | refine Ca Ah ?_ | refine Cz Ah ?_ | refine Cq Ah ?_ | refine Ak Ah ?_ | refine Aj Ah ?_ | refine Aw Ah (fun hc => ?_) (fun hc => ?_) | refine Cg Ah ?_ | refine Bz Ah ?_ | refine Ck Ah ?_ | refine Cd Ah ?_ | refine Az Ah ?_ | refine g_field1 Ah ?_ | refine g_fieldR Ah ?_ | refine Bx Ah ?_ | refine Bu Ah ?_ | refine Ax Ah ?_ | refine Dj Ah ?_ | refine Bq Ah ?_ | refine Bk Ah ?_ | refine Bw Ah ?_ | refine Bh Ah ?_ | refine Bc Ah ?_ | refine Au Ah ?_ | refine g_nilCheck Ah ?_ | refine Cp Ah ?_ | refine Ar Ah ?_) <;> refine Ad ?_) | ((first | refine Ay Ah Ab hS ?_ | refine Cu Ah Ab hS ?_ | refine Ao Ah Ab hS ?_ | refine As Ah Ab hS ?_ | refine g_make Ah Ab hS ?_); clear hS; intro b w hS; refine Ad ?_) | ((first | refine Br Ah Ab hS ?_ | refine Ap Ah Ab hS ?_ | refine Aq Ah Ab hS ?_); clear hS; intro w hS; refine Ad ?_) | (refine Ce Ah Ab hS (hnk _) ?_; clear hS; intro w hS; refine Ad ?_)) | ((fail_if_success (with_reducible refine cons_in ?_)); first | gi_step | (with_reducible refine wpIn_scope_wide ?_) | (with_reducible refine wpIn_label ?_) | rw [Exit.noGoto_normal] | rw [Exit.noGoto_ret] | rw [Exit.noGoto_exit]))
      have hRd1 : Rd L0 W L _ := hRd.trans (.call hRd.holds hS.below)
      (refine s_yield (by rfl) (by rfl) (by rfl) (by rfl) (by rfl) (by simpa using hyk _ hRd1 (fun n h => by cases h; omega)) ?_)
      rintro e W3 ⟨L2, hRd2, (⟨rfl, hJ2⟩ | ⟨rfl, hx⟩)⟩
      · refine ⟨_, rfl, ?_⟩
        refine Ad ?_
        have hRd3 := hRd1.trans hRd2
        replace hS := St.start W3
        repeat' (first | ((with_reducible refine cons_in ?_); first | ((first | refine Ai Ah ?_ | refine Al Ah ?_ | refine Af Ah ?_ | refine Av Ah Ab hS ?_ | refine Ba Ah Ab hS ?_ | refine Ag Ah ?_ | refine Ae Ah ?_ | refine Be Ah ?_ | refine g_cap Ah ?_ | refine Bl Ah ?_ | refine Bd Ah ?_ | refine Cj Ah ?_ | refine Ca Ah ?_ | refine Cz Ah ?_ | refine Cq Ah ?_ | refine Ak Ah ?_ | refine Aj Ah ?_ | refine Aw Ah (fun hc => ?_) (fun hc => ?_) | refine Cg Ah ?_ | refine Bz Ah ?_ | refine Ck Ah ?_ | refine Cd Ah ?_ | refine Az Ah ?_ | refine g_field1 Ah ?_ | refine g_fieldR Ah ?_ | refine Bx Ah ?_ | refine Bu Ah ?_ | refine Ax Ah ?_ | refine Dj Ah ?_ | refine Bq Ah ?_ | refine Bk Ah ?_ | refine Bw Ah ?_ | refine Bh Ah ?_ | refine Bc Ah ?_ | refine Au Ah ?_ | refine g_nilCheck Ah ?_ | refine Cp Ah ?_ | refine Ar Ah ?_) <;> refine Ad ?_) | ((first | refine Ay Ah Ab hS ?_ | refine Cu Ah Ab hS ?_ | refine Ao Ah Ab hS ?_ | refine As Ah Ab hS ?_ | refine g_make Ah Ab hS ?_); clear hS; intro b w hS; refine Ad ?_) | ((first | refine Br Ah Ab hS ?_ | refine Ap Ah Ab hS ?_ | refine Aq Ah Ab hS ?_); clear hS; intro w hS; refine Ad ?_)) | ((fail_if_success (with_reducible refine cons_in ?_)); first | gi_step | (with_reducible refine wpIn_scope_wide ?_) | (with_reducible refine wpIn_label ?_) | rw [Exit.noGoto_normal] | rw [Exit.noGoto_ret] | rw [Exit.noGoto_exit]))
        gi_roundg (gk - 1)
        case rel => exact ⟨k + 1, L2, by omega, by push_cast; rfl, hJ2, hRd3⟩
        case measure => omega
      · refine ⟨_, rfl, ?_⟩
        refine Ad ?_
        have hRd3 := hRd1.trans hRd2
        replace hS := St.start W3
        repeat' (first | ((with_reducible refine cons_in ?_); first | ((first | refine Ai Ah ?_ | refine Al Ah ?_ | refine Af Ah ?_ | refine Av Ah Ab hS ?_ | refine Ba Ah Ab hS ?_ | refine Ag Ah ?_ | refine Ae Ah ?_ | refine Be Ah ?_ | refine g_cap Ah ?_ | refine Bl Ah ?_ | refine Bd Ah ?_ | refine Cj Ah ?_ | refine Ca Ah ?_ | refine Cz Ah ?_ | refine Cq Ah ?_ | refine Ak Ah ?_ | refine Aj Ah ?_ | refine Aw Ah (fun hc => ?_) (fun hc => ?_) | refine Cg Ah ?_ | refine Bz Ah ?_ | refine Ck Ah ?_ | refine Cd Ah ?_ | refine Az Ah ?_ | refine g_field1 Ah ?_ | refine g_fieldR Ah ?_ | refine Bx Ah ?_ | refine Bu Ah ?_ | refine Ax Ah ?_ | refine Dj Ah ?_ | refine Bq Ah ?_ | refine Bk Ah ?_ | refine Bw Ah ?_ | refine Bh Ah ?_ | refine Bc Ah ?_ | refine Au Ah ?_ | refine g_nilCheck Ah ?_ | refine Cp Ah ?_ | refine Ar Ah ?_) <;> refine Ad ?_) | ((first | refine Ay Ah Ab hS ?_ | refine Cu Ah Ab hS ?_ | refine Ao Ah Ab hS ?_ | refine As Ah Ab hS ?_ | refine g_make Ah Ab hS ?_); clear hS; intro b w hS; refine Ad ?_) | ((first | refine Br Ah Ab hS ?_ | refine Ap Ah Ab hS ?_ | refine Aq Ah Ab hS ?_); clear hS; intro w hS; refine Ad ?_)) | ((fail_if_success (with_reducible refine cons_in ?_)); first | gi_step | (with_reducible refine wpIn_scope_wide ?_) | (with_reducible refine wpIn_label ?_) | rw [Exit.noGoto_normal] | rw [Exit.noGoto_ret] | rw [Exit.noGoto_exit]))
        refine bodyPost_end (results_none rfl _ _ _) rfl ?_
        exact ⟨⟨_, rfl⟩, L2, hRd3, .inr hx⟩
    · obtain rfl : k = q := by omega
      by_cases h56 : m ≤ 56
      · rw [if_pos h56] at hsr
        subst hsr
        repeat' (first | ((with_reducible refine cons_in ?_); first | ((first | refine Ai Ah ?_ | refine Al Ah ?_ | refine Af Ah ?_ | refine Av Ah Ab hS ?_ | refine Bs Ah (by first | exact ((hS).far hmr).1) ?_ | refine Bs Ah (by first | exact ((hS).far hcr).1) ?_ | refine Ba Ah Ab hS ?_ | refine Da Ah (by first | exact ((hS).far hmr).1) ?_ | refine Da Ah (by first | exact ((hS).far hcr).1) ?_ | refine Ag Ah ?_ | refine Ae Ah ?_ | refine Be Ah ?_ | refine g_cap Ah ?_ | refine Bl Ah ?_ | refine Bd Ah ?_ | refine Cj Ah ?_ | refine Ca Ah ?_ | refine Cz Ah ?_ | refine Cq Ah ?_ | refine Ak Ah ?_ | refine Aj Ah ?_ | refine Aw Ah (fun hc => ?_) (fun hc => ?_) | refine Cg Ah ?_ | refine Bz Ah ?_ | refine Ck Ah ?_ | refine Cd Ah ?_ | refine Az Ah ?_ | refine g_field1 Ah ?_ | refine g_fieldR Ah ?_ | refine Bx Ah ?_ | refine Bu Ah ?_ | refine Ax Ah ?_ | refine Dj Ah ?_ | refine Bq Ah ?_ | refine Bk Ah ?_ | refine Bw Ah ?_ | refine Bh Ah ?_ | refine Bc Ah ?_ | refine Au Ah ?_ | refine g_nilCheck Ah ?_ | refine Cp Ah ?_ | refine Ar Ah ?_) <;> refine Ad ?_) | ((first | refine Ay Ah Ab hS ?_ | refine Cu Ah Ab hS ?_ | refine Ao Ah Ab hS ?_ | refine As Ah Ab hS ?_ | refine g_make Ah Ab hS ?_); clear hS; intro b w hS; refine Ad ?_) | ((first | refine Br Ah Ab hS ?_ | refine Ap Ah Ab hS ?_ | refine Aq Ah Ab hS ?_); clear hS; intro w hS; refine Ad ?_)) | ((fail_if_success (with_reducible refine cons_in ?_)); first | gi_step | (with_reducible refine wpIn_scope_wide ?_) | (with_reducible refine wpIn_label ?_) | rw [Exit.noGoto_normal] | rw [Exit.noGoto_ret] | rw [Exit.noGoto_exit]))
        refine bodyPost_end (results_none rfl _ _ _) rfl ?_
        exact ⟨⟨_, rfl⟩, L, hRd.trans (.call hRd.holds hS.below), .inl ⟨_, rfl, hJ⟩⟩
      · rw [if_neg h56] at hsr
        subst hsr
        by_cases h00 : (0 : Int) < (m : Int)
        · repeat' (first | ((with_reducible refine cons_in ?_); first | ((first | refine Ai Ah ?_ | refine Al Ah ?_ | refine Af Ah ?_ | refine Av Ah Ab hS ?_ | refine Bs Ah (by first | exact ((hS).far hmr).1) ?_ | refine Bs Ah (by first | exact ((hS).far hcr).1) ?_ | refine Ba Ah Ab hS ?_ | refine Da Ah (by first | exact ((hS).far hmr).1) ?_ | refine Da Ah (by first | exact ((hS).far hcr).1) ?_ | refine Ag Ah ?_ | refine Ae Ah ?_ | refine Be Ah ?_ | refine g_cap Ah ?_ | refine Bl Ah ?_ | refine Bd Ah ?_ | refine Cj Ah ?_ | refine Ca Ah ?_ | refine Cz Ah ?_ | refine Cq Ah ?_ | refine Ak Ah ?_ | refine Aj Ah ?_ | refine Aw Ah (fun hc => ?_) (fun hc => ?_) | refine Cg Ah ?_ | refine Bz Ah ?_ | refine Ck Ah ?_ | refine Cd Ah ?_ | refine Az Ah ?_ | refine g_field1 Ah ?_ | refine g_fieldR Ah ?_ | refine Bx Ah ?_ | refine Bu Ah ?_ | refine Ax Ah ?_ | refine Dj Ah ?_ | refine Bq Ah ?_ | refine Bk Ah ?_ | refine Bw Ah ?_ | refine Bh Ah ?_ | refine Bc Ah ?_ | refine Au Ah ?_ | refine g_nilCheck Ah ?_ | refine Cp Ah ?_ | refine Ar Ah ?_) <;> refine Ad ?_) | ((first | refine Ay Ah Ab hS ?_ | refine Cu Ah Ab hS ?_ | refine Ao Ah Ab hS ?_ | refine As Ah Ab hS ?_ | refine g_make Ah Ab hS ?_); clear hS; intro b w hS; refine Ad ?_) | ((first | refine Br Ah Ab hS ?_ | refine Ap Ah Ab hS ?_ | refine Aq Ah Ab hS ?_); clear hS; intro w hS; refine Ad ?_)) | ((fail_if_success (with_reducible refine cons_in ?_)); first | gi_step | (with_reducible refine wpIn_scope_wide ?_) | (with_reducible refine wpIn_label ?_) | rw [Exit.noGoto_normal] | rw [Exit.noGoto_ret] | rw [Exit.noGoto_exit]))
          refine bodyPost_end (results_none rfl _ _ _) rfl ?_
          exact ⟨⟨_, rfl⟩, L, hRd.trans (.call hRd.holds hS.below), .inl ⟨_, rfl, hJ⟩⟩
        · omega
end Go.Proofs.Ytcjncidahjneaaa
