/-
  Laws that the claims of this seat use, of several texts in one: PermR, RdE. No condition of their own.
-/
import Derived.Test.YtcjncidahjneaaaJL0

namespace Go.Proofs.Ytcjncidahjneaaa
open Go.RowKit
section
variable {P : Program} {md : Region.Mode} {Q : Exit → Act → World → Prop} {s : List Nat} {l : List Oper} {lp : Nat}
theorem permR_wp (o : Oper) (a : Act) (w : World) (K : Act → World → Prop) : Oper.wpIn (Fence.wide.inRound lp) 0 P (reO s o) a w K Q ↔ Oper.wpIn (Fence.wide.inRound lp) 0 P o a w K Q := Iff.rfl
theorem any_permR (h : permOK s l = true) : ∀ (fuel : Nat) (x y : Array Bool) (a : Act) (w : World), x.size = l.length → y.size = l.length → (∀ i, i < l.length → y.getD (posL s i) true = x.getD i true) →
    wpAnyIn (Fence.wide.inRound lp) 0 P md (permL s l).toArray Q fuel y a w → wpAnyIn (Fence.wide.inRound lp) 0 P md l.toArray Q fuel x a w := by
  intro fuel
  have hnil : ∀ (x y : Array Bool), x.size = l.length → y.size = l.length → (∀ i, i < l.length → y.getD (posL s i) true = x.getD i true) → (Region.ready md (permL s l).toArray y = [] ↔ Region.ready md l.toArray x = []) := by
    intro x y hx hy hxy
    constructor
    · intro h0
      refine List.eq_nil_iff_forall_not_mem.2 fun i hi => ?_
      obtain ⟨_, o, ho, _⟩ := mem_ready.1 hi
      have hil : i < l.length := by simpa using (Array.getElem?_eq_some_iff.1 ho).1
      have := (perm_ready (md := md) h hx hy hxy hil).2 hi
      rw [h0] at this; cases this
    · intro h0
      refine List.eq_nil_iff_forall_not_mem.2 fun k hk => ?_
      obtain ⟨_, o, ho, _⟩ := mem_ready.1 hk
      have hkl : k < l.length := by have := (Array.getElem?_eq_some_iff.1 ho).1; rw [List.size_toArray, perm_len h] at this; exact this
      obtain ⟨i, hi, hil, rfl⟩ := perm_2 h hkl
      have := (perm_ready (md := md) h hx hy hxy hil).1 hk
      rw [h0] at this; cases this
  induction fuel with
  | zero =>
    intro x y a w hx hy hxy hA
    exact ⟨(hnil x y hx hy hxy).1 hA.1, hA.2⟩
  | succ fuel ih =>
    intro x y a w hx hy hxy hA
    refine ⟨fun h0 => hA.1 ((hnil x y hx hy hxy).2 h0), fun i hi => ?_⟩
    obtain ⟨_, o, ho, _⟩ := mem_ready.1 hi
    have hil : i < l.length := by simpa using (Array.getElem?_eq_some_iff.1 ho).1
    have ho2 : l[i]? = some o := by simpa using ho
    have h1 := hA.2 (posL s i) ((perm_ready (md := md) h hx hy hxy hil).2 hi)
    have hp := perm_at h ho2
    have hK : ∀ a' w', wpAnyIn (Fence.wide.inRound lp) 0 P md (permL s l).toArray Q fuel (y.setIfInBounds (posL s i) true) a' w' → wpAnyIn (Fence.wide.inRound lp) 0 P md l.toArray Q fuel (x.setIfInBounds i true) a' w' := fun a' w' hh => by
      refine ih _ _ a' w' (by simpa using hx) (by simpa using hy) (fun j hj => ?_) hh
      have hj1 := perm_1 h hj
      have hi1 := perm_1 h hil
      by_cases hji : j = i
      · subst hji
        simp [Array.getD, hx, hy, hj, hj1.1]
      · have hne : posL s i ≠ posL s j := fun e => hji (by
          have := hj1.2
          rw [← e, hi1.2] at this
          exact (Option.some.inj this).symm)
        rw [getD_set_ne true hne, getD_set_ne true (Ne.symm hji)]
        exact hxy j hj
    unfold wpOpIn at h1 ⊢
    rw [List.getElem?_toArray, hp] at h1
    rw [List.getElem?_toArray, ho2]
    simp only at h1 ⊢
    rw [perm_wanted h ho2] at h1
    split
    · next hw =>
      rw [if_pos hw] at h1
      exact Oper.wpIn_mono hK ((permR_wp o a w _).1 h1)
    · next hw =>
      rw [if_neg hw] at h1
      exact ⟨h1.1, hK _ _ h1.2⟩
theorem any_monoR {n : Nat} {a : Act} {w : World} (hB : frontOK md (l.take n) (l.drop n) = true) (hND : noDefer (l.take n) = true)
    (h : wpM P md l.toArray w (fun a' F => ∀ b w', Cls w w' → (∀ x ∈ F, w.heap.size ≤ b x.1 ∧ blk w' (b x.1) = some (.cells x.2.1 x.2.2 (0, 0))) → (∀ x ∈ F, ∀ y ∈ F, x.1 ≠ y.1 → b x.1 ≠ b y.1) → wpListIn (Fence.wide.inRound lp) 0 P l.toArray Q (l.drop n) (a' b) w') (l.take n) 0 (fun _ => a) []) :
    wpAnyIn (Fence.wide.inRound lp) 0 P md l.toArray Q l.length (Array.replicate l.length false) a { w with drawn := w.drawn + 1 } := by
  have hh : l.take n ++ l.drop n = l := List.take_append_drop n l
  generalize l.take n = A at *
  generalize l.drop n = T at *
  subst hh
  obtain ⟨L, hL, hstep, hQ⟩ := wpM_out A 0 _ [] h
  have hc : Cls w { w with drawn := w.drawn + 1 } := ⟨rfl, rfl, rfl, Nat.le_refl _, fun _ _ => rfl⟩
  refine any_frontR hB hND hL hstep (fun b w' hN => hQ b w' hN.1 (fun x hx => ?_) (fun x hx y hy hne => ?_)) _ _ (fun _ => 0) a _ (by simp) (fun j o _ hl => by simp only [Array.getD] at hl; split at hl <;> simp at hl) (fun j _ hj => by simp only [List.length_append] at hj; simp [Array.getD]; omega) ?_ ?_ ?_
  · rcases mem_factsT _ _ _ hx with h1 | ⟨k, o, mk, hk, he⟩
    · cases h1
    · have : x.1 = k := by omega
      rw [this]
      exact hN.2.1 k o mk _ _ hk rfl
  · rcases mem_factsT _ _ _ hx with h1 | ⟨k, o, mk, hk, he⟩
    · cases h1
    rcases mem_factsT _ _ _ hy with h1 | ⟨k', o', mk', hk', he'⟩
    · cases h1
    have e1 : x.1 = k := by omega
    have e2 : y.1 = k' := by omega
    rw [e1, e2] at hne ⊢
    exact hN.2.2 k k' _ _ _ _ _ _ _ _ hk hk' rfl rfl hne
  · unfold left
    exact Nat.le_trans List.countP_le_length (by simp)
  · refine (Sees.start L a (fun _ => 0)).congr (fun j _ => ?_) (fun _ _ _ => rfl)
    simp only [Array.getD]
    split <;> simp
  · refine ⟨hc, fun j o mk cs t hj hl => ?_, fun i j x y mx cx tx my cy ty hi hj h1 _ => ?_⟩
    · simp only [Array.getD] at hl
      split at hl <;> simp at hl
    · simp only [Array.getD] at h1
      split at h1 <;> simp at h1
/-- **The region, one walk in an order of one's own** (s: for each place the number of the operation that stands there): the first n in front, the others behind them. -/
theorem region_permR_lit {id : Nat} {a : Act} {w : World} (s : List Nat) (n : Nat) {l2 : List Oper} (hm : P.follows .mixedOrders = true) (hs : permOK s l = true) (hl : permL s l = l2) (hB : frontOK .any (l2.take n) (l2.drop n) = true) (hND : noDefer (l2.take n) = true)
    (h : wpM P .any l2.toArray w (fun a' F => ∀ b w', Cls w w' → (∀ x ∈ F, w.heap.size ≤ b x.1 ∧ blk w' (b x.1) = some (.cells x.2.1 x.2.2 (0, 0))) → (∀ x ∈ F, ∀ y ∈ F, x.1 ≠ y.1 → b x.1 ≠ b y.1) → wpListIn (Fence.wide.inRound lp) 0 P l2.toArray Q (l2.drop n) (a' b) w') (l2.take n) 0 (fun _ => a) []) :
    (Code.region id l.toArray true).wpIn (Fence.wide.inRound lp) 0 P Q a w := by
  subst hl
  have h1 := any_monoR hB hND h
  rw [perm_len hs] at h1
  refine wpIn_region_any hm ?_
  refine any_permR hs _ _ _ a _ (by simp) (by simp) (fun i hi => ?_) h1
  have := (perm_1 hs hi).1
  simp [Array.getD, hi, this]
theorem wpM_allocZ {ops : Array Oper} {W : World} {Q : ((Nat → Nat) → Act) → List Fact → Prop} {o : Oper} {rest : List Oper} {i : Nat} {a : (Nat → Nat) → Act} {F : List Fact} {t : TypeId} {cs : Array Value} (ho : o.op = .alloc t) (hz : ZeroT P t cs) (hw : ∀ b, Region.wanted o (yielded ops (a b).tmps) = true)
    (h : wpM P md ops W Q rest (i + 1) (fun b => (a b).put o.dst (.pointer (some ⟨b i, 0, none⟩))) ((i, cs, t) :: F)) : wpM P md ops W Q (o :: rest) i a F :=
  Cw ho hw cs (fun w => by
    obtain ⟨z, h1, h2⟩ := run_zero (w := w) hz.is
    unfold execOp
    simp only [Instr.alloc, Sem.run_bind, h1, Result.andThen_ok, newVar, newRow, h2]
    rfl) h
end
end Go.Proofs.Ytcjncidahjneaaa

namespace Go.Proofs.Ytcjncidahjneaaa
open Go.ChangeShapes Go.WideShapes Go.ChangeAt Go.RowKit
attribute [local irreducible] wpList wpListIn Oper.quietAt wpM
theorem StD.cls {w0 w w' : World} {D : Nat} {L : List Blk} (h : StD w0 D w L) (hc : Cls w w') : StD w0 D w' L := own_stD.call h hc
theorem Own.perm {B : Nat} {H : World → List Blk → Prop} (hH : Own B H) {w : World} {L L' : List Blk} (h : H w L) (hp : L.Perm L') : H w L' := hH.sub h (fun _ hx => hp.mem_iff.2 hx) ((hp.map _).nodup_iff.1 (hH.nodup h))
theorem run_res_one {P : Program} {ty : TypeId} [h1 : OneT P ty] {w : World} {g : Nat} {v : Value} {t : TypeId} {fr : Nat × Nat} (hg : blk w g = some (.cells #[v] t fr)) : (loadVar ty ⟨g, 0, none⟩).run P w = .ok v w := by
  have h := run_load1 (P := P) (t := ty) (off := 0) (v := v) h1.is hg rfl
  unfold Instr.loadAt Instr.sureAddr at h
  simpa using h
/-- The end of a function with three results in cells. -/
theorem post_three {P : Program} {fn : Func} {p q r t1 t2 t3 : Nat} (hres : fn.results = #[.cell p t1, .cell q t2, .cell r t3]) [OneT P t1] [OneT P t2] [OneT P t3] {R : Ending → World → Prop} {a : Act} {w : World} {e : Exit} (he : e = .ret ∨ e = .normal)
    (g1 g2 g3 : Nat) (v1 v2 v3 : Value) (s1 s2 s3 : TypeId) (fr1 fr2 fr3 : Nat × Nat) (hp1 : a.tmps.getD p undef = .pointer (some ⟨g1, 0, none⟩)) (hp2 : a.tmps.getD q undef = .pointer (some ⟨g2, 0, none⟩)) (hp3 : a.tmps.getD r undef = .pointer (some ⟨g3, 0, none⟩)) (hd : a.defers = []) (hg1 : blk w g1 = some (.cells #[v1] s1 fr1)) (hg2 : blk w g2 = some (.cells #[v2] s2 fr2)) (hg3 : blk w g3 = some (.cells #[v3] s3 fr3)) (hR : R (.returned (.tuple #[v1, v2, v3])) w) :
    bodyPost P fn R e a w := by
  have h1 : (results fn a.tmps).run P w = .ok (.tuple #[v1, v2, v3]) w := by
    have hp1' : a.tmps[p]?.getD undef = .pointer (some ⟨g1, 0, none⟩) := by simpa using hp1
    have hp2' : a.tmps[q]?.getD undef = .pointer (some ⟨g2, 0, none⟩) := by simpa using hp2
    have hp3' : a.tmps[r]?.getD undef = .pointer (some ⟨g3, 0, none⟩) := by simpa using hp3
    simp [results, hres, hp1', hp2', hp3', asAddr, run_res_one hg1, run_res_one hg2, run_res_one hg3]
  rcases he with rfl | rfl
  · exact bodyPost_ret h1 hd hR
  · exact bodyPost_end h1 hd hR
/-- The puts that sectors say. -/
def putsD (X : List UInt8) : List Pt := (List.range (saysR (celX X 0))).map fun i => ((numR (celX X 0) (10 + 2 * i) : Int), celX X (2 + i))
theorem putsD_len (X : List UInt8) : (putsD X).length = saysR (celX X 0) := by unfold putsD; rw [List.length_map, List.length_range]
theorem putsD_at {X : List UInt8} {i : Nat} (h : i < saysR (celX X 0)) : (putsD X)[i]? = some ((numR (celX X 0) (10 + 2 * i) : Int), celX X (2 + i)) := by
  unfold putsD
  rw [List.getElem?_map, List.getElem?_range h]; rfl
theorem putsD_next {X : List UInt8} {i : Nat} (h : i < saysR (celX X 0)) : (putsD X).take (i + 1) = (putsD X).take i ++ [((numR (celX X 0) (10 + 2 * i) : Int), celX X (2 + i))] := by
  rw [List.take_add_one, putsD_at h]; rfl
theorem putsD_ok {X : List UInt8} {n : Nat} (hX : X.length = 128 * n) {k : Nat} (hk : 2 + k ≤ n) : okP ((putsD X).take k) := by
  intro x hx
  obtain ⟨i, hi⟩ := List.getElem?_of_mem hx
  rw [List.getElem?_take] at hi
  split at hi
  · rename_i hik
    have hil : i < saysR (celX X 0) := by have := (List.getElem?_eq_some_iff.1 hi).1; rwa [putsD_len] at this
    rw [putsD_at hil] at hi
    cases hi
    have := numR_lt (celX X 0) (10 + 2 * i)
    exact ⟨celX_len hX (by omega), by dsimp only; omega, by dsimp only; omega⟩
  · cases hi
theorem OwL.puts {B : Nat} {H : World → List Blk → Prop} (hH : Own B H) {w : World} {L : List Blk} {l : List Pt} {v : Value} {Lr : List Blk} {sz : Nat} {t : TypeId} (h : OwL putC sz t l v Lr) (ho : okP l) (hS : H w L) (hm : ∀ x ∈ Lr, x ∈ L) : PutsAt w v l := by
  rcases h with ⟨rfl, rfl, rfl⟩ | ⟨g, c, sp, rfl, h1, h2, h3, rfl⟩
  · exact PutsAt.nil w
  · obtain ⟨i, hi⟩ := List.getElem?_of_mem (hm _ (List.mem_cons_self ..))
    exact PutsAt.own ho rfl h1 (hH.blk i hS hi)
theorem OwnL.puts {B : Nat} {w : World} {l : List Pt} {v : Value} {sz : Nat} {t : TypeId} (h : OwnL putC sz t B w v l) (ho : okP l) : PutsAt w v l := by
  rcases h with ⟨rfl, rfl⟩ | ⟨g, c, sp, rfl, h1, h2, h3, h4, h5⟩
  · exact PutsAt.nil w
  · exact PutsAt.own ho rfl h1 h5
theorem take_drop_app {A B C : List UInt8} {n : Nat} (hA : A.length = n) (hB : B.length = n) : ((A ++ (B ++ C)).drop n).take n = B := by
  rw [List.drop_append_of_le_length (by omega), List.drop_of_length_le (by omega), List.nil_append, List.take_append_of_le_length (by omega), List.take_of_length_le (by omega)]
theorem encL_0 (key : List UInt8) (n : Int) {l : List Pt} (h : l.length ≤ 56) : celX (encL key n l) 0 = firstC n l := by
  unfold celX encL
  rw [Nat.mul_zero, List.drop_zero, List.take_left' (firstC_len n h)]
theorem encL_1 (key : List UInt8) (n : Int) {l : List Pt} (h : l.length ≤ 56) : celX (encL key n l) 1 = tagC key (firstC n l) l := by
  unfold celX encL
  exact take_drop_app (firstC_len n h) (tagC_len _ _ _)
theorem own_cells {E : List UInt8} {sp : List Value} : ∀ j x, E[j]? = some x → ((E.map bv ++ sp).toArray)[0 + j]? = some (bv x) := fun j x hj => by
  rw [Nat.zero_add, List.getElem?_toArray, List.getElem?_append_left (by rw [List.length_map]; exact (List.getElem?_eq_some_iff.1 hj).1), List.getElem?_map, hj]; rfl
theorem celX_bytes {cs : Array Value} {b o i k c m : Nat} {X : List UInt8} {w : World} {t : TypeId} {fr : Nat × Nat} (h : X.length = 128 * k) (hi : i < k) (hb : blk w b = some (.cells cs t fr)) (hc : ∀ j x, X[j]? = some x → cs[o + j]? = some (bv x)) (hm : m = o + i * 128) (h2 : 128 ≤ c) : BytesAt w (.slice (some ⟨b, m, none⟩) 128 c) (celX X i) := by
  subst hm
  exact bytesAt_blk hb (celX_len h hi) h2 fun j x hj => by
    have hjl := (List.getElem?_eq_some_iff.1 hj).1
    rw [celX_len h hi] at hjl
    unfold celX at hj
    rw [List.getElem?_take, if_pos hjl, List.getElem?_drop] at hj
    have := hc _ _ hj
    rw [show o + i * 128 + j = o + (128 * i + j) by omega]
    exact this
/-- Do sectors begin with an entry? -/
def DecOk (key X : List UInt8) (n : Nat) : Prop := 2 ≤ n ∧ 2 + saysR (celX X 0) ≤ n ∧ 0 ≤ cntR (celX X 0) ∧ soundP (putsD X) ∧ firstC (cntR (celX X 0)) (putsD X) = celX X 0 ∧ tagC key (celX X 0) (putsD X) = celX X 1
set_option maxRecDepth 100000 in
set_option maxHeartbeats 8000000 in
theorem decode_any (key : List UInt8) (hk : key.length ≤ 1000000) (X : List UInt8) (n : Nat) (hn : n ≤ 100000) (kv v : Value) (w0 : World) (hkv : BytesAt w0 kv key) (hv : CellsAt w0 v X n) :
    Calls Try.prog 23 #[kv, v] w0 fun e w' => ∃ (ok : Bool) (cnt : Int) (pv : Value) (l : List Pt), e = .returned (.tuple #[.int .i64 cnt, pv, .bool ok]) ∧ OwnL putC 129 70 w0.heap.size w' pv l ∧ (ok = true ↔ DecOk key X n) ∧ (ok = true → cnt = cntR (celX X 0) ∧ l = putsD X) ∧ (ok = false → cnt = 0 ∧ l = []) ∧ Below w0.heap.size w0 w' := by
  obtain ⟨hX, p, c, rfl, hc, hp0, hcell⟩ := id hv
  have hS := St.start w0
  by_cases h2 : n < 2
  · go_enter Try.func23, Try.ntmps23
    repeat' (first | ((with_reducible refine Ac ?_); first | ((first | refine Ai Aa ?_ | refine Al Aa ?_ | refine Af Aa ?_ | refine Av Aa Ab hS ?_ | refine Ba Aa Ab hS ?_ | refine Ag Aa ?_ | refine Ae Aa ?_ | refine Be Aa ?_ | refine Bl Aa ?_ | refine Bd Aa ?_ | refine Ak Aa ?_ | refine Aj Aa ?_ | refine Aw Aa (fun hc => ?_) (fun hc => ?_) | refine Cg Aa ?_ | refine Bz Aa ?_ | refine Bu Aa ?_ | refine Bq Aa ?_ | refine Bk Aa ?_ | refine Bw Aa ?_ | refine Bh Aa ?_ | refine Bc Aa ?_ | refine Au Aa ?_ | refine Cp Aa ?_ | refine Ar Aa ?_) <;> refine Ad ?_) | ((first | refine Ay Aa Ab hS ?_ | refine Cu Aa Ab hS ?_ | refine Ao Aa Ab hS ?_ | refine As Aa Ab hS ?_); clear hS; intro b w hS; refine Ad ?_) | ((first | refine Br Aa Ab hS ?_); clear hS; intro w hS; refine Ad ?_)) | ((fail_if_success (with_reducible refine Ac ?_)); first | go_step | go_step3 | rw [Exit.noGoto_normal] | rw [Exit.noGoto_ret] | rw [Exit.noGoto_exit]))
    refine post_three Try.results23 (.inl rfl) _ _ _ _ _ _ _ _ _ _ _ _ rfl rfl rfl rfl (hS.blk 2 rfl) (hS.blk 1 rfl) (hS.blk 0 rfl) ?_
    exact ⟨false, 0, _, [], rfl, .inl ⟨rfl, rfl⟩, by simp [DecOk]; intro h; omega, by simp, by simp, hS.below⟩
  have hF : firX X n = celX X 0 := if_pos (by omega)
  obtain ⟨b0, o0, cs, ty, fr, rfl, hb, hcc⟩ := hcell (by omega)
  have hlF := celX_len hX (show 0 < n by omega)
  have hle := saysR_le (celX X 0)
  have hpf := fun w h => putsFn_any X n (.slice (some ⟨b0, o0, none⟩) n c) w h
  have hit := fun gm gc W0 h1 h2 => puts1_iter (celX X 0) hlF gm gc W0 h1 h2
  rw [hF] at hpf
  have hnx := @putsD_next X
  have hpl := putsD_len X
  have hpo := fun k hk => putsD_ok hX (k := k) hk
  obtain ⟨q, hq⟩ : ∃ q, saysR (celX X 0) = q := ⟨_, rfl⟩
  simp only [hq] at hnx hit
  rw [hq] at hle hpl
  refine calls_of_marksR Try.func23 rfl ?_
  simp only [Try.ntmps23, List.size_toArray, List.length_cons, List.length_nil, Nat.reduceAdd, Nat.reduceSub, Array.replicate_succ, Array.replicate_zero, List.push_toArray, List.append_toArray, List.nil_append, List.cons_append]
  repeat' (first | ((with_reducible refine Ac ?_); first | ((first | refine Ai Aa ?_ | refine Al Aa ?_ | refine Af Aa ?_ | refine Av Aa Ab hS ?_ | refine Ba Aa Ab hS ?_ | refine Ag Aa ?_ | refine Ae Aa ?_ | refine Be Aa ?_ | refine Bl Aa ?_ | refine Bd Aa ?_ | refine Ak Aa ?_ | refine Aj Aa ?_ | refine Aw Aa (fun hc => ?_) (fun hc => ?_) | refine Cg Aa ?_ | refine Bz Aa ?_ | refine Bu Aa ?_ | refine Bq Aa ?_ | refine Bk Aa ?_ | refine Bw Aa ?_ | refine Bh Aa ?_ | refine Bc Aa ?_ | refine Au Aa ?_ | refine Cp Aa ?_ | refine Ar Aa ?_) <;> refine Ad ?_) | ((first | refine Ay Aa Ab hS ?_ | refine Cu Aa Ab hS ?_ | refine Ao Aa Ab hS ?_ | refine As Aa Ab hS ?_); clear hS; intro b w hS; refine Ad ?_) | ((first | refine Br Aa Ab hS ?_); clear hS; intro w hS; refine Ad ?_)) | ((fail_if_success (with_reducible refine Ac ?_)); first | go_step | go_step3 | rw [Exit.noGoto_normal] | rw [Exit.noGoto_ret] | rw [Exit.noGoto_exit]))
  rename_i b3 z1 b4 z2 b5 z3 b6 z4 K1 hK1 K2 hK2
  refine s_call Aa (by rfl) (by rfl) (by rfl) (by rfl) (by rfl) (by infer_instance) (hpf _ (hv.below hS.below)) ?_
  rintro e w2 ⟨gm, gc, rfl, m1, m2, m3, m4, m5, hB⟩
  refine ⟨_, rfl, ?_⟩
  refine Ad ?_
  obtain ⟨L0, hL0⟩ : ∃ L : List Blk, [(b, (#[.slice none 0 0] : Array Value), 47), (b6, #[.bool false], 4), (b5, #[.slice none 0 0], 47), (b4, #[.int .i64 0], 3), (b3, #[.slice (some ⟨b0, o0, none⟩) n c], 44)] = L := ⟨_, rfl⟩
  rw [hL0] at hS
  have hlow : ∀ x ∈ L0.map (·.1), x < w.heap.size := fun x hx => Ab.lt hS hx
  replace hS := Ab.call hS hB
  repeat' (first | ((with_reducible refine Ac ?_); first | ((first | refine Ai Aa ?_ | refine Al Aa ?_ | refine Af Aa ?_ | refine Av Aa Ab hS ?_ | refine Ba Aa Ab hS ?_ | refine Ag Aa ?_ | refine Ae Aa ?_ | refine Be Aa ?_ | refine Bl Aa ?_ | refine Bd Aa ?_ | refine Ak Aa ?_ | refine Aj Aa ?_ | refine Aw Aa (fun hc => ?_) (fun hc => ?_) | refine Cg Aa ?_ | refine Bz Aa ?_ | refine Bu Aa ?_ | refine Bq Aa ?_ | refine Bk Aa ?_ | refine Bw Aa ?_ | refine Bh Aa ?_ | refine Bc Aa ?_ | refine Au Aa ?_ | refine Cp Aa ?_ | refine Ar Aa ?_) <;> refine Ad ?_) | ((first | refine Ay Aa Ab hS ?_ | refine Cu Aa Ab hS ?_ | refine Ao Aa Ab hS ?_ | refine As Aa Ab hS ?_); clear hS; intro b w hS; refine Ad ?_) | ((first | refine Br Aa Ab hS ?_); clear hS; intro w hS; refine Ad ?_)) | ((fail_if_success (with_reducible refine Ac ?_)); first | go_step | go_step3 | rw [Exit.noGoto_normal] | rw [Exit.noGoto_ret] | rw [Exit.noGoto_exit]))
  refine wp_range_plain (els := fun k => #[.int .i64 (k : Int), .int .i64 (numR (celX X 0) (10 + 2 * k) : Int)]) (N := some q) (R := [gm, gc]) (gf := 45) (lb := #[.pointer (some ⟨gm, 0, none⟩), .pointer (some ⟨gc, 0, none⟩)]) (by rfl) (by intro args w; kernel_rfl) (hit gm gc w2 m4 m5) (Below.refl _ _) (fun _ => rfl)
    (fun k L => k ≤ q ∧ 2 + k ≤ n ∧ ∃ pv Lr, OwL putC 129 70 ((putsD X).take k) pv Lr ∧ L = (b, #[pv], 47) :: (b6, #[.bool false], 4) :: (b5, #[.slice none 0 0], 47) :: (b4, #[.int .i64 0], 3) :: (b3, #[.slice (some ⟨b0, o0, none⟩) n c], 44) :: Lr)
    (fun c' L => c' = .ret ∧ n < 2 + q ∧ ∃ pv Lr, L = (b, #[pv], 47) :: (b6, #[.bool false], 4) :: (b5, #[.slice none 0 0], 47) :: (b4, #[.int .i64 0], 3) :: (b3, #[.slice (some ⟨b0, o0, none⟩) n c], 44) :: Lr) 0 (fun h => by cases h) L0 ?I0 ?H0 ?R0 ?act1 ?assign ?body ?done ?stop
  case I0 => exact ⟨by omega, by omega, .slice none 0 0, [], .inl ⟨rfl, by rw [List.take_zero], rfl⟩, hL0.symm⟩
  case H0 => exact hS.holds
  case R0 =>
    intro x hx
    simp only [List.mem_cons, List.not_mem_nil, or_false] at hx
    rcases hx with rfl | rfl
    · exact ⟨blk_lt m4, fun h => absurd (hlow _ h) (by omega)⟩
    · exact ⟨blk_lt m5, fun h => absurd (hlow _ h) (by omega)⟩
  case assign =>
    intro l0 k L W hI hIn K hK
    have hSL := hS
    have hS := hIn.round
    simp only [List.zip_toArray, List.zip_cons_cons, List.zip_nil_right, List.foldl_toArray', List.foldl_cons, List.foldl_nil, List.setIfInBounds_toArray, List.set_cons_zero, List.set_cons_succ]
    repeat' (first | ((with_reducible refine cons_in ?_); first | ((first | refine Ai Am ?_ | refine Al Am ?_ | refine Af Am ?_ | refine Av Am own_in hS ?_ | refine Ba Am own_in hS ?_ | refine Ag Am ?_ | refine Ae Am ?_ | refine Be Am ?_ | refine g_cap Am ?_ | refine Bl Am ?_ | refine Bd Am ?_ | refine Cj Am ?_ | refine Ca Am ?_ | refine Cz Am ?_ | refine Cq Am ?_ | refine Ak Am ?_ | refine Aj Am ?_ | refine Aw Am (fun hc => ?_) (fun hc => ?_) | refine Cg Am ?_ | refine Bz Am ?_ | refine Ck Am ?_ | refine Cd Am ?_ | refine Az Am ?_ | refine g_field1 Am ?_ | refine g_fieldR Am ?_ | refine Bx Am ?_ | refine Bu Am ?_ | refine Ax Am ?_ | refine Dj Am ?_ | refine Bq Am ?_ | refine Bk Am ?_ | refine Bw Am ?_ | refine Bh Am ?_ | refine Bc Am ?_ | refine Au Am ?_) <;> refine Ad ?_) | ((first | refine Ay Am own_in hS ?_ | refine Cu Am own_in hS ?_ | refine Ao Am own_in hS ?_ | refine As Am own_in hS ?_ | refine g_make Am own_in hS ?_); clear hS; intro b w hS; refine Ad ?_) | ((first | refine Br Am own_in hS ?_ | refine Ap Am own_in hS ?_); clear hS; intro w hS; refine Ad ?_)) | ((fail_if_success (with_reducible refine cons_in ?_)); first | gi_step | (with_reducible refine wpIn_scope_wide ?_) | (with_reducible refine wpIn_label ?_) | rw [Exit.noGoto_normal] | rw [Exit.noGoto_ret] | rw [Exit.noGoto_exit]))
    exact hK _ hS
  case body =>
    rintro l0 k L W ⟨hk, hk2, pv, Lr, hR, rfl⟩ hIn hN
    have hlt := hN _ rfl
    have hSL := hS.range hIn
    replace hS := hIn.round
    obtain ⟨p1, c1, hpv⟩ := hR.slice
    have hle2 : ((putsD X).take k).length = k := by rw [List.length_take]; omega
    rw [hle2] at hpv
    subst hpv
    by_cases hge : n ≤ 2 + k
    · repeat' (first | ((with_reducible refine cons_in ?_); first | ((first | refine Ai Am ?_ | refine Al Am ?_ | refine Af Am ?_ | refine Av Am own_in hS ?_ | refine Bs Am (by first | exact ((St.range hSL hS).far hb).1) ?_ | refine Ba Am own_in hS ?_ | refine Da Am (by first | exact ((St.range hSL hS).far hb).1) ?_ | refine Ag Am ?_ | refine Ae Am ?_ | refine Be Am ?_ | refine g_cap Am ?_ | refine Bl Am ?_ | refine Bd Am ?_ | refine Cj Am ?_ | refine Ca Am ?_ | refine Cz Am ?_ | refine Cq Am ?_ | refine Ak Am ?_ | refine Aj Am ?_ | refine Aw Am (fun hc => ?_) (fun hc => ?_) | refine Cg Am ?_ | refine Bz Am ?_ | refine Ck Am ?_ | refine Cd Am ?_ | refine Az Am ?_ | refine g_field1 Am ?_ | refine g_fieldR Am ?_ | refine Bx Am ?_ | refine Bu Am ?_ | refine Ax Am ?_ | refine Dj Am ?_ | refine Bq Am ?_ | refine Bk Am ?_ | refine Bw Am ?_ | refine Bh Am ?_ | refine Bc Am ?_ | refine Au Am ?_) <;> refine Ad ?_) | ((first | refine Ay Am own_in hS ?_ | refine Cu Am own_in hS ?_ | refine Ao Am own_in hS ?_ | refine As Am own_in hS ?_ | refine g_make Am own_in hS ?_); clear hS; intro b w hS; refine Ad ?_) | ((first | refine Br Am own_in hS ?_ | refine Ap Am own_in hS ?_); clear hS; intro w hS; refine Ad ?_)) | ((fail_if_success (with_reducible refine cons_in ?_)); first | gi_step | (with_reducible refine wpIn_scope_wide ?_) | (with_reducible refine wpIn_label ?_) | rw [Exit.noGoto_normal] | rw [Exit.noGoto_ret] | rw [Exit.noGoto_exit]))
      exact ⟨_, hS, rfl, by omega, _, _, rfl⟩
    · obtain ⟨d1, d2, d3⟩ := celX_cut hX (show 2 + k < n by omega) hcc
      have lC := celX_len hX (show 2 + k < n by omega)
      have hnk := hnx hlt
      have hpo1 := hpo k (by omega)
      obtain ⟨C, hC⟩ : ∃ C, celX X (2 + k) = C := ⟨_, rfl⟩
      obtain ⟨N, hN2⟩ : ∃ N, numR (celX X 0) (10 + 2 * k) = N := ⟨_, rfl⟩
      rw [hC] at d2 lC hnk
      rw [hN2] at hnk ⊢
      have hpb := pt_built (N : Int) lC
      have s1 : (hdV (N : Int) C).size = 129 := by rw [← csz_is, hdV_size, lC]
      have s2 : csz (bvs C) = 128 := by rw [Bg, lC]
      have e2 : (2 + (k : Int)).toNat = 2 + k := by omega
      repeat' (first | ((with_reducible refine cons_in ?_); first | ((first | refine Ai Am ?_ | refine Al Am ?_ | refine Af Am ?_ | refine Av Am own_in hS ?_ | refine Bs Am (by first | exact ((St.range hSL hS).far hb).1) ?_ | refine Ba Am own_in hS ?_ | refine Da Am (by first | exact ((St.range hSL hS).far hb).1) ?_ | refine Ag Am ?_ | refine Ae Am ?_ | refine Be Am ?_ | refine g_cap Am ?_ | refine Bl Am ?_ | refine Bd Am ?_ | refine Cj Am ?_ | refine Ca Am ?_ | refine Cz Am ?_ | refine Cq Am ?_ | refine Ak Am ?_ | refine Aj Am ?_ | refine Aw Am (fun hc => ?_) (fun hc => ?_) | refine Cg Am ?_ | refine Bz Am ?_ | refine Ck Am ?_ | refine Cd Am ?_ | refine Az Am ?_ | refine g_field1 Am ?_ | refine g_fieldR Am ?_ | refine Bx Am ?_ | refine Bu Am ?_ | refine Ax Am ?_ | refine Dj Am ?_ | refine Bq Am ?_ | refine Bk Am ?_ | refine Bw Am ?_ | refine Bh Am ?_ | refine Bc Am ?_ | refine Au Am ?_) <;> refine Ad ?_) | ((first | refine Ay Am own_in hS ?_ | refine Cu Am own_in hS ?_ | refine Ao Am own_in hS ?_ | refine As Am own_in hS ?_ | refine g_make Am own_in hS ?_); clear hS; intro b w hS; refine Ad ?_) | ((first | refine Br Am own_in hS ?_ | refine Ap Am own_in hS ?_); clear hS; intro w hS; refine Ad ?_)) | ((fail_if_success (with_reducible refine cons_in ?_)); first | gi_step | (with_reducible refine wpIn_scope_wide ?_) | (with_reducible refine wpIn_label ?_) | rw [Exit.noGoto_normal] | rw [Exit.noGoto_ret] | rw [Exit.noGoto_exit]))
      refine region_permR_lit [0, 1, 2, 3, 4, 5, 6, 7, 8, 9, 10] 9 (by kernel_rfl) (by kernel_rfl) (by (conv => lhs; simp only [addGs, addG, permL, List.map_cons, List.map_nil, nthL, orD, reO, reG, reE, posL, List.contains_cons, List.contains_nil, Nat.reduceBEq, Bool.or_false, Bool.or_true, Bool.or_self, Bool.false_eq_true, if_true, if_false, Nat.reduceEqDiff, Nat.zero_add, Nat.reduceAdd, List.cons_append, List.nil_append]); first | done | rfl) (by kernel_rfl) (by kernel_rfl) ?_
      dsimp only [List.take, List.drop]
      iterate 9 (first | (refine Dc (fun _ => rfl) ?_; simp only [Act.put, List.setIfInBounds_toArray, List.set_cons_zero, List.set_cons_succ]) | (refine wpM_allocZ (by rfl) (by infer_instance) (fun _ => rfl) ?_; simp only [Act.put, List.setIfInBounds_toArray, List.set_cons_zero, List.set_cons_succ]) | (refine Cr rfl (fun _ => rfl) (fun K hK => ?_); apply Exists.intro; apply Exists.intro; apply Exists.intro; apply Exists.intro; refine ⟨fun pB w' hw' hF => ?_, hK _ _ ?_⟩; (focus (exact Cf (by rfl) (by rfl) (by infer_instance) (by rfl) (by repeat (first | exact (fun _ h => absurd h List.not_mem_nil) | refine List.forall_mem_cons.2 ⟨by first | rfl | (simp only [Value.cells]; first | rfl | omega), ?_⟩)) (by (try conv => lhs; simp only [List.flatMap_cons, List.flatMap_nil, Value.cells, List.append_nil, List.cons_append, List.nil_append]); first | done | rfl) (by decide) (by decide))); clear hK K; simp only [Act.put, List.setIfInBounds_toArray, List.set_cons_zero, List.set_cons_succ]) | (refine Dd (fun _ => rfl) (fun K hK => ?_); apply Exists.intro; refine ⟨fun pB w' hw' hF => ?_, hK _ _ ?_⟩; (focus (have hZ := (own_in).call hS hw'; first | exact (Cn (r_built (by rfl) (by rfl) hpb)) | exact q_move | exact Dh | exact q_load1 own_in hZ (hv := by first | rfl | exact Bi | (rw [Array.getElem?_toList]; first | (rw [e2]; exact d2) | exact d2)) | exact q_load1F (by first | exact ((St.range hSL hZ).far hb).1) (hv := by first | rfl | exact Bi | (rw [Array.getElem?_toList]; first | (rw [e2]; exact d2) | exact d2)) | exact q_loadR own_in hZ (hv := by first | exact Bo _ _ (by (try simp only [Bn, Bg, Bm, List.length_append, List.length_set, zs_len, List.length_take, List.length_drop, List.length_cons, List.length_nil]); first | done | rfl | omega) | (first | (rw [e2]; exact d2) | exact d2) | rfl) | exact q_loadRF (by first | exact ((St.range hSL hZ).far hb).1) (hv := by first | exact Bo _ _ (by (try simp only [Bn, Bg, Bm, List.length_append, List.length_set, zs_len, List.length_take, List.length_drop, List.length_cons, List.length_nil]); first | done | rfl | omega) | (first | (rw [e2]; exact d2) | exact d2) | rfl) | exact Ci | exact Cb | exact q_len | exact q_cap | exact Cy | exact q_add | exact q_sub | exact q_mul | exact q_quo | exact q_rem | exact q_cmp_t | exact q_cmp_f | exact De | exact Cx | exact Df | exact Cv | exact Ch | exact Di (hv' := by first | rfl | exact Bi | (rw [Array.getElem?_toList]; first | (rw [e2]; exact d2) | exact d2)) | exact Dg | exact Cm | exact Co | exact Bt | exact Cl | exact q_conv | exact q_pick | exact q_not | exact Db | exact Ct | exact Cc | exact Dk | exact Dl | exact Cs)); clear hK K; simp only [Act.put, List.setIfInBounds_toArray, List.set_cons_zero, List.set_cons_succ]))
      refine wpM_nil ?_
      intro pB w hcq hfq hnq
      replace hS := (own_in).news hS hcq _ (by first | decide | simp) hfq hnq
      first | simp only [List.map_nil, List.nil_append] at hS | simp only [List.map_cons, List.map_nil, List.cons_append, List.nil_append] at hS
      clear hcq hfq hnq
      try dsimp only
      replace hS := own_in.perm hS (List.Perm.cons _ (List.perm_append_comm (l₁ := [_, _, _, _, _]) (l₂ := Lr)))
      refine s_appL (f := putC) (x0 := ((N : Int), C)) Am own_in hS hR (by rfl) (by rfl) (by rfl) (by rfl) (by infer_instance) (fun a ha => putC_len (hpo1 a ha).1) (putC_len lC) putC_one (by rw [hle2]; unfold maxLen; omega) ?_
      clear hS hR
      intro sv2 Lr2 w2 hR hS
      rw [← hnk] at hR
      replace hS := own_in.perm hS (List.perm_append_comm (l₁ := Lr2) (l₂ := [_, _, _, _, _]))
      simp only [List.cons_append, List.nil_append] at hS
      obtain ⟨p2, c2, hpv2⟩ := hR.slice
      subst hpv2
      refine Ad ?_
      repeat' (first | ((with_reducible refine cons_in ?_); first | ((first | refine Ai Am ?_ | refine Al Am ?_ | refine Af Am ?_ | refine Av Am own_in hS ?_ | refine Ba Am own_in hS ?_ | refine Ag Am ?_ | refine Ae Am ?_ | refine Be Am ?_ | refine g_cap Am ?_ | refine Bl Am ?_ | refine Bd Am ?_ | refine Cj Am ?_ | refine Ca Am ?_ | refine Cz Am ?_ | refine Cq Am ?_ | refine Ak Am ?_ | refine Aj Am ?_ | refine Aw Am (fun hc => ?_) (fun hc => ?_) | refine Cg Am ?_ | refine Bz Am ?_ | refine Ck Am ?_ | refine Cd Am ?_ | refine Az Am ?_ | refine g_field1 Am ?_ | refine g_fieldR Am ?_ | refine Bx Am ?_ | refine Bu Am ?_ | refine Ax Am ?_ | refine Dj Am ?_ | refine Bq Am ?_ | refine Bk Am ?_ | refine Bw Am ?_ | refine Bh Am ?_ | refine Bc Am ?_ | refine Au Am ?_) <;> refine Ad ?_) | ((first | refine Ay Am own_in hS ?_ | refine Cu Am own_in hS ?_ | refine Ao Am own_in hS ?_ | refine As Am own_in hS ?_ | refine g_make Am own_in hS ?_); clear hS; intro b w hS; refine Ad ?_) | ((first | refine Br Am own_in hS ?_ | refine Ap Am own_in hS ?_); clear hS; intro w hS; refine Ad ?_)) | ((fail_if_success (with_reducible refine cons_in ?_)); first | gi_step | (with_reducible refine wpIn_scope_wide ?_) | (with_reducible refine wpIn_label ?_) | rw [Exit.noGoto_normal] | rw [Exit.noGoto_ret] | rw [Exit.noGoto_exit]))
      exact ⟨_, hS, by omega, by omega, _, _, hR, rfl⟩
  case stop =>
    rintro D c' L W ⟨rfl, hlt, pv, Lr, rfl⟩ hIn hD hD0
    have hDw : w0.heap.size ≤ D := Nat.le_trans hS.below.size hD0
    replace hS : StD w0 D W _ := ⟨hS.range hIn, hD⟩
    clear hIn hit hpf
    repeat' (first | ((with_reducible refine Ac ?_); first | ((first | refine Ai Aa ?_ | refine Al Aa ?_ | refine Af Aa ?_ | refine Av Aa own_stD hS ?_ | refine Ba Aa own_stD hS ?_ | refine Ag Aa ?_ | refine Ae Aa ?_ | refine Be Aa ?_ | refine Bl Aa ?_ | refine Bd Aa ?_ | refine Ak Aa ?_ | refine Aj Aa ?_ | refine Aw Aa (fun hc => ?_) (fun hc => ?_) | refine Cg Aa ?_ | refine Bz Aa ?_ | refine Bu Aa ?_ | refine Bq Aa ?_ | refine Bk Aa ?_ | refine Bw Aa ?_ | refine Bh Aa ?_ | refine Bc Aa ?_ | refine Au Aa ?_ | refine Cp Aa ?_ | refine Ar Aa ?_) <;> refine Ad ?_) | ((first | refine Ay Aa own_stD hS ?_ | refine Cu Aa own_stD hS ?_ | refine Ao Aa own_stD hS ?_ | refine As Aa own_stD hS ?_); clear hS; intro b w hS; refine Ad ?_) | ((first | refine Br Aa own_stD hS ?_); clear hS; intro w hS; refine Ad ?_)) | ((fail_if_success (with_reducible refine Ac ?_)); first | go_step | go_step3 | rw [Exit.noGoto_normal] | rw [Exit.noGoto_ret] | rw [Exit.noGoto_exit]))
    refine postMR (.inl rfl) rfl hS.2 ?_
    have hS3 := hS.shut hDw
    refine post_three Try.results23 (.inl rfl) _ _ _ _ _ _ _ _ _ _ _ _ rfl rfl rfl rfl (hS3.blk 3 rfl) (hS3.blk 2 rfl) (hS3.blk 1 rfl) ?_
    exact ⟨false, 0, _, [], rfl, .inl ⟨rfl, rfl⟩, by simp [DecOk]; intro h h; omega, by simp, by simp, hS3.below⟩
  case done =>
    rintro D N1 L W hm' ⟨hk1, hk2, pv, Lr, hR, rfl⟩ hIn hD hD0
    obtain rfl := Option.some.inj hm'
    have hDw : w0.heap.size ≤ D := Nat.le_trans hS.below.size hD0
    replace hS : StD w0 D W _ := ⟨hS.range hIn, hD⟩
    have htk : (putsD X).take q = putsD X := List.take_of_length_le (by omega)
    have hok := hpo q hk2
    rw [htk] at hR hok
    obtain ⟨p1, c1, hpv⟩ := hR.slice
    rw [hpl] at hpv
    subst hpv
    clear hIn hit hpf hnx hlow m1 m2 m3 m4 m5 hB hpo
    obtain ⟨d1, d2, d3⟩ := celX_cut hX (show 0 < n by omega) hcc
    have l8 : ((celX X 0).take 8).length = 8 := by rw [List.length_take]; omega
    have hb8 : ∀ w, blk w b0 = some (.cells cs ty fr) → BytesAt w (.slice (some ⟨b0, o0 + 0 * 128, none⟩) 8 128) ((celX X 0).take 8) := fun w h => bytesAt_blk h l8 (by omega) (fun j x hj => by
      have hj8 := (List.getElem?_eq_some_iff.1 hj).1
      rw [List.getElem?_take] at hj
      split at hj
      · rw [d3 j (by omega), List.getD_eq_getElem?_getD, hj]; rfl
      · cases hj)
    have hcn : wrap64 (beN ((celX X 0).take 8) : Int) = cntR (celX X 0) := rfl
    have hbg := fun w (h : blk w b0 = some (.cells cs ty fr)) => big_quiet _ _ w (hb8 w h) (by omega)
    have hDec : DecOk key X n ↔ (0 ≤ cntR (celX X 0) ∧ soundP (putsD X)) ∧ firstC (cntR (celX X 0)) (putsD X) = celX X 0 ∧ tagC key (celX X 0) (putsD X) = celX X 1 := by
      unfold DecOk
      rw [hq]
      constructor
      · rintro ⟨_, _, h1, h2, h3, h4⟩; exact ⟨⟨h1, h2⟩, h3, h4⟩
      · rintro ⟨⟨h1, h2⟩, h3, h4⟩; exact ⟨by omega, hk2, h1, h2, h3, h4⟩
    obtain ⟨P, hP⟩ : ∃ P, putsD X = P := ⟨_, rfl⟩
    obtain ⟨Z, hZ⟩ : ∃ Z, beN ((celX X 0).take 8) = Z := ⟨_, rfl⟩
    rw [hZ] at hbg hcn
    rw [hP] at hR hok hpl hDec
    obtain ⟨cn, hcn2⟩ : ∃ x, cntR (celX X 0) = x := ⟨_, rfl⟩
    rw [hcn2] at hcn hDec
    repeat' (first | ((with_reducible refine Ac ?_); first | ((first | refine Ai Aa ?_ | refine Al Aa ?_ | refine Af Aa ?_ | refine Av Aa own_stD hS ?_ | refine Bs Aa (by first | exact ((hS).far hb).1) ?_ | refine Ba Aa own_stD hS ?_ | refine Da Aa (by first | exact ((hS).far hb).1) ?_ | refine Ag Aa ?_ | refine Ae Aa ?_ | refine Be Aa ?_ | refine Bl Aa ?_ | refine Bd Aa ?_ | refine Ak Aa ?_ | refine Aj Aa ?_ | refine Aw Aa (fun hc => ?_) (fun hc => ?_) | refine Cg Aa ?_ | refine Bz Aa ?_ | refine Bu Aa ?_ | refine Bq Aa ?_ | refine Bk Aa ?_ | refine Bw Aa ?_ | refine Bh Aa ?_ | refine Bc Aa ?_ | refine Au Aa ?_ | refine Cp Aa ?_ | refine Ar Aa ?_) <;> refine Ad ?_) | ((first | refine Ay Aa own_stD hS ?_ | refine Cu Aa own_stD hS ?_ | refine Ao Aa own_stD hS ?_ | refine As Aa own_stD hS ?_); clear hS; intro b w hS; refine Ad ?_) | ((first | refine Br Aa own_stD hS ?_); clear hS; intro w hS; refine Ad ?_) | (refine Ce Aa own_stD hS (hbg _ (hS.far hb).1) ?_; clear hS; intro w hS; refine Ad ?_) | (refine Stp.go Aa (by rfl) (by rfl) (r_convR (by rfl) (by rfl) (by infer_instance) (by infer_instance) hcn) ?_; refine Ad ?_)) | ((fail_if_success (with_reducible refine Ac ?_)); first | go_step | go_step3 | rw [Exit.noGoto_normal] | rw [Exit.noGoto_ret] | rw [Exit.noGoto_exit]))
    have hpt : PutsAt _ (.slice p1 q c1) P := OwL.puts own_stD hR hok hS (fun x hx => by simp only [List.mem_cons, hx, or_true])
    by_cases hgood : 0 ≤ cn ∧ soundP P
    · have lE := encL_len key cn hok hgood.2.2.2
      have e0 := encL_0 key cn hgood.2.2.2
      have e1 := encL_1 key cn hgood.2.2.2
      have lT := tagC_len key (firstC cn P) P
      have lF := firstC_len cn hgood.2.2.2
      have hen := fun w h1 h2 => encode_good key hk cn hgood.1 P hgood.2 kv (.slice p1 q c1) w h1 h2
      rw [hpl] at hen lE
      have lT1 := celX_len hX (show 1 < n by omega)
      have hDt : firstC cn P = celX X 0 → tagC key (firstC cn P) P = celX X 1 → DecOk key X n := fun h1 h2 => hDec.2 ⟨hgood, h1, by rw [← h1]; exact h2⟩
      have hDf : DecOk key X n → firstC cn P = celX X 0 ∧ tagC key (firstC cn P) P = celX X 1 := fun h => ⟨(hDec.1 h).2.1, by rw [(hDec.1 h).2.1]; exact (hDec.1 h).2.2⟩
      obtain ⟨E, hE⟩ : ∃ E, encL key cn P = E := ⟨_, rfl⟩
      obtain ⟨F, hF⟩ : ∃ F, firstC cn P = F := ⟨_, rfl⟩
      rw [hE] at hen lE e0 e1
      rw [hF] at lF e0 e1 lT hDt hDf
      obtain ⟨T, hT⟩ : ∃ T, tagC key F P = T := ⟨_, rfl⟩
      rw [hT] at lT e1 hDt hDf
      clear hDec hE hF hT hgood
      refine s_call Aa (by rfl) (by rfl) (by rfl) (by rfl) (by rfl) (by infer_instance) (hen _ (hkv.below hS.1.below) hpt) ?_
      rintro e w1 ⟨gx, cx, spx, rfl, k4, k5, k6, k7, k8, hB⟩
      refine ⟨_, rfl, ?_⟩
      refine Ad ?_
      replace hS := own_stD.new hS hB k7 k8
      clear k7 k8 hB hpt hen
      obtain ⟨x1, x2, x3⟩ := celX_cut (o := 0) (i := 0) lE (by omega) (own_cells (sp := spx))
      rw [e0] at x2
      have hb1 : ∀ w, blk w gx = some (.cells (E.map bv ++ spx).toArray 30 (0, 0)) → BytesAt w (.slice (some ⟨gx, 0 + 1 * 128, none⟩) 128 128) T := fun w h => by
        have := celX_bytes (i := 1) (c := 128) lE (by omega) h own_cells rfl (Nat.le_refl _)
        rwa [e1] at this
      have hb2 : ∀ w, blk w b0 = some (.cells cs ty fr) → BytesAt w (.slice (some ⟨b0, o0 + 1 * 128, none⟩) 128 128) (celX X 1) := fun w h => celX_bytes hX (by omega) h hcc rfl (Nat.le_refl _)
      obtain ⟨A0, hA0⟩ : ∃ x, celX X 0 = x := ⟨_, rfl⟩
      obtain ⟨A1, hA1⟩ : ∃ x, celX X 1 = x := ⟨_, rfl⟩
      rw [hA0] at d2 hlF hDt hDf
      rw [hA1] at hb2 lT1 hDt hDf
      have heq := fun w v1 v2 h1 h2 => equal_any T A1 (by omega) (by intro e; rw [e] at lT; simp at lT) (by omega) v1 v2 w h1 h2
      clear d3 hb8 hbg x3 hcc
      repeat' (first | ((with_reducible refine Ac ?_); first | ((first | refine Ai Aa ?_ | refine Al Aa ?_ | refine Af Aa ?_ | refine Av Aa own_stD hS ?_ | refine Ba Aa own_stD hS ?_ | refine Ag Aa ?_ | refine Ae Aa ?_ | refine Be Aa ?_ | refine Bl Aa ?_ | refine Bd Aa ?_ | refine Ak Aa ?_ | refine Aj Aa ?_ | refine Aw Aa (fun hc => ?_) (fun hc => ?_) | refine Cg Aa ?_ | refine Bz Aa ?_ | refine Bu Aa ?_ | refine Bq Aa ?_ | refine Bk Aa ?_ | refine Bw Aa ?_ | refine Bh Aa ?_ | refine Bc Aa ?_ | refine Au Aa ?_ | refine Cp Aa ?_ | refine Ar Aa ?_) <;> refine Ad ?_) | ((first | refine Ay Aa own_stD hS ?_ | refine Cu Aa own_stD hS ?_ | refine Ao Aa own_stD hS ?_ | refine As Aa own_stD hS ?_); clear hS; intro b w hS; refine Ad ?_) | ((first | refine Br Aa own_stD hS ?_); clear hS; intro w hS; refine Ad ?_)) | ((fail_if_success (with_reducible refine Ac ?_)); first | go_step | go_step3 | rw [Exit.noGoto_normal] | rw [Exit.noGoto_ret] | rw [Exit.noGoto_exit]))
      by_cases hf : F = A0
      · have hq0 : (!(F == A0)) = false := by simp [hf]
        by_cases ht : T = A1
        · have hok1 := hDt hf ht
          rw [decide_eq_true ht] at heq
          refine Bv 21 (by kernel_rfl) (by kernel_rfl) ?_
          dsimp only [List.take, List.drop]
          iterate 21 (first | (refine Dc (fun _ => rfl) ?_; simp only [Act.put, List.setIfInBounds_toArray, List.set_cons_zero, List.set_cons_succ]) | (refine Cw (by rfl) (fun _ => rfl) _ (fun w => r_alloc (a := ⟨#[], []⟩) rfl (by infer_instance)) ?_; simp only [Act.put, List.setIfInBounds_toArray, List.set_cons_zero, List.set_cons_succ]) | (refine Dd (fun _ => rfl) (fun K hK => ?_); apply Exists.intro; refine ⟨fun pB w' hw' hF => ?_, hK _ _ ?_⟩; (focus (have hZ := (own_stD).call hS hw'; first | exact (Cn (r_neCel (by rfl) (by rfl) (by rfl) (by kernel_rfl) (by kernel_rfl) lF hlF hq0)) | exact (g_qcall (heq _ _ _ (hb1 _ (own_stD.blk 0 hZ rfl)) (hb2 _ (hZ.far hb).1))) | exact q_move | exact Dh | exact q_load1 own_stD hZ (hv := by first | rfl | exact Bi | (rw [Array.getElem?_toList]; first | exact x2 | exact d2)) | exact q_load1F (by first | exact ((hZ).far hb).1) (hv := by first | rfl | exact Bi | (rw [Array.getElem?_toList]; first | exact x2 | exact d2)) | exact q_loadR own_stD hZ (hv := by first | exact Bo _ _ (by (try simp only [Bn, Bg, Bm, List.length_append, List.length_set, zs_len, List.length_take, List.length_drop, List.length_cons, List.length_nil]); first | done | rfl | omega) | (first | exact x2 | exact d2) | rfl) | exact q_loadRF (by first | exact ((hZ).far hb).1) (hv := by first | exact Bo _ _ (by (try simp only [Bn, Bg, Bm, List.length_append, List.length_set, zs_len, List.length_take, List.length_drop, List.length_cons, List.length_nil]); first | done | rfl | omega) | (first | exact x2 | exact d2) | rfl) | exact Ci | exact Cb | exact q_len | exact q_cap | exact Cy | exact q_add | exact q_sub | exact q_mul | exact q_quo | exact q_rem | exact q_cmp_t | exact q_cmp_f | exact De | exact Cx | exact Df | exact Cv | exact Ch | exact Di (hv' := by first | rfl | exact Bi | (rw [Array.getElem?_toList]; first | exact x2 | exact d2)) | exact Dg | exact Cm | exact Co | exact Bt | exact Cl | exact q_conv | exact q_pick | exact q_not | exact Db | exact Ct | exact Cc)); clear hK K; simp only [Act.put, List.setIfInBounds_toArray, List.set_cons_zero, List.set_cons_succ]))
          refine wpM_nil ?_
          intro pB w hcq hfq hnq
          replace hS := (own_stD).news hS hcq _ (by decide) hfq hnq
          first | simp only [List.map_nil, List.nil_append] at hS | simp only [List.map_cons, List.map_nil, List.cons_append, List.nil_append] at hS
          clear hcq hfq hnq
          try dsimp only
          repeat' (first | ((with_reducible refine Ac ?_); first | ((first | refine Ai Aa ?_ | refine Al Aa ?_ | refine Af Aa ?_ | refine Av Aa own_stD hS ?_ | refine Ba Aa own_stD hS ?_ | refine Ag Aa ?_ | refine Ae Aa ?_ | refine Be Aa ?_ | refine Bl Aa ?_ | refine Bd Aa ?_ | refine Ak Aa ?_ | refine Aj Aa ?_ | refine Aw Aa (fun hc => ?_) (fun hc => ?_) | refine Cg Aa ?_ | refine Bz Aa ?_ | refine Bu Aa ?_ | refine Bq Aa ?_ | refine Bk Aa ?_ | refine Bw Aa ?_ | refine Bh Aa ?_ | refine Bc Aa ?_ | refine Au Aa ?_ | refine Cp Aa ?_ | refine Ar Aa ?_) <;> refine Ad ?_) | ((first | refine Ay Aa own_stD hS ?_ | refine Cu Aa own_stD hS ?_ | refine Ao Aa own_stD hS ?_ | refine As Aa own_stD hS ?_); clear hS; intro b w hS; refine Ad ?_) | ((first | refine Br Aa own_stD hS ?_); clear hS; intro w hS; refine Ad ?_)) | ((fail_if_success (with_reducible refine Ac ?_)); first | go_step | go_step3 | rw [Exit.noGoto_normal] | rw [Exit.noGoto_ret] | rw [Exit.noGoto_exit]))
          refine any_start [0, 1, 2, 3, 4] (by kernel_rfl) (by kernel_rfl) ?_
          intro w hcq
          replace hS := hS.cls hcq
          clear hcq
          refine any_turn2 0 1 (by kernel_rfl) (by rfl) (by rfl) ?_ ?_
          · skip
            repeat' (first | ((with_reducible refine Ac ?_); first | ((first | refine Ai Aa ?_ | refine Al Aa ?_ | refine Af Aa ?_ | refine Av Aa own_stD hS ?_ | refine Ba Aa own_stD hS ?_ | refine Ag Aa ?_ | refine Ae Aa ?_ | refine Be Aa ?_ | refine Bl Aa ?_ | refine Bd Aa ?_ | refine Ak Aa ?_ | refine Aj Aa ?_ | refine Aw Aa (fun hc => ?_) (fun hc => ?_) | refine Cg Aa ?_ | refine Bz Aa ?_ | refine Bu Aa ?_ | refine Bq Aa ?_ | refine Bk Aa ?_ | refine Bw Aa ?_ | refine Bh Aa ?_ | refine Bc Aa ?_ | refine Au Aa ?_ | refine Cp Aa ?_ | refine Ar Aa ?_) <;> refine Ad ?_) | ((first | refine Ay Aa own_stD hS ?_ | refine Cu Aa own_stD hS ?_ | refine Ao Aa own_stD hS ?_ | refine As Aa own_stD hS ?_); clear hS; intro b w hS; refine Ad ?_) | ((first | refine Br Aa own_stD hS ?_); clear hS; intro w hS; refine Ad ?_)) | ((fail_if_success (with_reducible refine Ac ?_)); first | go_step | go_step3 | rw [Exit.noGoto_normal] | rw [Exit.noGoto_ret] | rw [Exit.noGoto_exit]))
            refine any_turn2 1 2 (by kernel_rfl) (by rfl) (by rfl) ?_ ?_
            · skip
              repeat' (first | ((with_reducible refine Ac ?_); first | ((first | refine Ai Aa ?_ | refine Al Aa ?_ | refine Af Aa ?_ | refine Av Aa own_stD hS ?_ | refine Ba Aa own_stD hS ?_ | refine Ag Aa ?_ | refine Ae Aa ?_ | refine Be Aa ?_ | refine Bl Aa ?_ | refine Bd Aa ?_ | refine Ak Aa ?_ | refine Aj Aa ?_ | refine Aw Aa (fun hc => ?_) (fun hc => ?_) | refine Cg Aa ?_ | refine Bz Aa ?_ | refine Bu Aa ?_ | refine Bq Aa ?_ | refine Bk Aa ?_ | refine Bw Aa ?_ | refine Bh Aa ?_ | refine Bc Aa ?_ | refine Au Aa ?_ | refine Cp Aa ?_ | refine Ar Aa ?_) <;> refine Ad ?_) | ((first | refine Ay Aa own_stD hS ?_ | refine Cu Aa own_stD hS ?_ | refine Ao Aa own_stD hS ?_ | refine As Aa own_stD hS ?_); clear hS; intro b w hS; refine Ad ?_) | ((first | refine Br Aa own_stD hS ?_); clear hS; intro w hS; refine Ad ?_)) | ((fail_if_success (with_reducible refine Ac ?_)); first | go_step | go_step3 | rw [Exit.noGoto_normal] | rw [Exit.noGoto_ret] | rw [Exit.noGoto_exit]))
              refine any_turn 2 (by kernel_rfl) (by rfl) ?_
              repeat' (first | ((with_reducible refine Ac ?_); first | ((first | refine Ai Aa ?_) <;> refine Ad ?_) | ((first | refine Br Aa own_stD hS ?_); clear hS; intro w hS; refine Ad ?_)) | ((fail_if_success (with_reducible refine Ac ?_)); first | go_step | go_step3 | rw [Exit.noGoto_normal] | rw [Exit.noGoto_ret] | rw [Exit.noGoto_exit]))
              refine any_turn 3 (by kernel_rfl) (by rfl) ?_
              repeat' (first | ((with_reducible refine Ac ?_); first | ((first | refine Ai Aa ?_) <;> refine Ad ?_) | ((first | refine Br Aa own_stD hS ?_); clear hS; intro w hS; refine Ad ?_)) | ((fail_if_success (with_reducible refine Ac ?_)); first | go_step | go_step3 | rw [Exit.noGoto_normal] | rw [Exit.noGoto_ret] | rw [Exit.noGoto_exit]))
              refine any_turn 4 (by kernel_rfl) (by rfl) ?_
              repeat' (first | ((with_reducible refine Ac ?_); first | ((first | refine Ai Aa ?_) <;> refine Ad ?_) | ((first | refine Br Aa own_stD hS ?_); clear hS; intro w hS; refine Ad ?_)) | ((fail_if_success (with_reducible refine Ac ?_)); first | go_step | go_step3 | rw [Exit.noGoto_normal] | rw [Exit.noGoto_ret] | rw [Exit.noGoto_exit]))
              refine any_done (by kernel_rfl) ?_
              repeat' (first | ((with_reducible refine Ac ?_); first | ((first | refine Ai Aa ?_ | refine Al Aa ?_ | refine Af Aa ?_ | refine Av Aa own_stD hS ?_ | refine Ba Aa own_stD hS ?_ | refine Ag Aa ?_ | refine Ae Aa ?_ | refine Be Aa ?_ | refine Bl Aa ?_ | refine Bd Aa ?_ | refine Ak Aa ?_ | refine Aj Aa ?_ | refine Aw Aa (fun hc => ?_) (fun hc => ?_) | refine Cg Aa ?_ | refine Bz Aa ?_ | refine Bu Aa ?_ | refine Bq Aa ?_ | refine Bk Aa ?_ | refine Bw Aa ?_ | refine Bh Aa ?_ | refine Bc Aa ?_ | refine Au Aa ?_ | refine Cp Aa ?_ | refine Ar Aa ?_) <;> refine Ad ?_) | ((first | refine Ay Aa own_stD hS ?_ | refine Cu Aa own_stD hS ?_ | refine Ao Aa own_stD hS ?_ | refine As Aa own_stD hS ?_); clear hS; intro b w hS; refine Ad ?_) | ((first | refine Br Aa own_stD hS ?_); clear hS; intro w hS; refine Ad ?_)) | ((fail_if_success (with_reducible refine Ac ?_)); first | go_step | go_step3 | rw [Exit.noGoto_normal] | rw [Exit.noGoto_ret] | rw [Exit.noGoto_exit]))
              refine postMR (.inl rfl) rfl hS.2 ?_
              have hS3 := hS.shut hDw
              refine post_three Try.results23 (.inl rfl) _ _ _ _ _ _ _ _ _ _ _ _ rfl rfl rfl rfl (hS3.blk 4 rfl) (hS3.blk 3 rfl) (hS3.blk 2 rfl) ?_
              exact ⟨true, cn, _, P, rfl, hR.own hS3 (fun x hx => by simp only [List.mem_cons, hx, or_true]), by simpa using hok1, fun _ => ⟨hcn2.symm, hP.symm⟩, by simp, hS3.below⟩
            · skip
              repeat' (first | ((with_reducible refine Ac ?_); first | ((first | refine Ai Aa ?_ | refine Al Aa ?_ | refine Af Aa ?_ | refine Av Aa own_stD hS ?_ | refine Ba Aa own_stD hS ?_ | refine Ag Aa ?_ | refine Ae Aa ?_ | refine Be Aa ?_ | refine Bl Aa ?_ | refine Bd Aa ?_ | refine Ak Aa ?_ | refine Aj Aa ?_ | refine Aw Aa (fun hc => ?_) (fun hc => ?_) | refine Cg Aa ?_ | refine Bz Aa ?_ | refine Bu Aa ?_ | refine Bq Aa ?_ | refine Bk Aa ?_ | refine Bw Aa ?_ | refine Bh Aa ?_ | refine Bc Aa ?_ | refine Au Aa ?_ | refine Cp Aa ?_ | refine Ar Aa ?_) <;> refine Ad ?_) | ((first | refine Ay Aa own_stD hS ?_ | refine Cu Aa own_stD hS ?_ | refine Ao Aa own_stD hS ?_ | refine As Aa own_stD hS ?_); clear hS; intro b w hS; refine Ad ?_) | ((first | refine Br Aa own_stD hS ?_); clear hS; intro w hS; refine Ad ?_)) | ((fail_if_success (with_reducible refine Ac ?_)); first | go_step | go_step3 | rw [Exit.noGoto_normal] | rw [Exit.noGoto_ret] | rw [Exit.noGoto_exit]))
              refine any_turn 1 (by kernel_rfl) (by rfl) ?_
              repeat' (first | ((with_reducible refine Ac ?_); first | ((first | refine Ai Aa ?_ | refine Av Aa own_stD hS ?_) <;> refine Ad ?_)) | ((fail_if_success (with_reducible refine Ac ?_)); first | go_step | go_step3 | rw [Exit.noGoto_normal] | rw [Exit.noGoto_ret] | rw [Exit.noGoto_exit]))
              refine any_turn 3 (by kernel_rfl) (by rfl) ?_
              repeat' (first | ((with_reducible refine Ac ?_); first | ((first | refine Ai Aa ?_) <;> refine Ad ?_) | ((first | refine Br Aa own_stD hS ?_); clear hS; intro w hS; refine Ad ?_)) | ((fail_if_success (with_reducible refine Ac ?_)); first | go_step | go_step3 | rw [Exit.noGoto_normal] | rw [Exit.noGoto_ret] | rw [Exit.noGoto_exit]))
              refine any_turn 4 (by kernel_rfl) (by rfl) ?_
              repeat' (first | ((with_reducible refine Ac ?_); first | ((first | refine Ai Aa ?_) <;> refine Ad ?_) | ((first | refine Br Aa own_stD hS ?_); clear hS; intro w hS; refine Ad ?_)) | ((fail_if_success (with_reducible refine Ac ?_)); first | go_step | go_step3 | rw [Exit.noGoto_normal] | rw [Exit.noGoto_ret] | rw [Exit.noGoto_exit]))
              refine any_done (by kernel_rfl) ?_
              repeat' (first | ((with_reducible refine Ac ?_); first | ((first | refine Ai Aa ?_ | refine Al Aa ?_ | refine Af Aa ?_ | refine Av Aa own_stD hS ?_ | refine Ba Aa own_stD hS ?_ | refine Ag Aa ?_ | refine Ae Aa ?_ | refine Be Aa ?_ | refine Bl Aa ?_ | refine Bd Aa ?_ | refine Ak Aa ?_ | refine Aj Aa ?_ | refine Aw Aa (fun hc => ?_) (fun hc => ?_) | refine Cg Aa ?_ | refine Bz Aa ?_ | refine Bu Aa ?_ | refine Bq Aa ?_ | refine Bk Aa ?_ | refine Bw Aa ?_ | refine Bh Aa ?_ | refine Bc Aa ?_ | refine Au Aa ?_ | refine Cp Aa ?_ | refine Ar Aa ?_) <;> refine Ad ?_) | ((first | refine Ay Aa own_stD hS ?_ | refine Cu Aa own_stD hS ?_ | refine Ao Aa own_stD hS ?_ | refine As Aa own_stD hS ?_); clear hS; intro b w hS; refine Ad ?_) | ((first | refine Br Aa own_stD hS ?_); clear hS; intro w hS; refine Ad ?_)) | ((fail_if_success (with_reducible refine Ac ?_)); first | go_step | go_step3 | rw [Exit.noGoto_normal] | rw [Exit.noGoto_ret] | rw [Exit.noGoto_exit]))
              refine postMR (.inl rfl) rfl hS.2 ?_
              have hS3 := hS.shut hDw
              refine post_three Try.results23 (.inl rfl) _ _ _ _ _ _ _ _ _ _ _ _ rfl rfl rfl rfl (hS3.blk 4 rfl) (hS3.blk 3 rfl) (hS3.blk 2 rfl) ?_
              exact ⟨true, cn, _, P, rfl, hR.own hS3 (fun x hx => by simp only [List.mem_cons, hx, or_true]), by simpa using hok1, fun _ => ⟨hcn2.symm, hP.symm⟩, by simp, hS3.below⟩
          · skip
            repeat' (first | ((with_reducible refine Ac ?_); first | ((first | refine Ai Aa ?_ | refine Al Aa ?_ | refine Af Aa ?_ | refine Av Aa own_stD hS ?_ | refine Ba Aa own_stD hS ?_ | refine Ag Aa ?_ | refine Ae Aa ?_ | refine Be Aa ?_ | refine Bl Aa ?_ | refine Bd Aa ?_ | refine Ak Aa ?_ | refine Aj Aa ?_ | refine Aw Aa (fun hc => ?_) (fun hc => ?_) | refine Cg Aa ?_ | refine Bz Aa ?_ | refine Bu Aa ?_ | refine Bq Aa ?_ | refine Bk Aa ?_ | refine Bw Aa ?_ | refine Bh Aa ?_ | refine Bc Aa ?_ | refine Au Aa ?_ | refine Cp Aa ?_ | refine Ar Aa ?_) <;> refine Ad ?_) | ((first | refine Ay Aa own_stD hS ?_ | refine Cu Aa own_stD hS ?_ | refine Ao Aa own_stD hS ?_ | refine As Aa own_stD hS ?_); clear hS; intro b w hS; refine Ad ?_) | ((first | refine Br Aa own_stD hS ?_); clear hS; intro w hS; refine Ad ?_)) | ((fail_if_success (with_reducible refine Ac ?_)); first | go_step | go_step3 | rw [Exit.noGoto_normal] | rw [Exit.noGoto_ret] | rw [Exit.noGoto_exit]))
            refine any_turn 0 (by kernel_rfl) (by rfl) ?_
            repeat' (first | ((with_reducible refine Ac ?_); first | ((first | refine Ai Aa ?_ | refine Al Aa ?_) <;> refine Ad ?_)) | ((fail_if_success (with_reducible refine Ac ?_)); first | go_step | go_step3 | rw [Exit.noGoto_normal] | rw [Exit.noGoto_ret] | rw [Exit.noGoto_exit]))
            refine any_turn 2 (by kernel_rfl) (by rfl) ?_
            repeat' (first | ((with_reducible refine Ac ?_); first | ((first | refine Ai Aa ?_) <;> refine Ad ?_) | ((first | refine Br Aa own_stD hS ?_); clear hS; intro w hS; refine Ad ?_)) | ((fail_if_success (with_reducible refine Ac ?_)); first | go_step | go_step3 | rw [Exit.noGoto_normal] | rw [Exit.noGoto_ret] | rw [Exit.noGoto_exit]))
            refine any_turn 3 (by kernel_rfl) (by rfl) ?_
            repeat' (first | ((with_reducible refine Ac ?_); first | ((first | refine Ai Aa ?_) <;> refine Ad ?_) | ((first | refine Br Aa own_stD hS ?_); clear hS; intro w hS; refine Ad ?_)) | ((fail_if_success (with_reducible refine Ac ?_)); first | go_step | go_step3 | rw [Exit.noGoto_normal] | rw [Exit.noGoto_ret] | rw [Exit.noGoto_exit]))
            refine any_turn 4 (by kernel_rfl) (by rfl) ?_
            repeat' (first | ((with_reducible refine Ac ?_); first | ((first | refine Ai Aa ?_) <;> refine Ad ?_) | ((first | refine Br Aa own_stD hS ?_); clear hS; intro w hS; refine Ad ?_)) | ((fail_if_success (with_reducible refine Ac ?_)); first | go_step | go_step3 | rw [Exit.noGoto_normal] | rw [Exit.noGoto_ret] | rw [Exit.noGoto_exit]))
            refine any_done (by kernel_rfl) ?_
            repeat' (first | ((with_reducible refine Ac ?_); first | ((first | refine Ai Aa ?_ | refine Al Aa ?_ | refine Af Aa ?_ | refine Av Aa own_stD hS ?_ | refine Ba Aa own_stD hS ?_ | refine Ag Aa ?_ | refine Ae Aa ?_ | refine Be Aa ?_ | refine Bl Aa ?_ | refine Bd Aa ?_ | refine Ak Aa ?_ | refine Aj Aa ?_ | refine Aw Aa (fun hc => ?_) (fun hc => ?_) | refine Cg Aa ?_ | refine Bz Aa ?_ | refine Bu Aa ?_ | refine Bq Aa ?_ | refine Bk Aa ?_ | refine Bw Aa ?_ | refine Bh Aa ?_ | refine Bc Aa ?_ | refine Au Aa ?_ | refine Cp Aa ?_ | refine Ar Aa ?_) <;> refine Ad ?_) | ((first | refine Ay Aa own_stD hS ?_ | refine Cu Aa own_stD hS ?_ | refine Ao Aa own_stD hS ?_ | refine As Aa own_stD hS ?_); clear hS; intro b w hS; refine Ad ?_) | ((first | refine Br Aa own_stD hS ?_); clear hS; intro w hS; refine Ad ?_)) | ((fail_if_success (with_reducible refine Ac ?_)); first | go_step | go_step3 | rw [Exit.noGoto_normal] | rw [Exit.noGoto_ret] | rw [Exit.noGoto_exit]))
            refine postMR (.inl rfl) rfl hS.2 ?_
            have hS3 := hS.shut hDw
            refine post_three Try.results23 (.inl rfl) _ _ _ _ _ _ _ _ _ _ _ _ rfl rfl rfl rfl (hS3.blk 4 rfl) (hS3.blk 3 rfl) (hS3.blk 2 rfl) ?_
            exact ⟨true, cn, _, P, rfl, hR.own hS3 (fun x hx => by simp only [List.mem_cons, hx, or_true]), by simpa using hok1, fun _ => ⟨hcn2.symm, hP.symm⟩, by simp, hS3.below⟩
        · have hnot : ¬ DecOk key X n := fun h => ht (hDf h).2
          rw [decide_eq_false ht] at heq
          refine Bv 21 (by kernel_rfl) (by kernel_rfl) ?_
          dsimp only [List.take, List.drop]
          iterate 21 (first | (refine Dc (fun _ => rfl) ?_; simp only [Act.put, List.setIfInBounds_toArray, List.set_cons_zero, List.set_cons_succ]) | (refine Cw (by rfl) (fun _ => rfl) _ (fun w => r_alloc (a := ⟨#[], []⟩) rfl (by infer_instance)) ?_; simp only [Act.put, List.setIfInBounds_toArray, List.set_cons_zero, List.set_cons_succ]) | (refine Dd (fun _ => rfl) (fun K hK => ?_); apply Exists.intro; refine ⟨fun pB w' hw' hF => ?_, hK _ _ ?_⟩; (focus (have hZ := (own_stD).call hS hw'; first | exact (Cn (r_neCel (by rfl) (by rfl) (by rfl) (by kernel_rfl) (by kernel_rfl) lF hlF hq0)) | exact (g_qcall (heq _ _ _ (hb1 _ (own_stD.blk 0 hZ rfl)) (hb2 _ (hZ.far hb).1))) | exact q_move | exact Dh | exact q_load1 own_stD hZ (hv := by first | rfl | exact Bi | (rw [Array.getElem?_toList]; first | exact x2 | exact d2)) | exact q_load1F (by first | exact ((hZ).far hb).1) (hv := by first | rfl | exact Bi | (rw [Array.getElem?_toList]; first | exact x2 | exact d2)) | exact q_loadR own_stD hZ (hv := by first | exact Bo _ _ (by (try simp only [Bn, Bg, Bm, List.length_append, List.length_set, zs_len, List.length_take, List.length_drop, List.length_cons, List.length_nil]); first | done | rfl | omega) | (first | exact x2 | exact d2) | rfl) | exact q_loadRF (by first | exact ((hZ).far hb).1) (hv := by first | exact Bo _ _ (by (try simp only [Bn, Bg, Bm, List.length_append, List.length_set, zs_len, List.length_take, List.length_drop, List.length_cons, List.length_nil]); first | done | rfl | omega) | (first | exact x2 | exact d2) | rfl) | exact Ci | exact Cb | exact q_len | exact q_cap | exact Cy | exact q_add | exact q_sub | exact q_mul | exact q_quo | exact q_rem | exact q_cmp_t | exact q_cmp_f | exact De | exact Cx | exact Df | exact Cv | exact Ch | exact Di (hv' := by first | rfl | exact Bi | (rw [Array.getElem?_toList]; first | exact x2 | exact d2)) | exact Dg | exact Cm | exact Co | exact Bt | exact Cl | exact q_conv | exact q_pick | exact q_not | exact Db | exact Ct | exact Cc)); clear hK K; simp only [Act.put, List.setIfInBounds_toArray, List.set_cons_zero, List.set_cons_succ]))
          refine wpM_nil ?_
          intro pB w hcq hfq hnq
          replace hS := (own_stD).news hS hcq _ (by decide) hfq hnq
          first | simp only [List.map_nil, List.nil_append] at hS | simp only [List.map_cons, List.map_nil, List.cons_append, List.nil_append] at hS
          clear hcq hfq hnq
          try dsimp only
          repeat' (first | ((with_reducible refine Ac ?_); first | ((first | refine Ai Aa ?_ | refine Al Aa ?_ | refine Af Aa ?_ | refine Av Aa own_stD hS ?_ | refine Ba Aa own_stD hS ?_ | refine Ag Aa ?_ | refine Ae Aa ?_ | refine Be Aa ?_ | refine Bl Aa ?_ | refine Bd Aa ?_ | refine Ak Aa ?_ | refine Aj Aa ?_ | refine Aw Aa (fun hc => ?_) (fun hc => ?_) | refine Cg Aa ?_ | refine Bz Aa ?_ | refine Bu Aa ?_ | refine Bq Aa ?_ | refine Bk Aa ?_ | refine Bw Aa ?_ | refine Bh Aa ?_ | refine Bc Aa ?_ | refine Au Aa ?_ | refine Cp Aa ?_ | refine Ar Aa ?_) <;> refine Ad ?_) | ((first | refine Ay Aa own_stD hS ?_ | refine Cu Aa own_stD hS ?_ | refine Ao Aa own_stD hS ?_ | refine As Aa own_stD hS ?_); clear hS; intro b w hS; refine Ad ?_) | ((first | refine Br Aa own_stD hS ?_); clear hS; intro w hS; refine Ad ?_)) | ((fail_if_success (with_reducible refine Ac ?_)); first | go_step | go_step3 | rw [Exit.noGoto_normal] | rw [Exit.noGoto_ret] | rw [Exit.noGoto_exit]))
          refine postMR (.inl rfl) rfl hS.2 ?_
          have hS3 := hS.shut hDw
          refine post_three Try.results23 (.inl rfl) _ _ _ _ _ _ _ _ _ _ _ _ rfl rfl rfl rfl (hS3.blk 4 rfl) (hS3.blk 3 rfl) (hS3.blk 2 rfl) ?_
          exact ⟨false, 0, _, [], rfl, .inl ⟨rfl, rfl⟩, by simpa using hnot, by simp, by simp, hS3.below⟩
      · have hq0 : (!(F == A0)) = true := by simp [hf]
        have hnot : ¬ DecOk key X n := fun h => hf (hDf h).1
        refine Bv 21 (by kernel_rfl) (by kernel_rfl) ?_
        dsimp only [List.take, List.drop]
        iterate 21 (first | (refine Dc (fun _ => rfl) ?_; simp only [Act.put, List.setIfInBounds_toArray, List.set_cons_zero, List.set_cons_succ]) | (refine Cw (by rfl) (fun _ => rfl) _ (fun w => r_alloc (a := ⟨#[], []⟩) rfl (by infer_instance)) ?_; simp only [Act.put, List.setIfInBounds_toArray, List.set_cons_zero, List.set_cons_succ]) | (refine Dd (fun _ => rfl) (fun K hK => ?_); apply Exists.intro; refine ⟨fun pB w' hw' hF => ?_, hK _ _ ?_⟩; (focus (have hZ := (own_stD).call hS hw'; first | exact (Cn (r_neCel (by rfl) (by rfl) (by rfl) (by kernel_rfl) (by kernel_rfl) lF hlF hq0)) | exact (g_qcall (heq _ _ _ (hb1 _ (own_stD.blk 0 hZ rfl)) (hb2 _ (hZ.far hb).1))) | exact q_move | exact Dh | exact q_load1 own_stD hZ (hv := by first | rfl | exact Bi | (rw [Array.getElem?_toList]; first | exact x2 | exact d2)) | exact q_load1F (by first | exact ((hZ).far hb).1) (hv := by first | rfl | exact Bi | (rw [Array.getElem?_toList]; first | exact x2 | exact d2)) | exact q_loadR own_stD hZ (hv := by first | exact Bo _ _ (by (try simp only [Bn, Bg, Bm, List.length_append, List.length_set, zs_len, List.length_take, List.length_drop, List.length_cons, List.length_nil]); first | done | rfl | omega) | (first | exact x2 | exact d2) | rfl) | exact q_loadRF (by first | exact ((hZ).far hb).1) (hv := by first | exact Bo _ _ (by (try simp only [Bn, Bg, Bm, List.length_append, List.length_set, zs_len, List.length_take, List.length_drop, List.length_cons, List.length_nil]); first | done | rfl | omega) | (first | exact x2 | exact d2) | rfl) | exact Ci | exact Cb | exact q_len | exact q_cap | exact Cy | exact q_add | exact q_sub | exact q_mul | exact q_quo | exact q_rem | exact q_cmp_t | exact q_cmp_f | exact De | exact Cx | exact Df | exact Cv | exact Ch | exact Di (hv' := by first | rfl | exact Bi | (rw [Array.getElem?_toList]; first | exact x2 | exact d2)) | exact Dg | exact Cm | exact Co | exact Bt | exact Cl | exact q_conv | exact q_pick | exact q_not | exact Db | exact Ct | exact Cc)); clear hK K; simp only [Act.put, List.setIfInBounds_toArray, List.set_cons_zero, List.set_cons_succ]))
        refine wpM_nil ?_
        intro pB w hcq hfq hnq
        replace hS := (own_stD).news hS hcq _ (by decide) hfq hnq
        first | simp only [List.map_nil, List.nil_append] at hS | simp only [List.map_cons, List.map_nil, List.cons_append, List.nil_append] at hS
        clear hcq hfq hnq
        try dsimp only
        repeat' (first | ((with_reducible refine Ac ?_); first | ((first | refine Ai Aa ?_ | refine Al Aa ?_ | refine Af Aa ?_ | refine Av Aa own_stD hS ?_ | refine Ba Aa own_stD hS ?_ | refine Ag Aa ?_ | refine Ae Aa ?_ | refine Be Aa ?_ | refine Bl Aa ?_ | refine Bd Aa ?_ | refine Ak Aa ?_ | refine Aj Aa ?_ | refine Aw Aa (fun hc => ?_) (fun hc => ?_) | refine Cg Aa ?_ | refine Bz Aa ?_ | refine Bu Aa ?_ | refine Bq Aa ?_ | refine Bk Aa ?_ | refine Bw Aa ?_ | refine Bh Aa ?_ | refine Bc Aa ?_ | refine Au Aa ?_ | refine Cp Aa ?_ | refine Ar Aa ?_) <;> refine Ad ?_) | ((first | refine Ay Aa own_stD hS ?_ | refine Cu Aa own_stD hS ?_ | refine Ao Aa own_stD hS ?_ | refine As Aa own_stD hS ?_); clear hS; intro b w hS; refine Ad ?_) | ((first | refine Br Aa own_stD hS ?_); clear hS; intro w hS; refine Ad ?_)) | ((fail_if_success (with_reducible refine Ac ?_)); first | go_step | go_step3 | rw [Exit.noGoto_normal] | rw [Exit.noGoto_ret] | rw [Exit.noGoto_exit]))
        refine postMR (.inl rfl) rfl hS.2 ?_
        have hS3 := hS.shut hDw
        refine post_three Try.results23 (.inl rfl) _ _ _ _ _ _ _ _ _ _ _ _ rfl rfl rfl rfl (hS3.blk 4 rfl) (hS3.blk 3 rfl) (hS3.blk 2 rfl) ?_
        exact ⟨false, 0, _, [], rfl, .inl ⟨rfl, rfl⟩, by simpa using hnot, by simp, by simp, hS3.below⟩
    · have hbad : cn < 0 ∨ ¬ soundP P := by
        by_cases h0 : 0 ≤ cn
        · exact .inr fun h => hgood ⟨h0, h⟩
        · exact .inl (Int.not_le.1 h0)
      have hnot : ¬ DecOk key X n := fun h => hgood (hDec.1 h).1
      have hen := fun w h1 => encode_bad cn P (by omega) hbad kv (.slice p1 q c1) w h1
      refine s_call Aa (by rfl) (by rfl) (by rfl) (by rfl) (by rfl) (by infer_instance) (hen _ hpt) ?_
      rintro e w1 ⟨rfl, hB⟩
      refine ⟨_, rfl, ?_⟩
      refine Ad ?_
      replace hS := own_stD.call hS hB
      clear hB hpt hen hgood hbad
      repeat' (first | ((with_reducible refine Ac ?_); first | ((first | refine Ai Aa ?_ | refine Al Aa ?_ | refine Af Aa ?_ | refine Av Aa own_stD hS ?_ | refine Ba Aa own_stD hS ?_ | refine Ag Aa ?_ | refine Ae Aa ?_ | refine Be Aa ?_ | refine Bl Aa ?_ | refine Bd Aa ?_ | refine Ak Aa ?_ | refine Aj Aa ?_ | refine Aw Aa (fun hc => ?_) (fun hc => ?_) | refine Cg Aa ?_ | refine Bz Aa ?_ | refine Bu Aa ?_ | refine Bq Aa ?_ | refine Bk Aa ?_ | refine Bw Aa ?_ | refine Bh Aa ?_ | refine Bc Aa ?_ | refine Au Aa ?_ | refine Cp Aa ?_ | refine Ar Aa ?_) <;> refine Ad ?_) | ((first | refine Ay Aa own_stD hS ?_ | refine Cu Aa own_stD hS ?_ | refine Ao Aa own_stD hS ?_ | refine As Aa own_stD hS ?_); clear hS; intro b w hS; refine Ad ?_) | ((first | refine Br Aa own_stD hS ?_); clear hS; intro w hS; refine Ad ?_)) | ((fail_if_success (with_reducible refine Ac ?_)); first | go_step | go_step3 | rw [Exit.noGoto_normal] | rw [Exit.noGoto_ret] | rw [Exit.noGoto_exit]))
      refine Bv 21 (by kernel_rfl) (by kernel_rfl) ?_
      dsimp only [List.take, List.drop]
      iterate 21 (first | (refine Dc (fun _ => rfl) ?_; simp only [Act.put, List.setIfInBounds_toArray, List.set_cons_zero, List.set_cons_succ]) | (refine Cw (by rfl) (fun _ => rfl) _ (fun w => r_alloc (a := ⟨#[], []⟩) rfl (by infer_instance)) ?_; simp only [Act.put, List.setIfInBounds_toArray, List.set_cons_zero, List.set_cons_succ]) | (refine Dd (fun _ => rfl) (fun K hK => ?_); apply Exists.intro; refine ⟨fun pB w' hw' hF => ?_, hK _ _ ?_⟩; (focus (have hZ := (own_stD).call hS hw'; first | exact q_move | exact Dh | exact q_load1 own_stD hZ | exact q_loadR own_stD hZ | exact Ci | exact Cb | exact q_len | exact q_cap | exact Cy | exact q_add | exact q_sub | exact q_mul | exact q_quo | exact q_rem | exact q_cmp_t | exact q_cmp_f | exact De | exact Cx | exact Df | exact Cv | exact Ch | exact Di | exact Dg | exact Cm | exact Co | exact Bt | exact Cl | exact q_conv | exact q_pick | exact q_not | exact Db | exact Ct | exact Cc)); clear hK K; simp only [Act.put, List.setIfInBounds_toArray, List.set_cons_zero, List.set_cons_succ]))
      refine wpM_nil ?_
      intro pB w hcq hfq hnq
      replace hS := (own_stD).news hS hcq _ (by decide) hfq hnq
      first | simp only [List.map_nil, List.nil_append] at hS | simp only [List.map_cons, List.map_nil, List.cons_append, List.nil_append] at hS
      clear hcq hfq hnq
      try dsimp only
      repeat' (first | ((with_reducible refine Ac ?_); first | ((first | refine Ai Aa ?_ | refine Al Aa ?_ | refine Af Aa ?_ | refine Av Aa own_stD hS ?_ | refine Ba Aa own_stD hS ?_ | refine Ag Aa ?_ | refine Ae Aa ?_ | refine Be Aa ?_ | refine Bl Aa ?_ | refine Bd Aa ?_ | refine Ak Aa ?_ | refine Aj Aa ?_ | refine Aw Aa (fun hc => ?_) (fun hc => ?_) | refine Cg Aa ?_ | refine Bz Aa ?_ | refine Bu Aa ?_ | refine Bq Aa ?_ | refine Bk Aa ?_ | refine Bw Aa ?_ | refine Bh Aa ?_ | refine Bc Aa ?_ | refine Au Aa ?_ | refine Cp Aa ?_ | refine Ar Aa ?_) <;> refine Ad ?_) | ((first | refine Ay Aa own_stD hS ?_ | refine Cu Aa own_stD hS ?_ | refine Ao Aa own_stD hS ?_ | refine As Aa own_stD hS ?_); clear hS; intro b w hS; refine Ad ?_) | ((first | refine Br Aa own_stD hS ?_); clear hS; intro w hS; refine Ad ?_)) | ((fail_if_success (with_reducible refine Ac ?_)); first | go_step | go_step3 | rw [Exit.noGoto_normal] | rw [Exit.noGoto_ret] | rw [Exit.noGoto_exit]))
      refine postMR (.inl rfl) rfl hS.2 ?_
      have hS3 := hS.shut hDw
      refine post_three Try.results23 (.inl rfl) _ _ _ _ _ _ _ _ _ _ _ _ rfl rfl rfl rfl (hS3.blk 3 rfl) (hS3.blk 2 rfl) (hS3.blk 1 rfl) ?_
      exact ⟨false, 0, _, [], rfl, .inl ⟨rfl, rfl⟩, by simpa using hnot, by simp, by simp, hS3.below⟩
end Go.Proofs.Ytcjncidahjneaaa
