/-
  Laws that the claims of this seat use, of several texts in one: RmA, RmB. No condition of their own.
-/
import Derived.Test.YtcjncidahjneaaaJN0

namespace Go.Proofs.Ytcjncidahjneaaa
open Go.ChangeShapes Go.WideShapes Go.ChangeAt Go.RowKit
attribute [local irreducible] wpList wpListIn Oper.quietAt wpM
/-- The last put of a number. -/
def lastP (l : List Pt) (a : Int) : Option Pt := l.reverse.find? fun x => x.1 == a
theorem lastP_snoc (l : List Pt) (x : Pt) (a : Int) : lastP (l ++ [x]) a = if x.1 = a then some x else lastP l a := by
  unfold lastP
  rw [List.reverse_append, List.reverse_singleton, List.singleton_append, List.find?_cons]
  by_cases h : x.1 = a
  · simp [h]
  · rw [show (x.1 == a) = false by simpa using h]
    simp [h]
theorem lastP_num {l : List Pt} {a : Int} {x : Pt} (h : lastP l a = some x) : x.1 = a ∧ x ∈ l := by
  unfold lastP at h
  have h1 := List.find?_some h
  have h2 := List.mem_of_find?_eq_some h
  exact ⟨by simpa using h1, List.mem_reverse.1 h2⟩
/-- Where no later put has its number, a put is the last of it. -/
theorem lastP_at {l : List Pt} {b : Nat} {x : Pt} (hb : l[b]? = some x) (hj : ∀ j y, b < j → l[j]? = some y → y.1 ≠ x.1) : lastP l x.1 = some x := by
  obtain ⟨r, rfl⟩ : ∃ r, l = r.reverse := ⟨l.reverse, by simp⟩
  induction r with
  | nil => simp at hb
  | cons z r ih =>
    rw [List.reverse_cons] at hb hj ⊢
    rw [lastP_snoc]
    by_cases hbl : b < r.reverse.length
    · rw [List.getElem?_append_left hbl] at hb
      have hz := hj r.reverse.length z hbl (by simp)
      rw [if_neg hz]
      exact ih hb (fun j y h1 h2 => hj j y h1 (by rw [List.getElem?_append_left (List.getElem?_eq_some_iff.1 h2).1]; exact h2))
    · have hbe : b = r.reverse.length := by have := (List.getElem?_eq_some_iff.1 hb).1; rw [List.length_append] at this; simp at this hbl; simp; omega
      subst hbe
      simp at hb
      subst hb
      rw [if_pos rfl]
/-- These are the puts of which each number stands once, by rising numbers. -/
def IsMerge (l R : List Pt) : Prop := R.Pairwise (fun x y => x.1 < y.1) ∧ ∀ x, x ∈ R ↔ lastP l x.1 = some x
theorem sorted_ext : ∀ {R S : List Pt}, R.Pairwise (fun x y => x.1 < y.1) → S.Pairwise (fun x y => x.1 < y.1) → (∀ x, x ∈ R ↔ x ∈ S) → R = S
  | [], [], _, _, _ => rfl
  | [], y :: S, _, _, h => absurd ((h y).2 (List.mem_cons_self ..)) List.not_mem_nil
  | x :: R, [], _, _, h => absurd ((h x).1 (List.mem_cons_self ..)) List.not_mem_nil
  | x :: R, y :: S, hR, hS, h => by
    rw [List.pairwise_cons] at hR hS
    have hxy : x = y := by
      rcases List.mem_cons.1 ((h x).1 (List.mem_cons_self ..)) with e | e
      · exact e
      · rcases List.mem_cons.1 ((h y).2 (List.mem_cons_self ..)) with e2 | e2
        · exact e2.symm
        · have h1 := hS.1 x e
          have h2 := hR.1 y e2
          omega
    subst hxy
    congr 1
    refine sorted_ext hR.2 hS.2 fun z => ?_
    have hz := h z
    constructor
    · intro hz1
      rcases List.mem_cons.1 (hz.1 (List.mem_cons_of_mem _ hz1)) with e | e
      · subst e; have := hR.1 z hz1; omega
      · exact e
    · intro hz1
      rcases List.mem_cons.1 (hz.2 (List.mem_cons_of_mem _ hz1)) with e | e
      · subst e; have := hS.1 z hz1; omega
      · exact e
theorem isMerge_unique {l R S : List Pt} (h1 : IsMerge l R) (h2 : IsMerge l S) : R = S := sorted_ext h1.1 h2.1 fun x => (h1.2 x).trans (h2.2 x).symm
theorem nodup_le : ∀ {a b : List Int}, a.Nodup → (∀ x ∈ a, x ∈ b) → a.length ≤ b.length
  | [], b, _, _ => Nat.zero_le _
  | x :: a, b, hn, hs => by
    rw [List.nodup_cons] at hn
    have hx := hs x (List.mem_cons_self ..)
    have ih := nodup_le (a := a) (b := b.erase x) hn.2 (fun y hy => (List.mem_erase_of_ne (fun e => hn.1 (by rw [← e]; exact hy))).2 (hs y (List.mem_cons_of_mem _ hy)))
    rw [List.length_erase_of_mem hx] at ih
    have := List.length_pos_of_mem hx
    rw [List.length_cons]; omega
/-- Is a number behind all of these? -/
def aft (R : List Pt) (a : Int) : Prop := ∀ y ∈ R, y.1 < a
/-- What the document's loop keeps. -/
def MInv (l R : List Pt) : Prop := R.Pairwise (fun x y => x.1 < y.1) ∧ (∀ x ∈ R, lastP l x.1 = some x) ∧ ∀ x ∈ l, ¬ aft R x.1 → ∃ y ∈ R, y.1 = x.1
theorem mInv_nil (l : List Pt) : MInv l [] := ⟨List.Pairwise.nil, fun _ h => absurd h List.not_mem_nil, fun _ _ h => absurd (fun _ h => absurd h List.not_mem_nil) h⟩
/-- The best so far. -/
def Best (l R : List Pt) (i : Nat) : Option Nat → Prop
  | none => ∀ j x, j < i → l[j]? = some x → ¬ aft R x.1
  | some b => b < i ∧ ∃ x, l[b]? = some x ∧ aft R x.1 ∧ ∀ j y, j < i → l[j]? = some y → aft R y.1 → x.1 ≤ y.1 ∧ (b < j → x.1 < y.1)
theorem mInv_next {l R : List Pt} {b : Nat} {x : Pt} (h : MInv l R) (hb : Best l R l.length (some b)) (hx : l[b]? = some x) : MInv l (R ++ [x]) := by
  obtain ⟨_, x', hx', ha, hm⟩ := hb
  rw [hx] at hx'
  cases hx'
  obtain ⟨h1, h2, h3⟩ := h
  refine ⟨?_, ?_, ?_⟩
  · rw [List.pairwise_append]
    exact ⟨h1, List.pairwise_singleton .., fun y hy z hz => by simp at hz; subst hz; exact ha y hy⟩
  · intro y hy
    rcases List.mem_append.1 hy with hy | hy
    · exact h2 y hy
    · simp at hy; subst hy
      refine lastP_at hx fun j z hj hz e => ?_
      have hjl := (List.getElem?_eq_some_iff.1 hz).1
      have := (hm j z hjl hz (by rw [e]; exact ha)).2 hj
      omega
  · intro z hz hn
    by_cases hR : aft R z.1
    · obtain ⟨j, hj⟩ := List.getElem?_of_mem hz
      have hjl := (List.getElem?_eq_some_iff.1 hj).1
      have h4 := (hm j z hjl hj hR).1
      refine ⟨x, List.mem_append_right _ (List.mem_singleton_self _), ?_⟩
      rcases Int.lt_or_le x.1 z.1 with h5 | h5
      · exact absurd (fun y hy => by
          rcases List.mem_append.1 hy with hy | hy
          · exact hR y hy
          · simp at hy; subst hy; exact h5) hn
      · omega
    · obtain ⟨y, hy, e⟩ := h3 z hz hR
      exact ⟨y, List.mem_append_left _ hy, e⟩
theorem mInv_all {l R : List Pt} (h : MInv l R) (hc : ∀ x ∈ l, ∃ y ∈ R, y.1 = x.1) : IsMerge l R := by
  refine ⟨h.1, fun x => ⟨h.2.1 x, fun hx => ?_⟩⟩
  obtain ⟨y, hy, e⟩ := hc x (lastP_num hx).2
  have := h.2.1 y hy
  rw [e, hx] at this
  cases this
  exact hy
theorem mInv_none {l R : List Pt} (h : MInv l R) (hb : Best l R l.length none) : IsMerge l R := mInv_all h fun x hx => by
  obtain ⟨j, hj⟩ := List.getElem?_of_mem hx
  exact h.2.2 x hx (hb j x (List.getElem?_eq_some_iff.1 hj).1 hj)
theorem mInv_full {l R : List Pt} (h : MInv l R) (hl : R.length = l.length) : IsMerge l R := mInv_all h fun x hx => by
  by_cases he : ∃ y ∈ R, y.1 = x.1
  · exact he
  · exfalso
    have hn : (R.map (·.1)).Nodup := by
      rw [List.nodup_iff_pairwise_ne, List.pairwise_map]
      exact h.1.imp fun h => Int.ne_of_lt h
    have h2 : (x.1 :: R.map (·.1)).Nodup := List.nodup_cons.2 ⟨fun hm => by
      obtain ⟨y, hy, e⟩ := List.mem_map.1 hm
      exact he ⟨y, hy, e⟩, hn⟩
    have h3 := nodup_le (b := l.map (·.1)) h2 (fun a ha => by
      rcases List.mem_cons.1 ha with rfl | ha
      · exact List.mem_map.2 ⟨x, hx, rfl⟩
      · obtain ⟨y, hy, rfl⟩ := List.mem_map.1 ha
        exact List.mem_map.2 ⟨y, (lastP_num (h.2.1 y hy)).2, rfl⟩)
    rw [List.length_cons, List.length_map, List.length_map] at h3
    omega
theorem best_start (l R : List Pt) : Best l R 0 none := fun _ _ h => absurd h (Nat.not_lt_zero _)
theorem best_take {l R : List Pt} {i : Nat} {x : Pt} {b : Option Nat} (hx : l[i]? = some x) (ha : aft R x.1) (hb : Best l R i b) (hle : ∀ c y, b = some c → l[c]? = some y → x.1 ≤ y.1) : Best l R (i + 1) (some i) := by
  refine ⟨Nat.lt_succ_self _, x, hx, ha, fun j y hj hy hay => ?_⟩
  rcases Nat.lt_or_ge j i with h | h
  · cases b with
    | none => exact absurd hay (hb j y h hy)
    | some c =>
      obtain ⟨h1, z, hz, h2, h3⟩ := hb
      have h4 := hle c z rfl hz
      have h5 := (h3 j y h hy hay).1
      exact ⟨by omega, fun h6 => absurd h6 (by omega)⟩
  · have : j = i := by omega
    subst this
    rw [hx] at hy; cases hy
    exact ⟨Int.le_refl _, fun h6 => absurd h6 (by omega)⟩
theorem best_leave {l R : List Pt} {i : Nat} {x : Pt} {b : Option Nat} (hx : l[i]? = some x) (hb : Best l R i b) (hn : aft R x.1 → ∃ c y, b = some c ∧ l[c]? = some y ∧ y.1 < x.1) : Best l R (i + 1) b := by
  cases b with
  | none =>
    intro j y hj hy
    rcases Nat.lt_or_ge j i with h | h
    · exact hb j y h hy
    · have : j = i := by omega
      subst this
      rw [hx] at hy; cases hy
      intro ha
      obtain ⟨c, y, e, _⟩ := hn ha
      cases e
  | some c =>
    obtain ⟨h1, z, hz, h2, h3⟩ := hb
    refine ⟨by omega, z, hz, h2, fun j y hj hy hay => ?_⟩
    rcases Nat.lt_or_ge j i with h | h
    · exact h3 j y h hy hay
    · have : j = i := by omega
      subst this
      rw [hx] at hy; cases hy
      obtain ⟨c', y', e, hy', hlt⟩ := hn hay
      cases e
      rw [hz] at hy'; cases hy'
      exact ⟨by omega, fun _ => hlt⟩
/-- By the last of rising numbers. -/
theorem aft_last {R : List Pt} {z : Pt} {a : Int} (hR : R.Pairwise (fun x y => x.1 < y.1)) (hz : R[R.length - 1]? = some z) : aft R a ↔ z.1 < a := by
  constructor
  · intro h; exact h z (List.mem_of_getElem? hz)
  · intro h y hy
    obtain ⟨j, hj⟩ := List.getElem?_of_mem hy
    have hjl := (List.getElem?_eq_some_iff.1 hj).1
    rcases Nat.lt_or_ge j (R.length - 1) with h1 | h1
    · have h2 := List.pairwise_iff_getElem.1 hR j (R.length - 1) hjl (by omega) h1
      have e1 : R[j] = y := (List.getElem?_eq_some_iff.1 hj).2
      have e2 : R[R.length - 1]'(by omega) = z := (List.getElem?_eq_some_iff.1 hz).2
      rw [e1, e2] at h2
      omega
    · have : j = R.length - 1 := by omega
      subst this
      rw [hz] at hj; cases hj
      exact h
theorem aft_nil (a : Int) : aft [] a := fun _ h => absurd h List.not_mem_nil
end Go.Proofs.Ytcjncidahjneaaa

namespace Go.Proofs.Ytcjncidahjneaaa
open Go.ChangeShapes Go.WideShapes Go.ChangeAt Go.RowKit
attribute [local irreducible] wpList wpListIn Oper.quietAt wpM
theorem okP_sub {l R : List Pt} (h : okP l) (hR : ∀ x ∈ R, x ∈ l) : okP R := fun x hx => h x (hR x hx)
theorem putsC_num {R : List Pt} (h : okP R) {i : Nat} {z : Pt} (hz : R[i]? = some z) {sp : List Value} : ((putsC R ++ sp).toArray)[i * 129]? = some (.int .i64 z.1) := by
  obtain ⟨a, C⟩ := z
  have hat : (putsC R)[i * 129]? = some (.int .i64 a) := by
    have h1 := congrArg (fun L => L[0]?) (putsC_at h hz)
    simp only [List.getElem?_take, List.getElem?_drop, Nat.add_zero] at h1
    rw [if_pos (by omega)] at h1
    exact h1
  rw [List.getElem?_toArray, List.getElem?_append_left (List.getElem?_eq_some_iff.1 hat).1, hat]
set_option maxRecDepth 100000 in
set_option maxHeartbeats 8000000 in
theorem refMerge_any (l : List Pt) (hl : l.length ≤ 1000) (v : Value) (w0 : World) (hv : PutsAt w0 v l) :
    Calls Try.prog 31 #[v] w0 fun e w' => ∃ sv R, e = .returned sv ∧ OwnL putC 129 70 w0.heap.size w' sv R ∧ IsMerge l R ∧ Below w0.heap.size w0 w' := by
  obtain ⟨ho, p, c, rfl, hc, hp0, hcell⟩ := id hv
  have hS := St.start w0
  obtain ⟨n, hn⟩ : ∃ n, l.length = n := ⟨_, rfl⟩
  rw [hn] at hl hc ⊢
  go_enter Try.func31, Try.ntmps31
  repeat' (first | ((with_reducible refine Ac ?_); first | ((first | refine Ai Aa ?_ | refine Al Aa ?_ | refine Af Aa ?_ | refine Av Aa Ab hS ?_ | refine Ba Aa Ab hS ?_ | refine Ag Aa ?_ | refine Ae Aa ?_ | refine Be Aa ?_ | refine Bd Aa ?_ | refine Cj Aa ?_ | refine Ak Aa ?_ | refine Aj Aa ?_ | refine Aw Aa (fun hc => ?_) (fun hc => ?_) | refine Az Aa ?_ | refine Bk Aa ?_ | refine Ar Aa ?_) <;> refine Ad ?_) | ((first | refine Ao Aa Ab hS ?_ | refine As Aa Ab hS ?_); clear hS; intro b w hS; refine Ad ?_)) | ((fail_if_success (with_reducible refine Ac ?_)); first | go_step | go_step3 | rw [Exit.noGoto_normal] | rw [Exit.noGoto_ret] | rw [Exit.noGoto_exit]))
  go_loopw [3, 4, 5, 6, 7] (fun u3 u4 u5 u6 u7 wr => ∃ (k : Nat) (R : List Pt) (Lr : List Blk), k ≤ n ∧ u4 = .int .i64 (k : Int) ∧ OwL putC 129 70 R u3 Lr ∧ R.length = k ∧ MInv l R ∧ St w0 wr Lr) (fun _ u4 _ _ _ _ => n - (intOf u4).toNat)
  case atStart => exact ⟨0, [], [], by omega, rfl, .inl ⟨rfl, rfl, rfl⟩, rfl, mInv_nil l, hS⟩
  case round =>
    clear hS
    obtain ⟨k, R, Lr, hk, rfl, hR, hRl, hM, hS⟩ := hrel
    obtain ⟨p3, c3, hp3⟩ := hR.slice
    rw [hRl] at hp3
    subst hp3
    by_cases hlt : k < n
    · repeat' (first | ((with_reducible refine Ac ?_); first | ((first | refine Ai Aa ?_ | refine Al Aa ?_ | refine Af Aa ?_ | refine Av Aa Ab hS ?_ | refine Ba Aa Ab hS ?_ | refine Ag Aa ?_ | refine Ae Aa ?_ | refine Be Aa ?_ | refine Bd Aa ?_ | refine Cj Aa ?_ | refine Ak Aa ?_ | refine Aj Aa ?_ | refine Aw Aa (fun hc => ?_) (fun hc => ?_) | refine Az Aa ?_ | refine Bk Aa ?_ | refine Ar Aa ?_) <;> refine Ad ?_) | ((first | refine Ao Aa Ab hS ?_ | refine As Aa Ab hS ?_); clear hS; intro b w hS; refine Ad ?_)) | ((fail_if_success (with_reducible refine Ac ?_)); first | go_step | go_step3 | rw [Exit.noGoto_normal] | rw [Exit.noGoto_ret] | rw [Exit.noGoto_exit]))
      obtain ⟨b0, o0, cs, ty, fr, rfl, hb, hcc⟩ := hcell (by intro e; rw [e] at hn; simp at hn; omega)
      have hRo : okP R := okP_sub ho fun x hx => (lastP_num (hM.2.1 x hx)).2
      go_loopw [5, 6, 7] (fun u5 u6 u7 wr => ∃ (i : Nat) (b : Option Nat), i ≤ n ∧ u6 = .int .i64 (i : Int) ∧ u5 = .int .i64 (match b with | none => -1 | some c => (c : Int)) ∧ Best l R i b ∧ St w0 wr Lr) (fun _ u6 _ _ => n - (intOf u6).toNat)
      case atStart => exact ⟨0, none, by omega, rfl, rfl, best_start l R, hS⟩
      case round =>
        clear hS
        obtain ⟨i, b, hi, rfl, rfl, hB, hS⟩ := hrel
        by_cases hlti : i < n
        · obtain ⟨⟨a, C⟩, hx⟩ : ∃ x, l[i]? = some x := ⟨_, List.getElem?_eq_getElem (by omega)⟩
          obtain ⟨lC, d1, d2, d3, d4⟩ := put_cells ho hcc hx
          have har : -9223372036854775808 ≤ a ∧ a ≤ 9223372036854775807 := (ho _ (List.mem_of_getElem? hx)).2
          by_cases ha : aft R a
          · rcases Nat.eq_zero_or_pos k with hk0 | hk0
            focus
              subst hk0
              repeat' (first | ((with_reducible refine Ac ?_); first | ((first | refine Ai Aa ?_ | refine Al Aa ?_ | refine Af Aa ?_ | refine Av Aa Ab hS ?_ | refine Ba Aa Ab hS ?_ | refine Ag Aa ?_ | refine Ae Aa ?_ | refine Be Aa ?_ | refine Bd Aa ?_ | refine Cj Aa ?_ | refine Ak Aa ?_ | refine Aj Aa ?_ | refine Aw Aa (fun hc => ?_) (fun hc => ?_) | refine Az Aa ?_ | refine Bk Aa ?_ | refine Ar Aa ?_) <;> refine Ad ?_) | ((first | refine Ao Aa Ab hS ?_ | refine As Aa Ab hS ?_); clear hS; intro b w hS; refine Ad ?_)) | ((fail_if_success (with_reducible refine Ac ?_)); first | go_step | go_step3 | rw [Exit.noGoto_normal] | rw [Exit.noGoto_ret] | rw [Exit.noGoto_exit]))
              refine Bv 19 (by kernel_rfl) (by kernel_rfl) ?_
              dsimp only [List.take, List.drop]
              iterate 19 (first | (refine Dc (fun _ => rfl) ?_; simp only [Act.put, List.setIfInBounds_toArray, List.set_cons_zero, List.set_cons_succ]) | (refine Cw (by rfl) (fun _ => rfl) _ (fun w => r_alloc (a := ⟨#[], []⟩) rfl (by infer_instance)) ?_; simp only [Act.put, List.setIfInBounds_toArray, List.set_cons_zero, List.set_cons_succ]) | (refine Cr rfl (fun _ => rfl) (fun K hK => ?_); apply Exists.intro; apply Exists.intro; apply Exists.intro; apply Exists.intro; refine ⟨fun pB w' hw' hF => ?_, hK _ _ ?_⟩; (focus (exact Cf (by rfl) (by rfl) (by infer_instance) (by rfl) (by repeat (first | exact (fun _ h => absurd h List.not_mem_nil) | refine List.forall_mem_cons.2 ⟨by first | rfl | (simp only [Value.cells]; first | rfl | omega), ?_⟩)) (by (try conv => lhs; simp only [List.flatMap_cons, List.flatMap_nil, Value.cells, List.append_nil, List.cons_append, List.nil_append]); first | done | rfl) (by decide) (by decide))); clear hK K; simp only [Act.put, List.setIfInBounds_toArray, List.set_cons_zero, List.set_cons_succ]) | (refine Dd (fun _ => rfl) (fun K hK => ?_); apply Exists.intro; refine ⟨fun pB w' hw' hF => ?_, hK _ _ ?_⟩; (focus (have hZ := (Ab).call hS hw'; first | exact q_move | exact Dh | exact q_load1 Ab hZ | exact q_loadR Ab hZ | exact Ci | exact Cb | exact q_len | exact q_cap | exact Cy | exact q_add | exact q_sub | exact q_mul | exact q_quo | exact q_rem | exact q_cmp_t | exact q_cmp_f | exact De | exact Cx | exact Df | exact Cv | exact Ch | exact Di | exact Dg | exact Cm | exact Co | exact Bt | exact Cl | exact q_conv | exact q_pick | exact q_not | exact Db | exact Ct | exact Cc | exact Dk | exact Dl | exact Cs)); clear hK K; simp only [Act.put, List.setIfInBounds_toArray, List.set_cons_zero, List.set_cons_succ]))
              refine wpM_nil ?_
              intro pB w hcq hfq hnq
              replace hS := (Ab).news hS hcq _ (by first | decide | simp) hfq hnq
              first | simp only [List.map_nil, List.nil_append] at hS | simp only [List.map_cons, List.map_nil, List.cons_append, List.nil_append] at hS
              clear hcq hfq hnq
              try dsimp only
              repeat' (first | ((with_reducible refine Ac ?_); first | ((first | refine Ai Aa ?_ | refine Al Aa ?_ | refine Af Aa ?_ | refine Av Aa Ab hS ?_ | refine Ba Aa Ab hS ?_ | refine Ag Aa ?_ | refine Ae Aa ?_ | refine Be Aa ?_ | refine Bd Aa ?_ | refine Cj Aa ?_ | refine Ak Aa ?_ | refine Aj Aa ?_ | refine Aw Aa (fun hc => ?_) (fun hc => ?_) | refine Az Aa ?_ | refine Bk Aa ?_ | refine Ar Aa ?_) <;> refine Ad ?_) | ((first | refine Ao Aa Ab hS ?_ | refine As Aa Ab hS ?_); clear hS; intro b w hS; refine Ad ?_)) | ((fail_if_success (with_reducible refine Ac ?_)); first | go_step | go_step3 | rw [Exit.noGoto_normal] | rw [Exit.noGoto_ret] | rw [Exit.noGoto_exit]))
            rotate_left
            focus
              rcases hR with ⟨_, h0, _⟩ | ⟨g, cg, spg, e1, g1, g2, g3, rfl⟩
              · rw [h0] at hRl; simp at hRl; omega
              rw [hRl] at e1 g1 g3
              cases e1
              obtain ⟨k', rfl⟩ : ∃ k', k = k' + 1 := ⟨k - 1, by omega⟩
              obtain ⟨z, hz⟩ : ∃ z, R[k']? = some z := ⟨_, List.getElem?_eq_getElem (by omega)⟩
              have hsub : ((k' + 1 : Nat) : Int) - 1 = (k' : Int) := by omega
              have hzc := putsC_num hRo hz (sp := spg)
              have hzs : k' * 129 < csz ((putsC R ++ spg).toArray) := by rw [csz_is]; exact (Array.getElem?_eq_some_iff.1 hzc).1
              have hzl := aft_last (a := a) hM.1 (z := z) (by rw [hRl]; exact hz)
              have hza := hzl.1 ha
              repeat' (first | ((with_reducible refine Ac ?_); first | ((first | refine Ai Aa ?_ | refine Al Aa ?_ | refine Af Aa ?_ | refine Av Aa Ab hS ?_ | refine Ba Aa Ab hS ?_ | refine Ag Aa ?_ | refine Ae Aa ?_ | refine Be Aa ?_ | refine Bd Aa ?_ | refine Cj Aa ?_ | refine Ak Aa ?_ | refine Aj Aa ?_ | refine Aw Aa (fun hc => ?_) (fun hc => ?_) | refine Az Aa ?_ | refine Bk Aa ?_ | refine Ar Aa ?_) <;> refine Ad ?_) | ((first | refine Ao Aa Ab hS ?_ | refine As Aa Ab hS ?_); clear hS; intro b w hS; refine Ad ?_)) | ((fail_if_success (with_reducible refine Ac ?_)); first | go_step | go_step3 | rw [Exit.noGoto_normal] | rw [Exit.noGoto_ret] | rw [Exit.noGoto_exit]))
              refine Bv 19 (by kernel_rfl) (by kernel_rfl) ?_
              dsimp only [List.take, List.drop]
              iterate 19 (first | (refine Dc (fun _ => rfl) ?_; simp only [Act.put, List.setIfInBounds_toArray, List.set_cons_zero, List.set_cons_succ]) | (refine Cw (by rfl) (fun _ => rfl) _ (fun w => r_alloc (a := ⟨#[], []⟩) rfl (by infer_instance)) ?_; simp only [Act.put, List.setIfInBounds_toArray, List.set_cons_zero, List.set_cons_succ]) | (refine Cr rfl (fun _ => rfl) (fun K hK => ?_); apply Exists.intro; apply Exists.intro; apply Exists.intro; apply Exists.intro; refine ⟨fun pB w' hw' hF => ?_, hK _ _ ?_⟩; (focus (exact Cf (by rfl) (by rfl) (by infer_instance) (by rfl) (by repeat (first | exact (fun _ h => absurd h List.not_mem_nil) | refine List.forall_mem_cons.2 ⟨by first | rfl | (simp only [Value.cells]; first | rfl | omega), ?_⟩)) (by (try conv => lhs; simp only [List.flatMap_cons, List.flatMap_nil, Value.cells, List.append_nil, List.cons_append, List.nil_append]); first | done | rfl) (by decide) (by decide))); clear hK K; simp only [Act.put, List.setIfInBounds_toArray, List.set_cons_zero, List.set_cons_succ]) | (refine Dd (fun _ => rfl) (fun K hK => ?_); apply Exists.intro; refine ⟨fun pB w' hw' hF => ?_, hK _ _ ?_⟩; (focus (have hZ := (Ab).call hS hw'; first | exact (Cn (r_sub (k := .i64) (by rfl) (by rfl) (by rfl) (fits_i64 (by omega)) hsub)) | exact q_move | exact Dh | exact q_load1 Ab hZ (hv := by first | rfl | exact Bi | (rw [Array.getElem?_toList]; first | exact d3 | exact hzc)) | exact q_load1F (by first | exact ((hZ).far hb).1) (hv := by first | rfl | exact Bi | (rw [Array.getElem?_toList]; first | exact d3 | exact hzc)) | exact q_loadR Ab hZ (hv := by first | exact Bo _ _ (by (try simp only [Bn, Bg, Bm, List.length_append, List.length_set, zs_len, List.length_take, List.length_drop, List.length_cons, List.length_nil]); first | done | rfl | omega) | (first | exact d3 | exact hzc) | rfl) | exact q_loadRF (by first | exact ((hZ).far hb).1) (hv := by first | exact Bo _ _ (by (try simp only [Bn, Bg, Bm, List.length_append, List.length_set, zs_len, List.length_take, List.length_drop, List.length_cons, List.length_nil]); first | done | rfl | omega) | (first | exact d3 | exact hzc) | rfl) | exact Ci | exact Cb | exact q_len | exact q_cap | exact Cy | exact q_add | exact q_sub | exact q_mul | exact q_quo | exact q_rem | exact q_cmp_t | exact q_cmp_f | exact De | exact Cx | exact Df | exact Cv | exact Ch | exact Di (hv' := by first | rfl | exact Bi | (rw [Array.getElem?_toList]; first | exact d3 | exact hzc)) | exact Dg | exact Cm | exact Co | exact Bt | exact Cl | exact q_conv | exact q_pick | exact q_not | exact Db | exact Ct | exact Cc | exact Dk | exact Dl | exact Cs)); clear hK K; simp only [Act.put, List.setIfInBounds_toArray, List.set_cons_zero, List.set_cons_succ]))
              refine wpM_nil ?_
              intro pB w hcq hfq hnq
              replace hS := (Ab).news hS hcq _ (by first | decide | simp) hfq hnq
              first | simp only [List.map_nil, List.nil_append] at hS | simp only [List.map_cons, List.map_nil, List.cons_append, List.nil_append] at hS
              clear hcq hfq hnq
              try dsimp only
              repeat' (first | ((with_reducible refine Ac ?_); first | ((first | refine Ai Aa ?_ | refine Al Aa ?_ | refine Af Aa ?_ | refine Av Aa Ab hS ?_ | refine Ba Aa Ab hS ?_ | refine Ag Aa ?_ | refine Ae Aa ?_ | refine Be Aa ?_ | refine Bd Aa ?_ | refine Cj Aa ?_ | refine Ak Aa ?_ | refine Aj Aa ?_ | refine Aw Aa (fun hc => ?_) (fun hc => ?_) | refine Az Aa ?_ | refine Bk Aa ?_ | refine Ar Aa ?_) <;> refine Ad ?_) | ((first | refine Ao Aa Ab hS ?_ | refine As Aa Ab hS ?_); clear hS; intro b w hS; refine Ad ?_)) | ((fail_if_success (with_reducible refine Ac ?_)); first | go_step | go_step3 | rw [Exit.noGoto_normal] | rw [Exit.noGoto_ret] | rw [Exit.noGoto_exit]))
            all_goals
              cases b with
              | none =>
                refine Bv 18 (by kernel_rfl) (by kernel_rfl) ?_
                dsimp only [List.take, List.drop]
                iterate 18 (first | (refine Dc (fun _ => rfl) ?_; simp only [Act.put, List.setIfInBounds_toArray, List.set_cons_zero, List.set_cons_succ]) | (refine Cw (by rfl) (fun _ => rfl) _ (fun w => r_alloc (a := ⟨#[], []⟩) rfl (by infer_instance)) ?_; simp only [Act.put, List.setIfInBounds_toArray, List.set_cons_zero, List.set_cons_succ]) | (refine Cr rfl (fun _ => rfl) (fun K hK => ?_); apply Exists.intro; apply Exists.intro; apply Exists.intro; apply Exists.intro; refine ⟨fun pB w' hw' hF => ?_, hK _ _ ?_⟩; (focus (exact Cf (by rfl) (by rfl) (by infer_instance) (by rfl) (by repeat (first | exact (fun _ h => absurd h List.not_mem_nil) | refine List.forall_mem_cons.2 ⟨by first | rfl | (simp only [Value.cells]; first | rfl | omega), ?_⟩)) (by (try conv => lhs; simp only [List.flatMap_cons, List.flatMap_nil, Value.cells, List.append_nil, List.cons_append, List.nil_append]); first | done | rfl) (by decide) (by decide))); clear hK K; simp only [Act.put, List.setIfInBounds_toArray, List.set_cons_zero, List.set_cons_succ]) | (refine Dd (fun _ => rfl) (fun K hK => ?_); apply Exists.intro; refine ⟨fun pB w' hw' hF => ?_, hK _ _ ?_⟩; (focus (have hZ := (Ab).call hS hw'; first | exact q_move | exact Dh | exact q_load1 Ab hZ | exact q_loadR Ab hZ | exact Ci | exact Cb | exact q_len | exact q_cap | exact Cy | exact q_add | exact q_sub | exact q_mul | exact q_quo | exact q_rem | exact q_cmp_t | exact q_cmp_f | exact De | exact Cx | exact Df | exact Cv | exact Ch | exact Di | exact Dg | exact Cm | exact Co | exact Bt | exact Cl | exact q_conv | exact q_pick | exact q_not | exact Db | exact Ct | exact Cc | exact Dk | exact Dl | exact Cs)); clear hK K; simp only [Act.put, List.setIfInBounds_toArray, List.set_cons_zero, List.set_cons_succ]))
                refine wpM_nil ?_
                intro pB w hcq hfq hnq
                replace hS := (Ab).news hS hcq _ (by first | decide | simp) hfq hnq
                first | simp only [List.map_nil, List.nil_append] at hS | simp only [List.map_cons, List.map_nil, List.cons_append, List.nil_append] at hS
                clear hcq hfq hnq
                try dsimp only
                repeat' (first | ((with_reducible refine Ac ?_); first | ((first | refine Ai Aa ?_ | refine Al Aa ?_ | refine Af Aa ?_ | refine Av Aa Ab hS ?_ | refine Ba Aa Ab hS ?_ | refine Ag Aa ?_ | refine Ae Aa ?_ | refine Be Aa ?_ | refine Bd Aa ?_ | refine Cj Aa ?_ | refine Ak Aa ?_ | refine Aj Aa ?_ | refine Aw Aa (fun hc => ?_) (fun hc => ?_) | refine Az Aa ?_ | refine Bk Aa ?_ | refine Ar Aa ?_) <;> refine Ad ?_) | ((first | refine Ao Aa Ab hS ?_ | refine As Aa Ab hS ?_); clear hS; intro b w hS; refine Ad ?_)) | ((fail_if_success (with_reducible refine Ac ?_)); first | go_step | go_step3 | rw [Exit.noGoto_normal] | rw [Exit.noGoto_ret] | rw [Exit.noGoto_exit]))
                go_roundw
                case rel => exact ⟨i + 1, some i, by omega, by push_cast; rfl, rfl, best_take hx ha hB (fun c y e => by cases e), hS⟩
                case measure => first | (simp [intOf]; done) | (simp [intOf]; omega)
              | some c =>
                obtain ⟨hci, ⟨ay, Cy⟩, hy, _, _⟩ := id hB
                obtain ⟨lCy, e1, e2, e3, e4⟩ := put_cells ho hcc hy
                by_cases hle : a ≤ ay
                · skip
                  refine Bv 18 (by kernel_rfl) (by kernel_rfl) ?_
                  dsimp only [List.take, List.drop]
                  iterate 18 (first | (refine Dc (fun _ => rfl) ?_; simp only [Act.put, List.setIfInBounds_toArray, List.set_cons_zero, List.set_cons_succ]) | (refine Cw (by rfl) (fun _ => rfl) _ (fun w => r_alloc (a := ⟨#[], []⟩) rfl (by infer_instance)) ?_; simp only [Act.put, List.setIfInBounds_toArray, List.set_cons_zero, List.set_cons_succ]) | (refine Cr rfl (fun _ => rfl) (fun K hK => ?_); apply Exists.intro; apply Exists.intro; apply Exists.intro; apply Exists.intro; refine ⟨fun pB w' hw' hF => ?_, hK _ _ ?_⟩; (focus (exact Cf (by rfl) (by rfl) (by infer_instance) (by rfl) (by repeat (first | exact (fun _ h => absurd h List.not_mem_nil) | refine List.forall_mem_cons.2 ⟨by first | rfl | (simp only [Value.cells]; first | rfl | omega), ?_⟩)) (by (try conv => lhs; simp only [List.flatMap_cons, List.flatMap_nil, Value.cells, List.append_nil, List.cons_append, List.nil_append]); first | done | rfl) (by decide) (by decide))); clear hK K; simp only [Act.put, List.setIfInBounds_toArray, List.set_cons_zero, List.set_cons_succ]) | (refine Dd (fun _ => rfl) (fun K hK => ?_); apply Exists.intro; refine ⟨fun pB w' hw' hF => ?_, hK _ _ ?_⟩; (focus (have hZ := (Ab).call hS hw'; first | exact q_move | exact Dh | exact q_load1 Ab hZ (hv := by first | rfl | exact Bi | (rw [Array.getElem?_toList]; first | exact d3 | exact e3)) | exact q_load1F (by first | exact ((hZ).far hb).1) (hv := by first | rfl | exact Bi | (rw [Array.getElem?_toList]; first | exact d3 | exact e3)) | exact q_loadR Ab hZ (hv := by first | exact Bo _ _ (by (try simp only [Bn, Bg, Bm, List.length_append, List.length_set, zs_len, List.length_take, List.length_drop, List.length_cons, List.length_nil]); first | done | rfl | omega) | (first | exact d3 | exact e3) | rfl) | exact q_loadRF (by first | exact ((hZ).far hb).1) (hv := by first | exact Bo _ _ (by (try simp only [Bn, Bg, Bm, List.length_append, List.length_set, zs_len, List.length_take, List.length_drop, List.length_cons, List.length_nil]); first | done | rfl | omega) | (first | exact d3 | exact e3) | rfl) | exact Ci | exact Cb | exact q_len | exact q_cap | exact Cy | exact q_add | exact q_sub | exact q_mul | exact q_quo | exact q_rem | exact q_cmp_t | exact q_cmp_f | exact De | exact Cx | exact Df | exact Cv | exact Ch | exact Di (hv' := by first | rfl | exact Bi | (rw [Array.getElem?_toList]; first | exact d3 | exact e3)) | exact Dg | exact Cm | exact Co | exact Bt | exact Cl | exact q_conv | exact q_pick | exact q_not | exact Db | exact Ct | exact Cc | exact Dk | exact Dl | exact Cs)); clear hK K; simp only [Act.put, List.setIfInBounds_toArray, List.set_cons_zero, List.set_cons_succ]))
                  refine wpM_nil ?_
                  intro pB w hcq hfq hnq
                  replace hS := (Ab).news hS hcq _ (by first | decide | simp) hfq hnq
                  first | simp only [List.map_nil, List.nil_append] at hS | simp only [List.map_cons, List.map_nil, List.cons_append, List.nil_append] at hS
                  clear hcq hfq hnq
                  try dsimp only
                  repeat' (first | ((with_reducible refine Ac ?_); first | ((first | refine Ai Aa ?_ | refine Al Aa ?_ | refine Af Aa ?_ | refine Av Aa Ab hS ?_ | refine Ba Aa Ab hS ?_ | refine Ag Aa ?_ | refine Ae Aa ?_ | refine Be Aa ?_ | refine Bd Aa ?_ | refine Cj Aa ?_ | refine Ak Aa ?_ | refine Aj Aa ?_ | refine Aw Aa (fun hc => ?_) (fun hc => ?_) | refine Az Aa ?_ | refine Bk Aa ?_ | refine Ar Aa ?_) <;> refine Ad ?_) | ((first | refine Ao Aa Ab hS ?_ | refine As Aa Ab hS ?_); clear hS; intro b w hS; refine Ad ?_)) | ((fail_if_success (with_reducible refine Ac ?_)); first | go_step | go_step3 | rw [Exit.noGoto_normal] | rw [Exit.noGoto_ret] | rw [Exit.noGoto_exit]))
                  go_roundw
                  case rel => exact ⟨i + 1, some i, by omega, by push_cast; rfl, rfl, best_take hx ha hB (fun c' y e h => by cases e; rw [hy] at h; cases h; exact hle), hS⟩
                  case measure => first | (simp [intOf]; done) | (simp [intOf]; omega)
                · skip
                  refine Bv 18 (by kernel_rfl) (by kernel_rfl) ?_
                  dsimp only [List.take, List.drop]
                  iterate 18 (first | (refine Dc (fun _ => rfl) ?_; simp only [Act.put, List.setIfInBounds_toArray, List.set_cons_zero, List.set_cons_succ]) | (refine Cw (by rfl) (fun _ => rfl) _ (fun w => r_alloc (a := ⟨#[], []⟩) rfl (by infer_instance)) ?_; simp only [Act.put, List.setIfInBounds_toArray, List.set_cons_zero, List.set_cons_succ]) | (refine Cr rfl (fun _ => rfl) (fun K hK => ?_); apply Exists.intro; apply Exists.intro; apply Exists.intro; apply Exists.intro; refine ⟨fun pB w' hw' hF => ?_, hK _ _ ?_⟩; (focus (exact Cf (by rfl) (by rfl) (by infer_instance) (by rfl) (by repeat (first | exact (fun _ h => absurd h List.not_mem_nil) | refine List.forall_mem_cons.2 ⟨by first | rfl | (simp only [Value.cells]; first | rfl | omega), ?_⟩)) (by (try conv => lhs; simp only [List.flatMap_cons, List.flatMap_nil, Value.cells, List.append_nil, List.cons_append, List.nil_append]); first | done | rfl) (by decide) (by decide))); clear hK K; simp only [Act.put, List.setIfInBounds_toArray, List.set_cons_zero, List.set_cons_succ]) | (refine Dd (fun _ => rfl) (fun K hK => ?_); apply Exists.intro; refine ⟨fun pB w' hw' hF => ?_, hK _ _ ?_⟩; (focus (have hZ := (Ab).call hS hw'; first | exact q_move | exact Dh | exact q_load1 Ab hZ (hv := by first | rfl | exact Bi | (rw [Array.getElem?_toList]; first | exact d3 | exact e3)) | exact q_load1F (by first | exact ((hZ).far hb).1) (hv := by first | rfl | exact Bi | (rw [Array.getElem?_toList]; first | exact d3 | exact e3)) | exact q_loadR Ab hZ (hv := by first | exact Bo _ _ (by (try simp only [Bn, Bg, Bm, List.length_append, List.length_set, zs_len, List.length_take, List.length_drop, List.length_cons, List.length_nil]); first | done | rfl | omega) | (first | exact d3 | exact e3) | rfl) | exact q_loadRF (by first | exact ((hZ).far hb).1) (hv := by first | exact Bo _ _ (by (try simp only [Bn, Bg, Bm, List.length_append, List.length_set, zs_len, List.length_take, List.length_drop, List.length_cons, List.length_nil]); first | done | rfl | omega) | (first | exact d3 | exact e3) | rfl) | exact Ci | exact Cb | exact q_len | exact q_cap | exact Cy | exact q_add | exact q_sub | exact q_mul | exact q_quo | exact q_rem | exact q_cmp_t | exact q_cmp_f | exact De | exact Cx | exact Df | exact Cv | exact Ch | exact Di (hv' := by first | rfl | exact Bi | (rw [Array.getElem?_toList]; first | exact d3 | exact e3)) | exact Dg | exact Cm | exact Co | exact Bt | exact Cl | exact q_conv | exact q_pick | exact q_not | exact Db | exact Ct | exact Cc | exact Dk | exact Dl | exact Cs)); clear hK K; simp only [Act.put, List.setIfInBounds_toArray, List.set_cons_zero, List.set_cons_succ]))
                  refine wpM_nil ?_
                  intro pB w hcq hfq hnq
                  replace hS := (Ab).news hS hcq _ (by first | decide | simp) hfq hnq
                  first | simp only [List.map_nil, List.nil_append] at hS | simp only [List.map_cons, List.map_nil, List.cons_append, List.nil_append] at hS
                  clear hcq hfq hnq
                  try dsimp only
                  repeat' (first | ((with_reducible refine Ac ?_); first | ((first | refine Ai Aa ?_ | refine Al Aa ?_ | refine Af Aa ?_ | refine Av Aa Ab hS ?_ | refine Ba Aa Ab hS ?_ | refine Ag Aa ?_ | refine Ae Aa ?_ | refine Be Aa ?_ | refine Bd Aa ?_ | refine Cj Aa ?_ | refine Ak Aa ?_ | refine Aj Aa ?_ | refine Aw Aa (fun hc => ?_) (fun hc => ?_) | refine Az Aa ?_ | refine Bk Aa ?_ | refine Ar Aa ?_) <;> refine Ad ?_) | ((first | refine Ao Aa Ab hS ?_ | refine As Aa Ab hS ?_); clear hS; intro b w hS; refine Ad ?_)) | ((fail_if_success (with_reducible refine Ac ?_)); first | go_step | go_step3 | rw [Exit.noGoto_normal] | rw [Exit.noGoto_ret] | rw [Exit.noGoto_exit]))
                  go_roundw
                  case rel => exact ⟨i + 1, some c, by omega, by push_cast; rfl, rfl, best_leave hx hB (fun _ => ⟨c, _, rfl, hy, by dsimp only; omega⟩), hS⟩
                  case measure => first | (simp [intOf]; done) | (simp [intOf]; omega)
          · have hk0 : 0 < k := by
              rcases Nat.eq_zero_or_pos k with h | h
              · rw [h] at hRl
                rw [List.eq_nil_of_length_eq_zero hRl] at ha
                exact absurd (aft_nil a) ha
              · exact h
            rcases hR with ⟨_, h0, _⟩ | ⟨g, cg, spg, e1, g1, g2, g3, rfl⟩
            · rw [h0] at hRl; simp at hRl; omega
            rw [hRl] at e1 g1 g3
            cases e1
            obtain ⟨k', rfl⟩ : ∃ k', k = k' + 1 := ⟨k - 1, by omega⟩
            obtain ⟨z, hz⟩ : ∃ z, R[k']? = some z := ⟨_, List.getElem?_eq_getElem (by omega)⟩
            have hsub : ((k' + 1 : Nat) : Int) - 1 = (k' : Int) := by omega
            have hzc := putsC_num hRo hz (sp := spg)
            have hzs : k' * 129 < csz ((putsC R ++ spg).toArray) := by rw [csz_is]; exact (Array.getElem?_eq_some_iff.1 hzc).1
            have hzl := aft_last (a := a) hM.1 (z := z) (by rw [hRl]; exact hz)
            have hza : ¬ z.1 < a := fun h => ha (hzl.2 h)
            repeat' (first | ((with_reducible refine Ac ?_); first | ((first | refine Ai Aa ?_ | refine Al Aa ?_ | refine Af Aa ?_ | refine Av Aa Ab hS ?_ | refine Ba Aa Ab hS ?_ | refine Ag Aa ?_ | refine Ae Aa ?_ | refine Be Aa ?_ | refine Bd Aa ?_ | refine Cj Aa ?_ | refine Ak Aa ?_ | refine Aj Aa ?_ | refine Aw Aa (fun hc => ?_) (fun hc => ?_) | refine Az Aa ?_ | refine Bk Aa ?_ | refine Ar Aa ?_) <;> refine Ad ?_) | ((first | refine Ao Aa Ab hS ?_ | refine As Aa Ab hS ?_); clear hS; intro b w hS; refine Ad ?_)) | ((fail_if_success (with_reducible refine Ac ?_)); first | go_step | go_step3 | rw [Exit.noGoto_normal] | rw [Exit.noGoto_ret] | rw [Exit.noGoto_exit]))
            refine Bv 19 (by kernel_rfl) (by kernel_rfl) ?_
            dsimp only [List.take, List.drop]
            iterate 19 (first | (refine Dc (fun _ => rfl) ?_; simp only [Act.put, List.setIfInBounds_toArray, List.set_cons_zero, List.set_cons_succ]) | (refine Cw (by rfl) (fun _ => rfl) _ (fun w => r_alloc (a := ⟨#[], []⟩) rfl (by infer_instance)) ?_; simp only [Act.put, List.setIfInBounds_toArray, List.set_cons_zero, List.set_cons_succ]) | (refine Cr rfl (fun _ => rfl) (fun K hK => ?_); apply Exists.intro; apply Exists.intro; apply Exists.intro; apply Exists.intro; refine ⟨fun pB w' hw' hF => ?_, hK _ _ ?_⟩; (focus (exact Cf (by rfl) (by rfl) (by infer_instance) (by rfl) (by repeat (first | exact (fun _ h => absurd h List.not_mem_nil) | refine List.forall_mem_cons.2 ⟨by first | rfl | (simp only [Value.cells]; first | rfl | omega), ?_⟩)) (by (try conv => lhs; simp only [List.flatMap_cons, List.flatMap_nil, Value.cells, List.append_nil, List.cons_append, List.nil_append]); first | done | rfl) (by decide) (by decide))); clear hK K; simp only [Act.put, List.setIfInBounds_toArray, List.set_cons_zero, List.set_cons_succ]) | (refine Dd (fun _ => rfl) (fun K hK => ?_); apply Exists.intro; refine ⟨fun pB w' hw' hF => ?_, hK _ _ ?_⟩; (focus (have hZ := (Ab).call hS hw'; first | exact (Cn (r_sub (k := .i64) (by rfl) (by rfl) (by rfl) (fits_i64 (by omega)) hsub)) | exact q_move | exact Dh | exact q_load1 Ab hZ (hv := by first | rfl | exact Bi | (rw [Array.getElem?_toList]; first | exact d3 | exact hzc)) | exact q_load1F (by first | exact ((hZ).far hb).1) (hv := by first | rfl | exact Bi | (rw [Array.getElem?_toList]; first | exact d3 | exact hzc)) | exact q_loadR Ab hZ (hv := by first | exact Bo _ _ (by (try simp only [Bn, Bg, Bm, List.length_append, List.length_set, zs_len, List.length_take, List.length_drop, List.length_cons, List.length_nil]); first | done | rfl | omega) | (first | exact d3 | exact hzc) | rfl) | exact q_loadRF (by first | exact ((hZ).far hb).1) (hv := by first | exact Bo _ _ (by (try simp only [Bn, Bg, Bm, List.length_append, List.length_set, zs_len, List.length_take, List.length_drop, List.length_cons, List.length_nil]); first | done | rfl | omega) | (first | exact d3 | exact hzc) | rfl) | exact Ci | exact Cb | exact q_len | exact q_cap | exact Cy | exact q_add | exact q_sub | exact q_mul | exact q_quo | exact q_rem | exact q_cmp_t | exact q_cmp_f | exact De | exact Cx | exact Df | exact Cv | exact Ch | exact Di (hv' := by first | rfl | exact Bi | (rw [Array.getElem?_toList]; first | exact d3 | exact hzc)) | exact Dg | exact Cm | exact Co | exact Bt | exact Cl | exact q_conv | exact q_pick | exact q_not | exact Db | exact Ct | exact Cc | exact Dk | exact Dl | exact Cs)); clear hK K; simp only [Act.put, List.setIfInBounds_toArray, List.set_cons_zero, List.set_cons_succ]))
            refine wpM_nil ?_
            intro pB w hcq hfq hnq
            replace hS := (Ab).news hS hcq _ (by first | decide | simp) hfq hnq
            first | simp only [List.map_nil, List.nil_append] at hS | simp only [List.map_cons, List.map_nil, List.cons_append, List.nil_append] at hS
            clear hcq hfq hnq
            try dsimp only
            repeat' (first | ((with_reducible refine Ac ?_); first | ((first | refine Ai Aa ?_ | refine Al Aa ?_ | refine Af Aa ?_ | refine Av Aa Ab hS ?_ | refine Ba Aa Ab hS ?_ | refine Ag Aa ?_ | refine Ae Aa ?_ | refine Be Aa ?_ | refine Bd Aa ?_ | refine Cj Aa ?_ | refine Ak Aa ?_ | refine Aj Aa ?_ | refine Aw Aa (fun hc => ?_) (fun hc => ?_) | refine Az Aa ?_ | refine Bk Aa ?_ | refine Ar Aa ?_) <;> refine Ad ?_) | ((first | refine Ao Aa Ab hS ?_ | refine As Aa Ab hS ?_); clear hS; intro b w hS; refine Ad ?_)) | ((fail_if_success (with_reducible refine Ac ?_)); first | go_step | go_step3 | rw [Exit.noGoto_normal] | rw [Exit.noGoto_ret] | rw [Exit.noGoto_exit]))
            refine Bv 18 (by kernel_rfl) (by kernel_rfl) ?_
            dsimp only [List.take, List.drop]
            iterate 18 (first | (refine Dc (fun _ => rfl) ?_; simp only [Act.put, List.setIfInBounds_toArray, List.set_cons_zero, List.set_cons_succ]) | (refine Cw (by rfl) (fun _ => rfl) _ (fun w => r_alloc (a := ⟨#[], []⟩) rfl (by infer_instance)) ?_; simp only [Act.put, List.setIfInBounds_toArray, List.set_cons_zero, List.set_cons_succ]) | (refine Cr rfl (fun _ => rfl) (fun K hK => ?_); apply Exists.intro; apply Exists.intro; apply Exists.intro; apply Exists.intro; refine ⟨fun pB w' hw' hF => ?_, hK _ _ ?_⟩; (focus (exact Cf (by rfl) (by rfl) (by infer_instance) (by rfl) (by repeat (first | exact (fun _ h => absurd h List.not_mem_nil) | refine List.forall_mem_cons.2 ⟨by first | rfl | (simp only [Value.cells]; first | rfl | omega), ?_⟩)) (by (try conv => lhs; simp only [List.flatMap_cons, List.flatMap_nil, Value.cells, List.append_nil, List.cons_append, List.nil_append]); first | done | rfl) (by decide) (by decide))); clear hK K; simp only [Act.put, List.setIfInBounds_toArray, List.set_cons_zero, List.set_cons_succ]) | (refine Dd (fun _ => rfl) (fun K hK => ?_); apply Exists.intro; refine ⟨fun pB w' hw' hF => ?_, hK _ _ ?_⟩; (focus (have hZ := (Ab).call hS hw'; first | exact q_move | exact Dh | exact q_load1 Ab hZ | exact q_loadR Ab hZ | exact Ci | exact Cb | exact q_len | exact q_cap | exact Cy | exact q_add | exact q_sub | exact q_mul | exact q_quo | exact q_rem | exact q_cmp_t | exact q_cmp_f | exact De | exact Cx | exact Df | exact Cv | exact Ch | exact Di | exact Dg | exact Cm | exact Co | exact Bt | exact Cl | exact q_conv | exact q_pick | exact q_not | exact Db | exact Ct | exact Cc | exact Dk | exact Dl | exact Cs)); clear hK K; simp only [Act.put, List.setIfInBounds_toArray, List.set_cons_zero, List.set_cons_succ]))
            refine wpM_nil ?_
            intro pB w hcq hfq hnq
            replace hS := (Ab).news hS hcq _ (by first | decide | simp) hfq hnq
            first | simp only [List.map_nil, List.nil_append] at hS | simp only [List.map_cons, List.map_nil, List.cons_append, List.nil_append] at hS
            clear hcq hfq hnq
            try dsimp only
            repeat' (first | ((with_reducible refine Ac ?_); first | ((first | refine Ai Aa ?_ | refine Al Aa ?_ | refine Af Aa ?_ | refine Av Aa Ab hS ?_ | refine Ba Aa Ab hS ?_ | refine Ag Aa ?_ | refine Ae Aa ?_ | refine Be Aa ?_ | refine Bd Aa ?_ | refine Cj Aa ?_ | refine Ak Aa ?_ | refine Aj Aa ?_ | refine Aw Aa (fun hc => ?_) (fun hc => ?_) | refine Az Aa ?_ | refine Bk Aa ?_ | refine Ar Aa ?_) <;> refine Ad ?_) | ((first | refine Ao Aa Ab hS ?_ | refine As Aa Ab hS ?_); clear hS; intro b w hS; refine Ad ?_)) | ((fail_if_success (with_reducible refine Ac ?_)); first | go_step | go_step3 | rw [Exit.noGoto_normal] | rw [Exit.noGoto_ret] | rw [Exit.noGoto_exit]))
            go_roundw
            case rel => exact ⟨i + 1, b, by omega, by push_cast; rfl, rfl, best_leave hx hB (fun h => absurd h ha), hS⟩
            case measure => first | (simp [intOf]; done) | (simp [intOf]; omega)
        · obtain rfl : i = n := by omega
          cases b with
          | none =>
            have hI := mInv_none hM (by rw [hn]; exact hB)
            repeat' (first | ((with_reducible refine Ac ?_); first | ((first | refine Ai Aa ?_ | refine Al Aa ?_ | refine Af Aa ?_ | refine Av Aa Ab hS ?_ | refine Ba Aa Ab hS ?_ | refine Ag Aa ?_ | refine Ae Aa ?_ | refine Be Aa ?_ | refine Bd Aa ?_ | refine Cj Aa ?_ | refine Ak Aa ?_ | refine Aj Aa ?_ | refine Aw Aa (fun hc => ?_) (fun hc => ?_) | refine Az Aa ?_ | refine Bk Aa ?_ | refine Ar Aa ?_) <;> refine Ad ?_) | ((first | refine Ao Aa Ab hS ?_ | refine As Aa Ab hS ?_); clear hS; intro b w hS; refine Ad ?_)) | ((fail_if_success (with_reducible refine Ac ?_)); first | go_step | go_step3 | rw [Exit.noGoto_normal] | rw [Exit.noGoto_ret] | rw [Exit.noGoto_exit]))
            go_ret
            exact ⟨_, R, rfl, hR.own hS (fun x hx => hx), hI, hS.below⟩
          | some c =>
            obtain ⟨hci, ⟨ay, Cy⟩, hy, _, _⟩ := id hB
            obtain ⟨lCy, e1, e2, e3, e4⟩ := put_cells ho hcc hy
            have s1 : (hdV ay Cy).size = 129 := by rw [← csz_is, hdV_size, lCy]
            have hM2 := mInv_next hM (by rw [hn]; exact hB) hy
            repeat' (first | ((with_reducible refine Ac ?_); first | ((first | refine Ai Aa ?_ | refine Al Aa ?_ | refine Af Aa ?_ | refine Av Aa Ab hS ?_ (hv := by first | rfl | exact Bi | (rw [Array.getElem?_toList]; exact e2)) | refine Bs Aa (by first | exact ((hS).far hb).1) ?_ (hv := by first | rfl | exact Bi | (rw [Array.getElem?_toList]; exact e2)) | refine Ba Aa Ab hS ?_ (hv := by first | exact Bo _ _ (by (try simp only [Bn, Bg, Bm, List.length_append, List.length_set, zs_len, List.length_take, List.length_drop, List.length_cons, List.length_nil]); first | done | rfl | omega) | (exact e2) | rfl) | refine Da Aa (by first | exact ((hS).far hb).1) ?_ (hv := by first | exact Bo _ _ (by (try simp only [Bn, Bg, Bm, List.length_append, List.length_set, zs_len, List.length_take, List.length_drop, List.length_cons, List.length_nil]); first | done | rfl | omega) | (exact e2) | rfl) | refine Ag Aa ?_ | refine Ae Aa ?_ | refine Be Aa ?_ | refine Bd Aa ?_ | refine Cj Aa ?_ | refine Ak Aa ?_ | refine Aj Aa ?_ | refine Aw Aa (fun hc => ?_) (fun hc => ?_) | refine Az Aa ?_ | refine Bk Aa ?_ | refine Ar Aa ?_) <;> refine Ad ?_) | ((first | refine Ao Aa Ab hS ?_ | refine As Aa Ab hS ?_); clear hS; intro b w hS; refine Ad ?_)) | ((fail_if_success (with_reducible refine Ac ?_)); first | go_step | go_step3 | rw [Exit.noGoto_normal] | rw [Exit.noGoto_ret] | rw [Exit.noGoto_exit]))
            refine s_appL (f := putC) (x0 := (ay, Cy)) (L := []) Aa Ab (by rw [List.append_nil]; exact hS) hR (by rfl) (by rfl) (by rfl) (by rfl) (by infer_instance) (fun a ha => putC_len (hRo a ha).1) (putC_len lCy) putC_one (by rw [hRl]; unfold maxLen; omega) ?_
            clear hS hR
            intro sv2 Lr2 w2 hR hS
            rw [List.append_nil] at hS
            obtain ⟨p2, c5, hpv2⟩ := hR.slice
            subst hpv2
            refine Ad ?_
            repeat' (first | ((with_reducible refine Ac ?_); first | ((first | refine Ai Aa ?_ | refine Al Aa ?_ | refine Af Aa ?_ | refine Av Aa Ab hS ?_ | refine Ba Aa Ab hS ?_ | refine Ag Aa ?_ | refine Ae Aa ?_ | refine Be Aa ?_ | refine Bd Aa ?_ | refine Cj Aa ?_ | refine Ak Aa ?_ | refine Aj Aa ?_ | refine Aw Aa (fun hc => ?_) (fun hc => ?_) | refine Az Aa ?_ | refine Bk Aa ?_ | refine Ar Aa ?_) <;> refine Ad ?_) | ((first | refine Ao Aa Ab hS ?_ | refine As Aa Ab hS ?_); clear hS; intro b w hS; refine Ad ?_)) | ((fail_if_success (with_reducible refine Ac ?_)); first | go_step | go_step3 | rw [Exit.noGoto_normal] | rw [Exit.noGoto_ret] | rw [Exit.noGoto_exit]))
            go_roundw
            case rel => exact ⟨k + 1, R ++ [(ay, Cy)], Lr2, by omega, by push_cast; rfl, hR, by rw [List.length_append, hRl]; rfl, hM2, hS⟩
            case measure => first | (simp [intOf]; done) | (simp [intOf]; omega)
    · obtain rfl : k = n := by omega
      have hI := mInv_full hM (by omega)
      repeat' (first | ((with_reducible refine Ac ?_); first | ((first | refine Ai Aa ?_ | refine Al Aa ?_ | refine Af Aa ?_ | refine Av Aa Ab hS ?_ | refine Ba Aa Ab hS ?_ | refine Ag Aa ?_ | refine Ae Aa ?_ | refine Be Aa ?_ | refine Bd Aa ?_ | refine Cj Aa ?_ | refine Ak Aa ?_ | refine Aj Aa ?_ | refine Aw Aa (fun hc => ?_) (fun hc => ?_) | refine Az Aa ?_ | refine Bk Aa ?_ | refine Ar Aa ?_) <;> refine Ad ?_) | ((first | refine Ao Aa Ab hS ?_ | refine As Aa Ab hS ?_); clear hS; intro b w hS; refine Ad ?_)) | ((fail_if_success (with_reducible refine Ac ?_)); first | go_step | go_step3 | rw [Exit.noGoto_normal] | rw [Exit.noGoto_ret] | rw [Exit.noGoto_exit]))
      go_ret
      exact ⟨_, R, rfl, hR.own hS (fun x hx => hx), hI, hS.below⟩
end Go.Proofs.Ytcjncidahjneaaa
