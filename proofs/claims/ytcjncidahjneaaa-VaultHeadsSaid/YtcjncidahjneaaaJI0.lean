/-
  Laws that the claims of this seat use, of several texts in one: Fluid, Hd1, Hd3. No condition of their own.
-/
import Derived.Test.YtcjncidahjneaaaJH0

namespace Go.Proofs.Ytcjncidahjneaaa
open Go.RowKit
/-- Each operation but those of F waits for number i. -/
def addG (F : List Nat) (i : Nat) : Nat → List Oper → List Oper
  | _, [] => []
  | k, o :: l => (if F.contains k then o else ⟨o.dst, o.op, o.type, o.pos, (o.after.toList ++ [(⟨i, .data⟩ : Edge)]).toArray, o.guard⟩) :: addG F i (k + 1) l
def isMove (o : Oper) : Bool := (match o.op with | .move _ => true | _ => false) && o.after.isEmpty && o.guard.isNone && o.dst.isSome
def fluidOK (F : List Nat) : List Nat → List Oper → Bool
  | [], _ => true
  | i :: r, l => F.contains i && (match l[i]? with | some o => isMove o | none => false) && Region.noSelect l.toArray && Region.free .any l.toArray (Array.replicate l.length false) i && fluidOK F r (addG F i 0 l)
def addGs (F : List Nat) : List Nat → List Oper → List Oper
  | [], l => l
  | i :: r, l => addGs F r (addG F i 0 l)
section
variable {P : Program} {Q : Exit → Act → World → Prop} {F : List Nat} {i : Nat}
theorem addG_len : ∀ (k : Nat) (l : List Oper), (addG F i k l).length = l.length
  | _, [] => rfl
  | k, o :: l => by simp only [addG, List.length_cons, addG_len (k + 1) l]
theorem addG_at : ∀ (k : Nat) (l : List Oper) (j : Nat), (addG F i k l)[j]? = (l[j]?).map fun o => if F.contains (k + j) then o else ⟨o.dst, o.op, o.type, o.pos, (o.after.toList ++ [(⟨i, .data⟩ : Edge)]).toArray, o.guard⟩
  | k, [], j => by simp [addG]
  | k, o :: l, 0 => by simp [addG]
  | k, o :: l, j + 1 => by
    simp only [addG, List.getElem?_cons_succ]
    rw [addG_at (k + 1) l j, show k + 1 + j = k + (j + 1) by omega]
theorem addG_yielded (l : List Oper) (tmps : Array Value) (j : Nat) : yielded (addG F i 0 l).toArray tmps j = yielded l.toArray tmps j := by
  unfold yielded
  rw [List.getElem?_toArray, List.getElem?_toArray, addG_at]
  cases l[j]? with
  | none => rfl
  | some o =>
    have e : (if F.contains (0 + j) = true then o else ⟨o.dst, o.op, o.type, o.pos, (o.after.toList ++ [(⟨i, .data⟩ : Edge)]).toArray, o.guard⟩ : Oper).dst = o.dst := by split <;> rfl
    simp only [Option.map_some, Option.bind_some, e]
theorem addG_ready {l : List Oper} {x : Array Bool} (hx : x.getD i false = true) {j : Nat} : j ∈ Region.ready .any (addG F i 0 l).toArray x ↔ j ∈ Region.ready .any l.toArray x := by
  rw [mem_ready, mem_ready]
  refine and_congr Iff.rfl ?_
  rw [List.getElem?_toArray, List.getElem?_toArray, addG_at]
  cases l[j]? with
  | none => simp
  | some o =>
    simp only [Option.map_some, Option.some.injEq, exists_eq_left']
    by_cases hF : F.contains (0 + j) = true
    · rw [if_pos hF]
    · rw [if_neg hF]
      constructor
      · intro h e he hb
        exact h e (by simp only [List.mem_toArray, List.mem_append]; exact .inl (by simpa using he)) hb
      · intro h e he hb
        simp only [List.mem_toArray, List.mem_append, List.mem_singleton] at he
        rcases he with he | rfl
        · exact h e (by simpa using he) hb
        · exact hx
theorem any_drop {l : List Oper} : ∀ (fuel : Nat) (x : Array Bool) (a : Act) (w : World), x.getD i false = true → wpAny P .any (addG F i 0 l).toArray Q fuel x a w → wpAny P .any l.toArray Q fuel x a w := by
  have hnil : ∀ (x : Array Bool), x.getD i false = true → (Region.ready .any (addG F i 0 l).toArray x = [] ↔ Region.ready .any l.toArray x = []) := by
    intro x hx
    rw [List.eq_nil_iff_forall_not_mem, List.eq_nil_iff_forall_not_mem]
    exact forall_congr' fun j => not_congr (addG_ready hx)
  intro fuel
  induction fuel with
  | zero => intro x a w hx h; exact ⟨(hnil x hx).1 h.1, h.2⟩
  | succ fuel ih =>
    intro x a w hx h
    refine ⟨fun h0 => h.1 ((hnil x hx).2 h0), fun j hj => ?_⟩
    obtain ⟨_, o, ho, _⟩ := mem_ready.1 hj
    have h1 := h.2 j ((addG_ready hx).2 hj)
    have hxi : (x.setIfInBounds j true).getD i false = true := by
      by_cases hji : j = i
      · subst hji
        simp only [Array.getD] at hx ⊢
        split at hx
        · next hlt => simp [hlt]
        · cases hx
      · rw [getD_set_ne false hji]; exact hx
    have hK : ∀ a' w', wpAny P .any (addG F i 0 l).toArray Q fuel (x.setIfInBounds j true) a' w' → wpAny P .any l.toArray Q fuel (x.setIfInBounds j true) a' w' := fun a' w' hh => ih _ a' w' hxi hh
    have ho2 : l[j]? = some o := by simpa using ho
    unfold wpOp at h1 ⊢
    rw [List.getElem?_toArray, addG_at, ho2] at h1
    rw [List.getElem?_toArray, ho2]
    simp only [Option.map_some] at h1 ⊢
    have hw : ∀ o' : Oper, o'.guard = o.guard → Region.wanted o' (yielded (addG F i 0 l).toArray a.tmps) = Region.wanted o (yielded l.toArray a.tmps) := by
      intro o' hg
      unfold Region.wanted
      rw [hg]
      cases o.guard with
      | none => rfl
      | some g => simp only [addG_yielded]
    have key : ∀ o' : Oper, o'.op = o.op → o'.dst = o.dst → o'.guard = o.guard → (Oper.wp P o' a w (wpAny P .any (addG F i 0 l).toArray Q fuel (x.setIfInBounds j true)) Q ↔ Oper.wp P o a w (wpAny P .any (addG F i 0 l).toArray Q fuel (x.setIfInBounds j true)) Q) ∧ (o'.asks P a w ↔ o.asks P a w) →
        (if Region.wanted o' (yielded (addG F i 0 l).toArray a.tmps) = true then Oper.wp P o' a w (wpAny P .any (addG F i 0 l).toArray Q fuel (x.setIfInBounds j true)) Q ∨ (o'.asks P a w ∧ LetsOut Q) else wpAny P .any (addG F i 0 l).toArray Q fuel (x.setIfInBounds j true) (a.put o'.dst undef) w) →
        (if Region.wanted o (yielded l.toArray a.tmps) = true then Oper.wp P o a w (wpAny P .any l.toArray Q fuel (x.setIfInBounds j true)) Q ∨ (o.asks P a w ∧ LetsOut Q) else wpAny P .any l.toArray Q fuel (x.setIfInBounds j true) (a.put o.dst undef) w) := by
      intro o' _ hd hg hiff hh
      rw [hw o' hg] at hh
      split
      · next hwt =>
        rw [if_pos hwt] at hh
        exact hh.imp (fun h2 => Oper.wp_mono hK (hiff.1.1 h2)) (fun h2 => ⟨hiff.2.1 h2.1, h2.2⟩)
      · next hwt =>
        rw [if_neg hwt, hd] at hh
        exact hK _ _ hh
    by_cases hF : F.contains (0 + j) = true
    · rw [if_pos hF] at h1
      exact key o rfl rfl rfl ⟨Iff.rfl, Iff.rfl⟩ h1
    · rw [if_neg hF] at h1
      exact key _ rfl rfl rfl ⟨Iff.rfl, Iff.rfl⟩ h1
theorem any_one {l : List Oper} {o : Oper} (ho : l[i]? = some o) (hm : isMove o = true) (hF : F.contains i = true) (hs : Region.noSelect l.toArray = true) (hf : Region.free .any l.toArray (Array.replicate l.length false) i = true) (hQ : ∀ (d : Nat) v c a w, Q (.panic c) (a.put (some d) v) w → Q (.panic c) a w)
    {fuel : Nat} {a : Act} {w : World} (h : wpAny P .any (addG F i 0 l).toArray Q fuel (Array.replicate l.length false) a w) : wpAny P .any l.toArray Q fuel (Array.replicate l.length false) a w := by
  have hil := (List.getElem?_eq_some_iff.1 ho).1
  simp only [isMove, Bool.and_eq_true] at hm
  obtain ⟨⟨⟨hmo, hma⟩, hmg⟩, hmd⟩ := hm
  obtain ⟨d, hd⟩ := Option.isSome_iff_exists.1 hmd
  have hg : o.guard = none := by simpa using hmg
  have hae : o.after = #[] := by simpa using hma
  have hr0 : ∀ {L : List Oper}, L[i]? = some o → i ∈ Region.ready .any L.toArray (Array.replicate l.length false) := fun {L} hL => by
    refine mem_ready.2 ⟨by simp [Array.getD, hil], o, by simpa using hL, fun e he => ?_⟩
    rw [hae] at he
    simp at he
  have hL2 : (addG F i 0 l)[i]? = some o := by rw [addG_at, ho, Option.map_some, Nat.zero_add, if_pos hF]
  obtain ⟨x, hx⟩ : ∃ x, o.op = .move x := by
    cases hop : o.op <;> rw [hop] at hmo <;> first | exact ⟨_, rfl⟩ | (cases hmo)
  have hrun : ∀ w, (execOp a.eval o).run P w = .ok (.value (a.eval x)) w := fun w => by unfold execOp; rw [hx]; rfl
  have hwt : ∀ y, Region.wanted o y = true := fun y => by unfold Region.wanted; rw [hg]
  cases fuel with
  | zero =>
    have := hr0 hL2
    rw [h.1] at this; cases this
  | succ fuel =>
    have h1 := h.2 i (hr0 hL2)
    unfold wpOp at h1
    rw [List.getElem?_toArray, hL2] at h1
    simp only at h1
    rw [if_pos (hwt _)] at h1
    have h2 : wpAny P .any (addG F i 0 l).toArray Q fuel ((Array.replicate l.length false).setIfInBounds i true) (a.put o.dst (a.eval x)) w := by
      rcases h1 with h1 | ⟨h1, _⟩
      · unfold Oper.wp at h1
        rw [hrun] at h1
        exact h1
      · exfalso
        have h3 := h1.1
        have h4 : ((execOp a.eval o).runT P w #[]).2 = #[] := by
          unfold execOp
          rw [hx]
          rfl
        rw [h4] at h3
        simp at h3
    have h3 := any_drop fuel _ _ w (by simp [Array.getD, hil]) h2
    exact wpAny_take (by simpa using ho) hs hf (by simpa using hr0 ho) (fun c a w => by rw [hd]; exact hQ _ _ c a w) (.inl ⟨hwt _, hrun⟩) h3
theorem any_fluid : ∀ (R : List Nat) (l : List Oper), fluidOK F R l = true → (∀ (d : Nat) v c a w, Q (.panic c) (a.put (some d) v) w → Q (.panic c) a w) → ∀ {fuel : Nat} {a : Act} {w : World},
    wpAny P .any (addGs F R l).toArray Q fuel (Array.replicate l.length false) a w → wpAny P .any l.toArray Q fuel (Array.replicate l.length false) a w
  | [], l, _, _, _, _, _, h => h
  | i :: R, l, hok, hQ, fuel, a, w, h => by
    simp only [fluidOK, Bool.and_eq_true] at hok
    obtain ⟨⟨⟨⟨h1, h2⟩, h3⟩, h4⟩, h5⟩ := hok
    split at h2
    · next o ho =>
      refine any_one ho h2 h1 h3 h4 hQ ?_
      have h6 := any_fluid R (addG F i 0 l) h5 hQ (fuel := fuel) (a := a) (w := w) (by rw [addG_len]; exact h)
      rw [addG_len] at h6
      exact h6
    · cases h2
/-- **The region, some copies first (F), then one walk in an order of one's own.** -/
theorem region_fluid_lit {id : Nat} {a : Act} {w : World} {l : List Oper} (F : List Nat) (s : List Nat) (n : Nat) {l2 : List Oper} (hm : P.follows .mixedOrders = true) (hF : fluidOK F F l = true) (hlen : (addGs F F l).length = l.length) (hs : permOK s (addGs F F l) = true) (hl : permL s (addGs F F l) = l2) (hB : frontOK .any (l2.take n) (l2.drop n) = true)
    (hQ : ∀ (d : Nat) v c a w, Q (.panic c) (a.put (some d) v) w → Q (.panic c) a w)
    (h : wpM P .any l2.toArray w (fun a' F => ∀ b w', Cls w w' → (∀ x ∈ F, w.heap.size ≤ b x.1 ∧ blk w' (b x.1) = some (.cells x.2.1 x.2.2 (0, 0))) → (∀ x ∈ F, ∀ y ∈ F, x.1 ≠ y.1 → b x.1 ≠ b y.1) → wpList P l2.toArray Q (l2.drop n) (a' b) w') (l2.take n) 0 (fun _ => a) []) :
    (Code.region id l.toArray true).wp P Q a w := by
  subst hl
  have h1 := any_mono hB h
  rw [perm_len hs] at h1
  refine wp_region_any hm ?_
  rw [List.size_toArray]
  refine any_fluid F l hF hQ ?_
  rw [← hlen]
  refine any_perm hs _ _ _ a _ (by simp) (by simp) (fun i hi => ?_) h1
  have := (perm_1 hs hi).1
  simp [Array.getD, hi, this]
end
end Go.Proofs.Ytcjncidahjneaaa

namespace Go.Proofs.Ytcjncidahjneaaa
open Go.ChangeShapes Go.WideShapes Go.ChangeAt Go.RowKit
attribute [local irreducible] wpList wpListIn Oper.quietAt wpM
attribute [local irreducible] tagL
/-- A head's cells: its count, then bytes. -/
def hdV (n : Int) (B : List UInt8) : Array Value := (.int .i64 n :: B.map bv).toArray
theorem hdV_size (n : Int) (B : List UInt8) : csz (hdV n B) = B.length + 1 := by unfold hdV csz; simp
theorem hdV_ones (n : Int) (B : List UInt8) : ones (hdV n B) = true := by
  unfold hdV
  refine ones_lit ?_
  rw [List.all_cons, List.all_map]
  simp [Value.oneCell', bv]
def headT (N : Nat) (B : List UInt8) : List UInt8 := beB N 8 ++ B
def headC (key : List UInt8) (N : Nat) (B : List UInt8) : List UInt8 := headT N B ++ tagL key (headT N B)
theorem headT_len (N : Nat) {B : List UInt8} (hB : B.length = 88) : (headT N B).length = 96 := by unfold headT; rw [List.length_append, beB_len, hB]
theorem headC_len (key : List UInt8) (N : Nat) {B : List UInt8} (hB : B.length = 88) : (headC key N B).length = 128 := by unfold headC; rw [List.length_append, headT_len N hB, tagL_len]
theorem hd_cut (n : Int) {B : List UInt8} {o m : Nat} (ho : o + m ≤ B.length) : cut (hdV n B) (1 + o) m = bvs ((B.drop o).take m) := by
  unfold cut hdV
  rw [if_neg (by omega)]
  apply Array.ext'
  unfold bvs
  simp [List.extract_eq_take_drop, List.map_take, List.map_drop]
  rw [show 1 + o = o + 1 by omega, List.drop_succ_cons]
theorem hd_cell (n : Int) {B : List UInt8} {o : Nat} (ho : o < B.length) : (hdV n B)[1 + o]? = some (.int .u8 ((B.getD o 0).toNat : Int)) := by
  unfold hdV
  rw [List.getElem?_toArray, Nat.add_comm, List.getElem?_cons_succ, List.getElem?_map, List.getElem?_eq_getElem ho, List.getD_eq_getElem?_getD, List.getElem?_eq_getElem ho]
  rfl
theorem hd_bytes {w : World} {b : Nat} {n : Int} {B : List UInt8} {t : TypeId} {fr : Nat × Nat} (hb : blk w b = some (.cells (hdV n B) t fr)) (o m c : Nat) (ho : o + m ≤ B.length) (hc : m ≤ c) : BytesAt w (.slice (some ⟨b, 1 + o, none⟩) m c) ((B.drop o).take m) := by
  refine bytesAt_mid (pre := .int .i64 n :: (B.take o).map bv) (post := (B.drop (o + m)).map bv) hb ?_ (by rw [List.length_cons, List.length_map, List.length_take]; omega) (by rw [List.length_take, List.length_drop]; omega) hc
  have e : B.take o ++ ((B.drop o).take m ++ B.drop (o + m)) = B := by rw [← List.drop_drop, List.take_append_drop, List.take_append_drop]
  unfold hdV
  show _ :: B.map bv = _
  rw [List.cons_append, ← List.map_append, ← List.map_append, e]
/-- A part of an array of arrays of bytes. -/
theorem r_indexR {P : Program} {o : Oper} {a : Act} {w : World} {x y : Operand} {t n m e e2 : Nat} {l : List UInt8} {i : Int} {v : Value} (hop : o.op = .index t x y) (hx : evO a x = some (.agg (bvs l))) (hy : evO a y = some (.int .i64 i)) (hu : P.underlying t = some (.array n e)) (he : P.underlying e = some (.array m e2)) (hs : (P.info? e).map (·.size) = some m) (h0 : 0 ≤ i ∧ i < n) (hv : .agg (bvs ((l.drop (i.toNat * m)).take m)) = v) : (execOp a.eval o).run P w = .ok (.value v) w := by
  have hagg : (isAgg e).run P w = .ok true w := by unfold isAgg; simp [run_underlying he]
  have hex : (bvs l).extract (i.toNat * m) (i.toNat * m + m) = bvs ((l.drop (i.toNat * m)).take m) := by
    apply Array.ext'
    unfold bvs
    simp [List.extract_eq_take_drop, List.map_drop, List.map_take]
  have hp : (part e (bvs l) (i.toNat * m)).run P w = .ok v w := by
    unfold part
    simp only [Sem.run_bind, hagg, Result.andThen_ok, if_true, run_sizeOf hs, hex]
    rw [← hv]; rfl
  have h1 : (Instr.index t (.agg (bvs l)) (.int .i64 i)).run P w = .ok v w := by
    simp [Instr.index, asIntOf, run_underlying hu, h0.1, h0.2, run_sizeOf hs, hp]
  unfold execOp; rw [hop]
  simp [Cd hx, Cd hy, Sem.run_bind, h1]
set_option maxRecDepth 100000 in
set_option maxHeartbeats 2000000 in
theorem headCell_bad (n : Int) (hn : n < 0) (B : List UInt8) (hB : B.length = 88) (kv : Value) (w0 : World) :
    Calls Try.prog 10 #[kv, .agg (hdV n B)] w0 fun e w' => e = .returned (.tuple #[.agg (bvs (zs 128)), .iface 40 (.int .i64 2)]) ∧ Below w0.heap.size w0 w' := by
  have hS := St.start w0
  have s1 : csz (hdV n B) = 89 := by rw [hdV_size, hB]
  have s2 : csz (bvs (zs 128)) = 128 := by rw [Cg, zs_len]
  go_enter Try.func10, Try.ntmps10
  repeat' (first | ((with_reducible refine Ad ?_); first | ((first | refine Bn Aa ?_ | refine Bq Aa ?_ | refine Aw Aa ?_ | refine Bi Aa Ab hS ?_ | refine Bg Aa Ab hS ?_ | refine Ag Aa ?_ | refine Af Aa ?_ | refine Cc Aa ?_ | refine Cb Aa ?_ | refine Ao Aa ?_ | refine Bz Aa ?_ | refine Bx Aa ?_ | refine Bu Aa ?_ | refine Bv Aa ?_ | refine Ca Aa ?_ | refine Bl Aa ?_ | refine Bh Aa ?_ | refine Bw Aa (fun hc => ?_) (fun hc => ?_) | refine Bb Aa ?_ | refine Ap Aa ?_ | refine Bc Aa ?_ | refine Aq Aa ?_ | refine Ah Aa ?_ | refine Av Aa ?_ | refine Ay Aa ?_ | refine Aj Aa ?_ | refine Al Aa ?_ | refine Ae Aa ?_ | refine Ai Aa ?_ | refine Bo Aa ?_ | refine Br Aa ?_ | refine Bt Aa ?_ | refine Bk Aa ?_ | refine Ax Aa ?_ | refine Ak Aa ?_ | refine Am Aa ?_ | refine Be Aa ?_ | refine Bd Aa ?_) <;> refine Ac ?_) | ((first | refine Bf Aa Ab hS ?_ | refine Bs Aa Ab hS ?_ | refine Ba Aa Ab hS ?_ | refine Bj Aa Ab hS ?_ | refine Bp Aa Ab hS ?_); clear hS; intro b w hS; refine Ac ?_) | ((first | refine Az Aa Ab hS ?_ | refine Ar Aa Ab hS ?_ | refine Au Aa Ab hS ?_); clear hS; intro w hS; refine Ac ?_)) | ((fail_if_success (with_reducible refine Ad ?_)); first | go_step | go_step3 | rw [Exit.noGoto_normal] | rw [Exit.noGoto_ret] | rw [Exit.noGoto_exit]))
  exact post_cell_tmp (n := 128) Try.results10 (by kernel_rfl) (.inl rfl) _ _ _ _ rfl rfl (hS.blk 1 rfl) (by rw [← csz_is]; exact s2) ⟨rfl, hS.below⟩
set_option maxRecDepth 100000 in
set_option maxHeartbeats 4000000 in
theorem headCell_good (key : List UInt8) (hk : key.length ≤ 1000000) (N : Nat) (hN : N ≤ 9223372036854775807) (B : List UInt8) (hB : B.length = 88) (kv : Value) (w0 : World) (hkv : BytesAt w0 kv key) :
    Calls Try.prog 10 #[kv, .agg (hdV (N : Int) B)] w0 fun e w' => e = .returned (.tuple #[.agg (bvs (headC key N B)), .nilIface]) ∧ Below w0.heap.size w0 w' := by
  have hS := St.start w0
  have s1 : csz (hdV (N : Int) B) = 89 := by rw [hdV_size, hB]
  have s2 : csz (bvs (zs 128)) = 128 := by rw [Cg, zs_len]
  have hcr : cut (hdV (N : Int) B) 1 64 = bvs (B.take 64) := by have := hd_cut (N : Int) (B := B) (o := 0) (m := 64) (by omega); rwa [List.drop_zero] at this
  have l64 : (B.take 64).length = 64 := by rw [List.length_take]; omega
  have s3 : csz (bvs (B.take 64)) = 64 := by rw [Cg, l64]
  have hX0 : ovw (bvs (zs 128)) 0 (beB N 8) = bvs (beB N 8 ++ zs 120) := by
    rw [ovw_bvs, beB_len, List.take_zero, List.nil_append]
    congr 2
    unfold zs; rw [List.drop_replicate]
  have h8 : (beB N 8).length = 8 := beB_len _ _
  have hTl := headT_len N hB
  have hT : headT N B = beB N 8 ++ B := rfl
  have hC : headC key N B = headT N B ++ tagL key (headT N B) := rfl
  have hgl := tagL_len key (headT N B)
  obtain ⟨E, hE⟩ : ∃ E, beB N 8 = E := ⟨_, rfl⟩
  rw [hE] at hX0 h8 hT
  go_enter Try.func10, Try.ntmps10
  repeat' (first | ((with_reducible refine Ad ?_); first | ((first | refine Bn Aa ?_ | refine Bq Aa ?_ | refine Aw Aa ?_ | refine Bi Aa Ab hS ?_ (hv := by first | rfl | exact Ch | (rw [Array.getElem?_toList]; first | exact hcr | rfl)) | refine Bg Aa Ab hS ?_ (hv := by first | exact Co _ _ (by (try simp only [Cl, Cg, Ck, List.length_append, List.length_set, zs_len, List.length_take, List.length_drop, List.length_cons, List.length_nil]); first | done | rfl | omega) | (first | exact hcr | rfl) | rfl) | refine Ag Aa ?_ | refine Af Aa ?_ | refine Cc Aa ?_ | refine Cb Aa ?_ | refine Ao Aa ?_ | refine Bz Aa ?_ | refine Bx Aa ?_ | refine Bu Aa ?_ | refine Bv Aa ?_ | refine Ca Aa ?_ | refine Bl Aa ?_ | refine Bh Aa ?_ | refine Bw Aa (fun hc => ?_) (fun hc => ?_) | refine Bb Aa ?_ | refine Ap Aa ?_ | refine Bc Aa ?_ | refine Aq Aa ?_ | refine Ah Aa ?_ | refine Av Aa ?_ (hv' := by first | rfl | exact Ch | (rw [Array.getElem?_toList]; first | exact hcr | rfl)) | refine Ay Aa ?_ | refine Aj Aa ?_ | refine Al Aa ?_ | refine Ae Aa ?_ | refine Ai Aa ?_ | refine Bo Aa ?_ | refine Br Aa ?_ | refine Bt Aa ?_ | refine Bk Aa ?_ | refine Ax Aa ?_ | refine Ak Aa ?_ | refine Am Aa ?_ | refine Be Aa ?_ | refine Bd Aa ?_) <;> refine Ac ?_) | ((first | refine Bf Aa Ab hS ?_ | refine Bs Aa Ab hS ?_ | refine Ba Aa Ab hS ?_ | refine Bj Aa Ab hS ?_ | refine Bp Aa Ab hS ?_); clear hS; intro b w hS; refine Ac ?_) | ((first | refine Az Aa Ab hS ?_ | refine Ar Aa Ab hS ?_ | refine Au Aa Ab hS ?_); clear hS; intro w hS; refine Ac ?_)) | ((fail_if_success (with_reducible refine Ad ?_)); first | go_step | go_step3 | rw [Exit.noGoto_normal] | rw [Exit.noGoto_ret] | rw [Exit.noGoto_exit]))
  rename_i bH y0 bR y1 KK hKK
  refine Cn 4 (by kernel_rfl) (by kernel_rfl) ?_
  dsimp only [List.take, List.drop]
  iterate 4 (first | (refine Dk (fun _ => rfl) ?_; simp only [Act.put, List.setIfInBounds_toArray, List.set_cons_zero, List.set_cons_succ]) | (refine Df rfl (fun _ => rfl) _ (fun w => r_alloc (a := ⟨#[], []⟩) rfl (by infer_instance)) ?_; simp only [Act.put, List.setIfInBounds_toArray, List.set_cons_zero, List.set_cons_succ]) | (refine De rfl (fun _ => rfl) (fun K hK => ?_); apply Exists.intro; apply Exists.intro; apply Exists.intro; apply Exists.intro; refine ⟨fun pB w' hw' hF => ?_, hK _ _ ?_⟩; (focus (exact Ct (by rfl) (by rfl) (by infer_instance) (by rfl) (by repeat (first | exact (fun _ h => absurd h List.not_mem_nil) | refine List.forall_mem_cons.2 ⟨by first | rfl | (simp only [Value.cells]; first | rfl | omega), ?_⟩)) (by (try conv => lhs; simp only [List.flatMap_cons, List.flatMap_nil, Value.cells, List.append_nil, List.cons_append, List.nil_append]); first | done | rfl) (by decide) (by decide))); clear hK K; simp only [Act.put, List.setIfInBounds_toArray, List.set_cons_zero, List.set_cons_succ]) | (refine Dm (fun _ => rfl) (fun K hK => ?_); apply Exists.intro; refine ⟨fun pB w' hw' hF => ?_, hK _ _ ?_⟩; (focus (have hZ := (Ab).call hS hw'; first | exact q_move | exact Dg | exact q_load1 Ab hZ | exact q_loadR Ab hZ | exact Cs | exact Cm | exact q_len | exact q_cap | exact Db | exact q_add | exact q_sub | exact q_mul | exact q_quo | exact q_rem | exact Dr | exact Dq | exact Di | exact Cz | exact Dj | exact Da | exact Cr | exact Dn | exact Dl | exact Cy | exact Cx | exact Cj | exact Cw | exact q_conv | exact q_pick | exact q_not | exact Dp | exact Dh | exact Cu | exact Dt | exact Ds | exact Dd)); clear hK K; simp only [Act.put, List.setIfInBounds_toArray, List.set_cons_zero, List.set_cons_succ]))
  refine wpM_nil ?_
  intro pB w hcq hfq hnq
  replace hS := (Ab).news hS hcq _ (by first | decide | simp) hfq hnq
  first | simp only [List.map_nil, List.nil_append] at hS | simp only [List.map_cons, List.map_nil, List.cons_append, List.nil_append] at hS
  clear hcq hfq hnq
  try dsimp only
  refine s_callRow Aa Ab hS (by rfl) (by rfl) (by rfl) (by rfl) (by rfl) (by infer_instance) (putBig_any b 0 8 128 _ 30 N _ (hS.blk 0 rfl) (by omega) (by omega) (by unfold maxLen; omega)) (by exact at_ 0 rfl) (cs2 := bvs (E ++ zs 120)) (by rw [hE]; exact hX0) (by (try conv => lhs; simp only [List.set_cons_zero, List.set_cons_succ, List.eraseIdx_cons_zero, List.eraseIdx_cons_succ]); first | done | rfl) ?_
  clear hS
  intro w hS
  refine Ac ?_
  repeat' (first | ((with_reducible refine Ad ?_); first | ((first | refine Bn Aa ?_ | refine Bq Aa ?_ | refine Aw Aa ?_ | refine Bi Aa Ab hS ?_ (hv := by first | rfl | exact Ch | (rw [Array.getElem?_toList]; first | exact hcr | rfl)) | refine Bg Aa Ab hS ?_ (hv := by first | exact Co _ _ (by (try simp only [Cl, Cg, Ck, List.length_append, List.length_set, zs_len, List.length_take, List.length_drop, List.length_cons, List.length_nil]); first | done | rfl | omega) | (first | exact hcr | rfl) | rfl) | refine Ag Aa ?_ | refine Af Aa ?_ | refine Cc Aa ?_ | refine Cb Aa ?_ | refine Ao Aa ?_ | refine Bz Aa ?_ | refine Bx Aa ?_ | refine Bu Aa ?_ | refine Bv Aa ?_ | refine Ca Aa ?_ | refine Bl Aa ?_ | refine Bh Aa ?_ | refine Bw Aa (fun hc => ?_) (fun hc => ?_) | refine Bb Aa ?_ | refine Ap Aa ?_ | refine Bc Aa ?_ | refine Aq Aa ?_ | refine Ah Aa ?_ | refine Av Aa ?_ (hv' := by first | rfl | exact Ch | (rw [Array.getElem?_toList]; first | exact hcr | rfl)) | refine Ay Aa ?_ | refine Aj Aa ?_ | refine Al Aa ?_ | refine Ae Aa ?_ | refine Ai Aa ?_ | refine Bo Aa ?_ | refine Br Aa ?_ | refine Bt Aa ?_ | refine Bk Aa ?_ | refine Ax Aa ?_ | refine Ak Aa ?_ | refine Am Aa ?_ | refine Be Aa ?_ | refine Bd Aa ?_) <;> refine Ac ?_) | ((first | refine Bf Aa Ab hS ?_ | refine Bs Aa Ab hS ?_ | refine Ba Aa Ab hS ?_ | refine Bj Aa Ab hS ?_ | refine Bp Aa Ab hS ?_); clear hS; intro b w hS; refine Ac ?_) | ((first | refine Az Aa Ab hS ?_ | refine Ar Aa Ab hS ?_ | refine Au Aa Ab hS ?_); clear hS; intro w hS; refine Ac ?_)) | ((fail_if_success (with_reducible refine Ad ?_)); first | go_step | go_step3 | rw [Exit.noGoto_normal] | rw [Exit.noGoto_ret] | rw [Exit.noGoto_exit]))
  obtain ⟨bX, hbX⟩ : ∃ x, x = b := ⟨_, rfl⟩
  rw [← hbX] at hS ⊢
  clear hbX
  go_loopw [7, 9, 23] (fun u7 u9 u23 wr => ∃ k : Nat, k ≤ 2 ∧ u23 = .int .i64 (k : Int) ∧ u7 = .int .i64 ((8 + 32 * k : Nat) : Int) ∧ St w0 wr [(bX, bvs (E ++ (B.take (32 * k) ++ zs (120 - 32 * k))), 30), (bR, bvs (zs 128), 30), (bH, hdV (N : Int) B, 28)]) (fun _ _ u23 _ => 2 - (intOf u23).toNat)
  case atStart => exact ⟨0, by omega, rfl, rfl, by rw [Nat.mul_zero, List.take_zero, List.nil_append]; exact hS⟩
  case round =>
    clear hS
    obtain ⟨k, hk2, rfl, rfl, hS⟩ := hrel
    have lk : (B.take (32 * k)).length = 32 * k := by rw [List.length_take]; omega
    have s5 : csz (bvs (E ++ (B.take (32 * k) ++ zs (120 - 32 * k)))) = 128 := by rw [Cg, List.length_append, List.length_append, lk, zs_len, h8]; omega
    by_cases hlt : k < 2
    · obtain ⟨r, hr⟩ : ∃ r, (B.drop (32 * k)).take 32 = r := ⟨_, rfl⟩
      have lr : r.length = 32 := by rw [← hr, List.length_take, List.length_drop]; omega
      have hpart : Value.agg (bvs (((B.take 64).drop ((k : Int).toNat * 32)).take 32)) = .agg (bvs r) := by
        rw [← hr]
        congr 2
        rw [show (k : Int).toNat * 32 = 32 * k by omega, List.drop_take, List.take_take, Nat.min_eq_left (by omega)]
      have hnx : ovw (bvs (E ++ (B.take (32 * k) ++ zs (120 - 32 * k)))) (8 + 32 * k) (r.take (128 - (8 + 32 * k))) = bvs (E ++ (B.take (32 * (k + 1)) ++ zs (120 - 32 * (k + 1)))) := by
        rw [List.take_of_length_le (l := r) (by omega), ovw_bvs, lr, show 8 + 32 * k = E.length + 32 * k by omega, List.take_length_add_append, show E.length + 32 * k + 32 = E.length + (32 * k + 32) by omega, List.drop_length_add_append, List.take_left' lk, List.append_assoc]
        have e1 : B.take (32 * (k + 1)) = B.take (32 * k) ++ r := by rw [← hr, show 32 * (k + 1) = 32 * k + 32 by omega, List.take_add]
        have e2 : (B.take (32 * k) ++ zs (120 - 32 * k)).drop (32 * k + 32) = zs (120 - 32 * (k + 1)) := by
          rw [List.drop_append, List.drop_of_length_le (by omega), List.nil_append, lk]
          unfold zs
          rw [List.drop_replicate]
          congr 1; omega
        rw [e1, e2, List.append_assoc]
      have sr : csz (bvs r) = 32 := by rw [Cg, lr]
      have sz32 : csz (bvs (zs 32)) = 32 := by rw [Cg, zs_len]
      repeat' (first | ((with_reducible refine Ad ?_); first | ((first | refine Bn Aa ?_ | refine Bq Aa ?_ | refine Aw Aa ?_ | refine Bi Aa Ab hS ?_ | refine Bg Aa Ab hS ?_ | refine Ag Aa ?_ | refine Af Aa ?_ | refine Cc Aa ?_ | refine Cb Aa ?_ | refine Ao Aa ?_ | refine Bz Aa ?_ | refine Bx Aa ?_ | refine Bu Aa ?_ | refine Bv Aa ?_ | refine Ca Aa ?_ | refine Bl Aa ?_ | refine Bh Aa ?_ | refine Bw Aa (fun hc => ?_) (fun hc => ?_) | refine Bb Aa ?_ | refine Ap Aa ?_ | refine Bc Aa ?_ | refine Aq Aa ?_ | refine Ah Aa ?_ | refine Av Aa ?_ | refine Ay Aa ?_ | refine Aj Aa ?_ | refine Al Aa ?_ | refine Ae Aa ?_ | refine Ai Aa ?_ | refine Bo Aa ?_ | refine Br Aa ?_ | refine Bt Aa ?_ | refine Bk Aa ?_ | refine Ax Aa ?_ | refine Ak Aa ?_ | refine Am Aa ?_ | refine Be Aa ?_ | refine Bd Aa ?_) <;> refine Ac ?_) | ((first | refine Bf Aa Ab hS ?_ | refine Bs Aa Ab hS ?_ | refine Ba Aa Ab hS ?_ | refine Bj Aa Ab hS ?_ | refine Bp Aa Ab hS ?_); clear hS; intro b w hS; refine Ac ?_) | ((first | refine Az Aa Ab hS ?_ | refine Ar Aa Ab hS ?_ | refine Au Aa Ab hS ?_); clear hS; intro w hS; refine Ac ?_) | (refine Stp.go Aa (by rfl) (by rfl) (r_indexR (m := 32) (by rfl) (by rfl) (by rfl) (by exact Try.underlying25) (by exact Try.underlying24) (by kernel_rfl) (by omega) hpart) ?_; refine Ac ?_)) | ((fail_if_success (with_reducible refine Ad ?_)); first | go_step | go_step3 | rw [Exit.noGoto_normal] | rw [Exit.noGoto_ret] | rw [Exit.noGoto_exit]))
      refine region_fluid_lit [0] [0, 1, 2, 3, 4, 5, 6] 4 (by kernel_rfl) (by kernel_rfl) (by rfl) (by kernel_rfl) (by (conv => lhs; simp only [addGs, addG, permL, List.map_cons, List.map_nil, nthL, orD, reO, reG, reE, posL, List.contains_cons, List.contains_nil, Nat.reduceBEq, Bool.or_false, Bool.or_true, Bool.or_self, Bool.false_eq_true, if_true, if_false, Nat.reduceEqDiff, Nat.zero_add, Nat.reduceAdd, List.cons_append, List.nil_append]); first | done | rfl) (by kernel_rfl) (fun _ _ _ _ _ h => h) ?_
      dsimp only [List.take, List.drop]
      iterate 4 (first | (refine Dk (fun _ => rfl) ?_; simp only [Act.put, List.setIfInBounds_toArray, List.set_cons_zero, List.set_cons_succ]) | (refine Df rfl (fun _ => rfl) _ (fun w => r_alloc (a := ⟨#[], []⟩) rfl (by infer_instance)) ?_; simp only [Act.put, List.setIfInBounds_toArray, List.set_cons_zero, List.set_cons_succ]) | (refine De rfl (fun _ => rfl) (fun K hK => ?_); apply Exists.intro; apply Exists.intro; apply Exists.intro; apply Exists.intro; refine ⟨fun pB w' hw' hF => ?_, hK _ _ ?_⟩; (focus (exact Ct (by rfl) (by rfl) (by infer_instance) (by rfl) (by repeat (first | exact (fun _ h => absurd h List.not_mem_nil) | refine List.forall_mem_cons.2 ⟨by first | rfl | (simp only [Value.cells]; first | rfl | omega), ?_⟩)) (by (try conv => lhs; simp only [List.flatMap_cons, List.flatMap_nil, Value.cells, List.append_nil, List.cons_append, List.nil_append]); first | done | rfl) (by decide) (by decide))); clear hK K; simp only [Act.put, List.setIfInBounds_toArray, List.set_cons_zero, List.set_cons_succ]) | (refine Dm (fun _ => rfl) (fun K hK => ?_); apply Exists.intro; refine ⟨fun pB w' hw' hF => ?_, hK _ _ ?_⟩; (focus (have hZ := (Ab).call hS hw'; first | exact q_move | exact Dg | exact q_load1 Ab hZ | exact q_loadR Ab hZ | exact Cs | exact Cm | exact q_len | exact q_cap | exact Db | exact q_add | exact q_sub | exact q_mul | exact q_quo | exact q_rem | exact Dr | exact Dq | exact Di | exact Cz | exact Dj | exact Da | exact Cr | exact Dn | exact Dl | exact Cy | exact Cx | exact Cj | exact Cw | exact q_conv | exact q_pick | exact q_not | exact Dp | exact Dh | exact Cu | exact Dt | exact Ds | exact Dd)); clear hK K; simp only [Act.put, List.setIfInBounds_toArray, List.set_cons_zero, List.set_cons_succ]))
      refine wpM_nil ?_
      intro pB w hcq hfq hnq
      replace hS := (Ab).news hS hcq _ (by first | decide | simp) hfq hnq
      first | simp only [List.map_nil, List.nil_append] at hS | simp only [List.map_cons, List.map_nil, List.cons_append, List.nil_append] at hS
      clear hcq hfq hnq
      try dsimp only
      refine s_copy (i := 1) Aa Ab hS (by rfl) (by rfl) (by rfl) (by rfl) (by infer_instance) (by rfl) (bytesAt_whole (hS.blk 0 rfl) lr) (by rw [List.length_take, s5]; omega) hnx (by (try conv => lhs; simp only [List.set_cons_zero, List.set_cons_succ, List.eraseIdx_cons_zero, List.eraseIdx_cons_succ]); first | done | rfl) (show (((r.take (128 - (8 + 32 * k))).length : Nat) : Int) = 32 by rw [List.length_take]; omega) ?_
      clear hS
      intro w hS
      refine Ac ?_
      repeat' (first | ((with_reducible refine Ad ?_); first | ((first | refine Bn Aa ?_ | refine Bq Aa ?_ | refine Aw Aa ?_ | refine Bi Aa Ab hS ?_ | refine Bg Aa Ab hS ?_ | refine Ag Aa ?_ | refine Af Aa ?_ | refine Cc Aa ?_ | refine Cb Aa ?_ | refine Ao Aa ?_ | refine Bz Aa ?_ | refine Bx Aa ?_ | refine Bu Aa ?_ | refine Bv Aa ?_ | refine Ca Aa ?_ | refine Bl Aa ?_ | refine Bh Aa ?_ | refine Bw Aa (fun hc => ?_) (fun hc => ?_) | refine Bb Aa ?_ | refine Ap Aa ?_ | refine Bc Aa ?_ | refine Aq Aa ?_ | refine Ah Aa ?_ | refine Av Aa ?_ | refine Ay Aa ?_ | refine Aj Aa ?_ | refine Al Aa ?_ | refine Ae Aa ?_ | refine Ai Aa ?_ | refine Bo Aa ?_ | refine Br Aa ?_ | refine Bt Aa ?_ | refine Bk Aa ?_ | refine Ax Aa ?_ | refine Ak Aa ?_ | refine Am Aa ?_ | refine Be Aa ?_ | refine Bd Aa ?_) <;> refine Ac ?_) | ((first | refine Bf Aa Ab hS ?_ | refine Bs Aa Ab hS ?_ | refine Ba Aa Ab hS ?_ | refine Bj Aa Ab hS ?_ | refine Bp Aa Ab hS ?_); clear hS; intro b w hS; refine Ac ?_) | ((first | refine Az Aa Ab hS ?_ | refine Ar Aa Ab hS ?_ | refine Au Aa Ab hS ?_); clear hS; intro w hS; refine Ac ?_)) | ((fail_if_success (with_reducible refine Ad ?_)); first | go_step | go_step3 | rw [Exit.noGoto_normal] | rw [Exit.noGoto_ret] | rw [Exit.noGoto_exit]))
      go_roundw
      case rel => exact ⟨k + 1, by omega, by push_cast; rfl, by push_cast; simp [Int.mul_add, Int.add_assoc], hS.erase 0⟩
      case measure => first | (simp [intOf]; done) | (simp [intOf]; omega)
    · obtain rfl : k = 2 := by omega
      have lr : ((B.drop 64).take 24).length = 24 := by rw [List.length_take, List.length_drop]; omega
      have hnx : ovw (bvs (E ++ (B.take (32 * 2) ++ zs (120 - 32 * 2)))) 72 (((B.drop 64).take 24).take 56) = bvs (headT N B ++ zs 32) := by
        rw [List.take_of_length_le (l := (B.drop 64).take 24) (by omega), ovw_bvs, lr, hT, show 72 = E.length + 64 by omega, List.take_length_add_append, show E.length + 64 + 24 = E.length + 88 by omega, List.drop_length_add_append, List.take_left' lk]
        have e1 : B = B.take 64 ++ (B.drop 64).take 24 := by
          rw [List.take_of_length_le (l := B.drop 64) (by rw [List.length_drop]; omega), List.take_append_drop]
        have e2 : (B.take (32 * 2) ++ zs (120 - 32 * 2)).drop 88 = zs 32 := by
          rw [List.drop_append, List.drop_of_length_le (by omega), List.nil_append, lk]
          unfold zs
          rw [List.drop_replicate]
        rw [e2]
        conv => rhs; rw [e1]
        simp only [List.append_assoc]
      repeat' (first | ((with_reducible refine Ad ?_); first | ((first | refine Bn Aa ?_ | refine Bq Aa ?_ | refine Aw Aa ?_ | refine Bi Aa Ab hS ?_ | refine Bg Aa Ab hS ?_ | refine Ag Aa ?_ | refine Af Aa ?_ | refine Cc Aa ?_ | refine Cb Aa ?_ | refine Ao Aa ?_ | refine Bz Aa ?_ | refine Bx Aa ?_ | refine Bu Aa ?_ | refine Bv Aa ?_ | refine Ca Aa ?_ | refine Bl Aa ?_ | refine Bh Aa ?_ | refine Bw Aa (fun hc => ?_) (fun hc => ?_) | refine Bb Aa ?_ | refine Ap Aa ?_ | refine Bc Aa ?_ | refine Aq Aa ?_ | refine Ah Aa ?_ | refine Av Aa ?_ | refine Ay Aa ?_ | refine Aj Aa ?_ | refine Al Aa ?_ | refine Ae Aa ?_ | refine Ai Aa ?_ | refine Bo Aa ?_ | refine Br Aa ?_ | refine Bt Aa ?_ | refine Bk Aa ?_ | refine Ax Aa ?_ | refine Ak Aa ?_ | refine Am Aa ?_ | refine Be Aa ?_ | refine Bd Aa ?_) <;> refine Ac ?_) | ((first | refine Bf Aa Ab hS ?_ | refine Bs Aa Ab hS ?_ | refine Ba Aa Ab hS ?_ | refine Bj Aa Ab hS ?_ | refine Bp Aa Ab hS ?_); clear hS; intro b w hS; refine Ac ?_) | ((first | refine Az Aa Ab hS ?_ | refine Ar Aa Ab hS ?_ | refine Au Aa Ab hS ?_); clear hS; intro w hS; refine Ac ?_)) | ((fail_if_success (with_reducible refine Ad ?_)); first | go_step | go_step3 | rw [Exit.noGoto_normal] | rw [Exit.noGoto_ret] | rw [Exit.noGoto_exit]))
      refine Cn 4 (by kernel_rfl) (by kernel_rfl) ?_
      dsimp only [List.take, List.drop]
      iterate 4 (first | (refine Dk (fun _ => rfl) ?_; simp only [Act.put, List.setIfInBounds_toArray, List.set_cons_zero, List.set_cons_succ]) | (refine Df rfl (fun _ => rfl) _ (fun w => r_alloc (a := ⟨#[], []⟩) rfl (by infer_instance)) ?_; simp only [Act.put, List.setIfInBounds_toArray, List.set_cons_zero, List.set_cons_succ]) | (refine De rfl (fun _ => rfl) (fun K hK => ?_); apply Exists.intro; apply Exists.intro; apply Exists.intro; apply Exists.intro; refine ⟨fun pB w' hw' hF => ?_, hK _ _ ?_⟩; (focus (exact Ct (by rfl) (by rfl) (by infer_instance) (by rfl) (by repeat (first | exact (fun _ h => absurd h List.not_mem_nil) | refine List.forall_mem_cons.2 ⟨by first | rfl | (simp only [Value.cells]; first | rfl | omega), ?_⟩)) (by (try conv => lhs; simp only [List.flatMap_cons, List.flatMap_nil, Value.cells, List.append_nil, List.cons_append, List.nil_append]); first | done | rfl) (by decide) (by decide))); clear hK K; simp only [Act.put, List.setIfInBounds_toArray, List.set_cons_zero, List.set_cons_succ]) | (refine Dm (fun _ => rfl) (fun K hK => ?_); apply Exists.intro; refine ⟨fun pB w' hw' hF => ?_, hK _ _ ?_⟩; (focus (have hZ := (Ab).call hS hw'; first | exact q_move | exact Dg | exact q_load1 Ab hZ | exact q_loadR Ab hZ | exact Cs | exact Cm | exact q_len | exact q_cap | exact Db | exact q_add | exact q_sub | exact q_mul | exact q_quo | exact q_rem | exact Dr | exact Dq | exact Di | exact Cz | exact Dj | exact Da | exact Cr | exact Dn | exact Dl | exact Cy | exact Cx | exact Cj | exact Cw | exact q_conv | exact q_pick | exact q_not | exact Dp | exact Dh | exact Cu | exact Dt | exact Ds | exact Dd)); clear hK K; simp only [Act.put, List.setIfInBounds_toArray, List.set_cons_zero, List.set_cons_succ]))
      refine wpM_nil ?_
      intro pB w hcq hfq hnq
      replace hS := (Ab).news hS hcq _ (by first | decide | simp) hfq hnq
      first | simp only [List.map_nil, List.nil_append] at hS | simp only [List.map_cons, List.map_nil, List.cons_append, List.nil_append] at hS
      clear hcq hfq hnq
      try dsimp only
      refine s_copy (i := 0) Aa Ab hS (by rfl) (by rfl) (by rfl) (by rfl) (by infer_instance) (by rfl) (hd_bytes (hS.blk 2 rfl) 64 24 24 (by omega) (by omega)) (by rw [List.length_take, s5]; omega) hnx (by (try conv => lhs; simp only [List.set_cons_zero, List.set_cons_succ, List.eraseIdx_cons_zero, List.eraseIdx_cons_succ]); first | done | rfl) rfl ?_
      clear hS
      intro w hS
      obtain ⟨T, hTT⟩ : ∃ T, headT N B = T := ⟨_, rfl⟩
      rw [hTT] at hS hTl hgl hC
      have hTne : T ≠ [] := by intro e; rw [e] at hTl; cases hTl
      have s6 : csz (bvs (T ++ zs 32)) = 128 := by rw [Cg, List.length_append, hTl, zs_len]
      refine Ac ?_
      repeat' (first | ((with_reducible refine Ad ?_); first | ((first | refine Bn Aa ?_ | refine Bq Aa ?_ | refine Aw Aa ?_ | refine Bi Aa Ab hS ?_ | refine Bg Aa Ab hS ?_ | refine Ag Aa ?_ | refine Af Aa ?_ | refine Cc Aa ?_ | refine Cb Aa ?_ | refine Ao Aa ?_ | refine Bz Aa ?_ | refine Bx Aa ?_ | refine Bu Aa ?_ | refine Bv Aa ?_ | refine Ca Aa ?_ | refine Bl Aa ?_ | refine Bh Aa ?_ | refine Bw Aa (fun hc => ?_) (fun hc => ?_) | refine Bb Aa ?_ | refine Ap Aa ?_ | refine Bc Aa ?_ | refine Aq Aa ?_ | refine Ah Aa ?_ | refine Av Aa ?_ | refine Ay Aa ?_ | refine Aj Aa ?_ | refine Al Aa ?_ | refine Ae Aa ?_ | refine Ai Aa ?_ | refine Bo Aa ?_ | refine Br Aa ?_ | refine Bt Aa ?_ | refine Bk Aa ?_ | refine Ax Aa ?_ | refine Ak Aa ?_ | refine Am Aa ?_ | refine Be Aa ?_ | refine Bd Aa ?_) <;> refine Ac ?_) | ((first | refine Bf Aa Ab hS ?_ | refine Bs Aa Ab hS ?_ | refine Ba Aa Ab hS ?_ | refine Bj Aa Ab hS ?_ | refine Bp Aa Ab hS ?_); clear hS; intro b w hS; refine Ac ?_) | ((first | refine Az Aa Ab hS ?_ | refine Ar Aa Ab hS ?_ | refine Au Aa Ab hS ?_); clear hS; intro w hS; refine Ac ?_)) | ((fail_if_success (with_reducible refine Ad ?_)); first | go_step | go_step3 | rw [Exit.noGoto_normal] | rw [Exit.noGoto_ret] | rw [Exit.noGoto_exit]))
      have htg := tag_any key hk kv [.slice (some ⟨bX, 0, none⟩) 96 128] [T] (by simp) (by simp [hTl]) _ 0 1 _ _ _ _ (hkv.below hS.below) (PartsAt.cons (bytesAt_mid (pre := []) (post := (zs 32).map bv) (off := 0) (n := 96) (c := 128) (hS.blk 1 rfl) (by simp [bvs]) rfl hTl (by omega)) hTne (PartsAt.nil _)) (hS.blk 0 rfl) (fun j v h => by rw [Nat.zero_add, List.getElem?_toArray]; exact h) (by simp)
      rw [show [T].flatten = T by simp] at htg
      obtain ⟨G, hG⟩ : ∃ G, tagL key T = G := ⟨_, rfl⟩
      rw [hG] at htg hgl hC
      have s7 : csz (bvs G) = 32 := by rw [Cg, hgl]
      have s8 : csz (bvs (T ++ G)) = 128 := by rw [Cg, List.length_append, hTl, hgl]
      have s9 : csz (bvs (zs 32)) = 32 := by rw [Cg, zs_len]
      have hnx2 : ovw (bvs (T ++ zs 32)) 96 (G.take 32) = bvs (T ++ G) := by
        rw [List.take_of_length_le (l := G) (by omega), ovw_bvs, List.take_left' hTl, hgl, List.drop_of_length_le (by rw [List.length_append, hTl, zs_len]; omega), List.append_nil]
      have hTG : (T ++ G).length = 128 := by rw [List.length_append, hTl, hgl]
      (refine Cv Aa Ab hS (htg) ?_; clear hS; intro w hS; refine Ac ?_)
      repeat' (first | ((with_reducible refine Ad ?_); first | ((first | refine Bn Aa ?_ | refine Bq Aa ?_ | refine Aw Aa ?_ | refine Bi Aa Ab hS ?_ | refine Bg Aa Ab hS ?_ | refine Ag Aa ?_ | refine Af Aa ?_ | refine Cc Aa ?_ | refine Cb Aa ?_ | refine Ao Aa ?_ | refine Bz Aa ?_ | refine Bx Aa ?_ | refine Bu Aa ?_ | refine Bv Aa ?_ | refine Ca Aa ?_ | refine Bl Aa ?_ | refine Bh Aa ?_ | refine Bw Aa (fun hc => ?_) (fun hc => ?_) | refine Bb Aa ?_ | refine Ap Aa ?_ | refine Bc Aa ?_ | refine Aq Aa ?_ | refine Ah Aa ?_ | refine Av Aa ?_ | refine Ay Aa ?_ | refine Aj Aa ?_ | refine Al Aa ?_ | refine Ae Aa ?_ | refine Ai Aa ?_ | refine Bo Aa ?_ | refine Br Aa ?_ | refine Bt Aa ?_ | refine Bk Aa ?_ | refine Ax Aa ?_ | refine Ak Aa ?_ | refine Am Aa ?_ | refine Be Aa ?_ | refine Bd Aa ?_) <;> refine Ac ?_) | ((first | refine Bf Aa Ab hS ?_ | refine Bs Aa Ab hS ?_ | refine Ba Aa Ab hS ?_ | refine Bj Aa Ab hS ?_ | refine Bp Aa Ab hS ?_); clear hS; intro b w hS; refine Ac ?_) | ((first | refine Az Aa Ab hS ?_ | refine Ar Aa Ab hS ?_ | refine Au Aa Ab hS ?_); clear hS; intro w hS; refine Ac ?_)) | ((fail_if_success (with_reducible refine Ad ?_)); first | go_step | go_step3 | rw [Exit.noGoto_normal] | rw [Exit.noGoto_ret] | rw [Exit.noGoto_exit]))
      refine Cn 2 (by kernel_rfl) (by kernel_rfl) ?_
      dsimp only [List.take, List.drop]
      iterate 2 (first | (refine Dk (fun _ => rfl) ?_; simp only [Act.put, List.setIfInBounds_toArray, List.set_cons_zero, List.set_cons_succ]) | (refine Df rfl (fun _ => rfl) _ (fun w => r_alloc (a := ⟨#[], []⟩) rfl (by infer_instance)) ?_; simp only [Act.put, List.setIfInBounds_toArray, List.set_cons_zero, List.set_cons_succ]) | (refine De rfl (fun _ => rfl) (fun K hK => ?_); apply Exists.intro; apply Exists.intro; apply Exists.intro; apply Exists.intro; refine ⟨fun pB w' hw' hF => ?_, hK _ _ ?_⟩; (focus (exact Ct (by rfl) (by rfl) (by infer_instance) (by rfl) (by repeat (first | exact (fun _ h => absurd h List.not_mem_nil) | refine List.forall_mem_cons.2 ⟨by first | rfl | (simp only [Value.cells]; first | rfl | omega), ?_⟩)) (by (try conv => lhs; simp only [List.flatMap_cons, List.flatMap_nil, Value.cells, List.append_nil, List.cons_append, List.nil_append]); first | done | rfl) (by decide) (by decide))); clear hK K; simp only [Act.put, List.setIfInBounds_toArray, List.set_cons_zero, List.set_cons_succ]) | (refine Dm (fun _ => rfl) (fun K hK => ?_); apply Exists.intro; refine ⟨fun pB w' hw' hF => ?_, hK _ _ ?_⟩; (focus (have hZ := (Ab).call hS hw'; first | exact q_move | exact Dg | exact q_load1 Ab hZ | exact q_loadR Ab hZ | exact Cs | exact Cm | exact q_len | exact q_cap | exact Db | exact q_add | exact q_sub | exact q_mul | exact q_quo | exact q_rem | exact Dr | exact Dq | exact Di | exact Cz | exact Dj | exact Da | exact Cr | exact Dn | exact Dl | exact Cy | exact Cx | exact Cj | exact Cw | exact q_conv | exact q_pick | exact q_not | exact Dp | exact Dh | exact Cu | exact Dt | exact Ds | exact Dd)); clear hK K; simp only [Act.put, List.setIfInBounds_toArray, List.set_cons_zero, List.set_cons_succ]))
      refine wpM_nil ?_
      intro pB w hcq hfq hnq
      replace hS := (Ab).news hS hcq _ (by first | decide | simp) hfq hnq
      first | simp only [List.map_nil, List.nil_append] at hS | simp only [List.map_cons, List.map_nil, List.cons_append, List.nil_append] at hS
      clear hcq hfq hnq
      try dsimp only
      refine s_copy (i := 2) Aa Ab hS (by rfl) (by rfl) (by rfl) (by rfl) (by infer_instance) (by rfl) (bytesAt_whole (hS.blk 0 rfl) hgl) (by rw [List.length_take, s6]; omega) hnx2 (by (try conv => lhs; simp only [List.set_cons_zero, List.set_cons_succ, List.eraseIdx_cons_zero, List.eraseIdx_cons_succ]); first | done | rfl) rfl ?_
      clear hS
      intro w hS
      refine Ac ?_
      obtain ⟨Y, hY⟩ : ∃ Y, T ++ G = Y := ⟨_, rfl⟩
      rw [hY] at hS s8 hTG hC
      repeat' (first | ((with_reducible refine Ad ?_); first | ((first | refine Bn Aa ?_ | refine Bq Aa ?_ | refine Aw Aa ?_ | refine Bi Aa Ab hS ?_ | refine Bg Aa Ab hS ?_ | refine Ag Aa ?_ | refine Af Aa ?_ | refine Cc Aa ?_ | refine Cb Aa ?_ | refine Ao Aa ?_ | refine Bz Aa ?_ | refine Bx Aa ?_ | refine Bu Aa ?_ | refine Bv Aa ?_ | refine Ca Aa ?_ | refine Bl Aa ?_ | refine Bh Aa ?_ | refine Bw Aa (fun hc => ?_) (fun hc => ?_) | refine Bb Aa ?_ | refine Ap Aa ?_ | refine Bc Aa ?_ | refine Aq Aa ?_ | refine Ah Aa ?_ | refine Av Aa ?_ | refine Ay Aa ?_ | refine Aj Aa ?_ | refine Al Aa ?_ | refine Ae Aa ?_ | refine Ai Aa ?_ | refine Bo Aa ?_ | refine Br Aa ?_ | refine Bt Aa ?_ | refine Bk Aa ?_ | refine Ax Aa ?_ | refine Ak Aa ?_ | refine Am Aa ?_ | refine Be Aa ?_ | refine Bd Aa ?_) <;> refine Ac ?_) | ((first | refine Bf Aa Ab hS ?_ | refine Bs Aa Ab hS ?_ | refine Ba Aa Ab hS ?_ | refine Bj Aa Ab hS ?_ | refine Bp Aa Ab hS ?_); clear hS; intro b w hS; refine Ac ?_) | ((first | refine Az Aa Ab hS ?_ | refine Ar Aa Ab hS ?_ | refine Au Aa Ab hS ?_); clear hS; intro w hS; refine Ac ?_)) | ((fail_if_success (with_reducible refine Ad ?_)); first | go_step | go_step3 | rw [Exit.noGoto_normal] | rw [Exit.noGoto_ret] | rw [Exit.noGoto_exit]))
      exact post_cell_tmp (n := 128) Try.results10 (by kernel_rfl) (.inl rfl) _ _ _ _ rfl rfl (hS.blk 3 rfl) (by rw [← csz_is]; exact s8) ⟨by rw [hC]; rfl, hS.below⟩
end Go.Proofs.Ytcjncidahjneaaa

namespace Go.Proofs.Ytcjncidahjneaaa
open Go.ChangeShapes Go.WideShapes Go.ChangeAt Go.RowKit
attribute [local irreducible] wpList wpListIn Oper.quietAt wpM
attribute [local irreducible] tagL
/-- What a sector's count says. -/
def cntL (C : List UInt8) : Int := wrap64 (beN (C.take 8) : Int)
def restL (C : List UInt8) : List UInt8 := (C.drop 8).take 88
theorem restL_len {C : List UInt8} (h : C.length = 128) : (restL C).length = 88 := by unfold restL; rw [List.length_take, List.length_drop]; omega
instance instHd3_1 : StT Try.prog 28 [(0, 1), (1, 64), (65, 24)] ((.int .i64 0) :: (zs 88).map bv) := ⟨by kernel_rfl⟩
instance instHd3_2 : ZeroT Try.prog 28 (hdV 0 (zs 88)) := ⟨by kernel_rfl⟩
theorem bytes_pref {w : World} {g n c : Nat} {L : List UInt8} {t : TypeId} {fr : Nat × Nat} (hg : blk w g = some (.cells (bvs L) t fr)) (hL : n ≤ L.length) (hc : n ≤ c) : BytesAt w (.slice (some ⟨g, 0, none⟩) n c) (L.take n) := by
  have := bytesAt_bvs (o := 0) (n := n) (c := c) hg (by omega) hc
  rwa [List.drop_zero] at this
theorem r_convI {P : Program} {o : Oper} {a : Act} {w : World} {s t : TypeId} {x : Operand} {k ks : IntKind} {n q : Int} (hop : o.op = .convert s t x) (hx : evO a x = some (.int k n)) (hs : IntT P s ks) (ht : IntT P t .i64) (hq : wrap64 n = q) : (execOp a.eval o).run P w = .ok (.value (.int .i64 q)) w := by
  subst hq
  unfold execOp; rw [hop]
  simp only [Cd hx, convert, Sem.run_bind, run_underlying hs.is, run_underlying ht.is, Result.andThen_ok, Conv.intToInt]
  rw [show IntKind.i64.wrap n = wrap64 n by rw [IntKind.wrap_i64]; unfold wrap64; omega]
  rfl
theorem hd_ovw (n : Int) (X l : List UInt8) (o : Nat) : ovw (hdV n X) (1 + o) l = hdV n (X.take o ++ (l ++ X.drop (o + l.length))) := by
  unfold ovw hdV
  show ((_ :: X.map bv).take (1 + o) ++ (l.map bv ++ (_ :: X.map bv).drop (1 + o + l.length))).toArray = _
  rw [Nat.add_comm 1 o, List.take_succ_cons, show o + 1 + l.length = (o + l.length) + 1 by omega, List.drop_succ_cons]
  simp [List.map_take, List.map_drop]
/-- What a sector is taken for. -/
def hdRes (key C : List UInt8) : Value := if 0 ≤ cntL C ∧ tagL key (C.take 96) = C.drop 96 then .tuple #[.agg (hdV (cntL C) (restL C)), .bool true] else .tuple #[.agg (hdV 0 (zs 88)), .bool false]
theorem hdRes_pos {key C : List UInt8} (h1 : 0 ≤ cntL C) (h2 : tagL key (C.take 96) = C.drop 96) : hdRes key C = .tuple #[.agg (hdV (cntL C) (restL C)), .bool true] := if_pos ⟨h1, h2⟩
theorem hdRes_neg {key C : List UInt8} (h : ¬ (0 ≤ cntL C ∧ tagL key (C.take 96) = C.drop 96)) : hdRes key C = .tuple #[.agg (hdV 0 (zs 88)), .bool false] := if_neg h
theorem hd_fill (n : Int) : Instr.fill ((#[(0, 1), (1, 64), (65, 24)] : Array (Nat × Nat))[·]?) (.int .i64 0 :: (zs 88).map bv).toArray [(0, .int .i64 n)] = some (hdV n (zs 88)) :=
  fill_of (place := fun i => [(0, 1), (1, 64), (65, 24)].toArray[i]?) (cs := .int .i64 n :: (zs 88).map bv) (FillS.one (off := 0) rfl rfl (by simp) rfl FillS.nil)
theorem hd_built (n : Int) : Try.prog.built 28 [(0, .int .i64 n)] = some (hdV n (zs 88)) := built_st (pl := [(0, 1), (1, 64), (65, 24)]) (z := .int .i64 0 :: (zs 88).map bv) (by infer_instance) (hd_fill n)
theorem hd_built0 : Try.prog.built 28 [] = some (hdV 0 (zs 88)) := built_st (pl := [(0, 1), (1, 64), (65, 24)]) (z := .int .i64 0 :: (zs 88).map bv) (by infer_instance) (fill_of (cs := .int .i64 0 :: (zs 88).map bv) FillS.nil)
attribute [local irreducible] hdRes hdV
set_option maxRecDepth 100000 in
set_option maxHeartbeats 4000000 in
theorem takeHead_any (key : List UInt8) (hk : key.length ≤ 1000000) (C : List UInt8) (hC : C.length = 128) (kv : Value) (w0 : World) (hkv : BytesAt w0 kv key) :
    Calls Try.prog 12 #[kv, .agg (bvs C)] w0 fun e w' => e = .returned (hdRes key C) ∧ Below w0.heap.size w0 w' := by
  have hS := St.start w0
  have s1 : csz (bvs C) = 128 := by rw [Cg, hC]
  have lT : (C.take 96).length = 96 := by rw [List.length_take]; omega
  have lD : (C.drop 96).length = 32 := by rw [List.length_drop]; omega
  have hTne : C.take 96 ≠ [] := by intro e; rw [e] at lT; cases lT
  have hgl := tagL_len key (C.take 96)
  have l8 : (C.take 8).length = 8 := by rw [List.length_take]; omega
  have hcn : cntL C = wrap64 (beN (C.take 8) : Int) := rfl
  have hpos := @hdRes_pos key C
  have hneg' := @hdRes_neg key C
  obtain ⟨RV, hRV⟩ : ∃ RV, hdRes key C = RV := ⟨_, rfl⟩
  rw [hRV] at hpos hneg' ⊢
  have hRl := restL_len hC
  have hRd : restL C = (C.drop 8).take 88 := rfl
  have hCd : ∀ (w : World) (b : Nat) (o m : Nat), o + m = 128 → blk w b = some (.cells (bvs C) 30 (0, 0)) → BytesAt w (.slice (some ⟨b, o, none⟩) m m) (C.drop o) := fun w b o m hom hb => by
    have := bytesAt_bvs (o := o) (n := m) (c := m) hb (by omega) (Nat.le_refl _)
    rwa [List.take_of_length_le (by rw [List.length_drop]; omega)] at this
  go_enter Try.func12, Try.ntmps12
  repeat' (first | ((with_reducible refine Ad ?_); first | ((first | refine Bn Aa ?_ | refine Bq Aa ?_ | refine Aw Aa ?_ | refine Bi Aa Ab hS ?_ | refine Bg Aa Ab hS ?_ | refine Ag Aa ?_ | refine Af Aa ?_ | refine Cc Aa ?_ | refine Cb Aa ?_ | refine Ao Aa ?_ | refine Bz Aa ?_ | refine Bx Aa ?_ | refine Bu Aa ?_ | refine Bv Aa ?_ | refine Ca Aa ?_ | refine Bl Aa ?_ | refine Bh Aa ?_ | refine Bw Aa (fun hc => ?_) (fun hc => ?_) | refine Bb Aa ?_ | refine Ap Aa ?_ | refine Bc Aa ?_ | refine Aq Aa ?_ | refine Ah Aa ?_ | refine Av Aa ?_ | refine Ay Aa ?_ | refine Aj Aa ?_ | refine Al Aa ?_ | refine Ae Aa ?_ | refine Ai Aa ?_ | refine Bo Aa ?_ | refine Br Aa ?_ | refine Bt Aa ?_ | refine Bk Aa ?_ | refine Ax Aa ?_ | refine Ak Aa ?_ | refine Am Aa ?_ | refine Be Aa ?_ | refine Bd Aa ?_) <;> refine Ac ?_) | ((first | refine Bf Aa Ab hS ?_ | refine Bs Aa Ab hS ?_ | refine Ba Aa Ab hS ?_ | refine Bj Aa Ab hS ?_ | refine Bp Aa Ab hS ?_); clear hS; intro b w hS; refine Ac ?_) | ((first | refine Az Aa Ab hS ?_ | refine Ar Aa Ab hS ?_ | refine Au Aa Ab hS ?_); clear hS; intro w hS; refine Ac ?_)) | ((fail_if_success (with_reducible refine Ad ?_)); first | go_step | go_step3 | rw [Exit.noGoto_normal] | rw [Exit.noGoto_ret] | rw [Exit.noGoto_exit]))
  have htg := tag_any key hk kv [.slice (some ⟨_, 0, none⟩) 96 128] [C.take 96] (by simp) (by simp; omega) _ 0 1 _ _ _ _ (hkv.below hS.below) (PartsAt.cons (bytes_pref (hS.blk 2 rfl) (by omega) (by omega)) hTne (PartsAt.nil _)) (hS.blk 0 rfl) (fun j v h => by rw [Nat.zero_add, List.getElem?_toArray]; exact h) (by simp)
  rw [show [C.take 96].flatten = C.take 96 by simp] at htg
  obtain ⟨G, hG⟩ : ∃ G, tagL key (C.take 96) = G := ⟨_, rfl⟩
  rw [hG] at htg hgl hpos hneg'
  have s7 : csz (bvs G) = 32 := by rw [Cg, hgl]
  have s9 : csz (bvs (zs 32)) = 32 := by rw [Cg, zs_len]
  (refine Cv Aa Ab hS (htg) ?_; clear hS; intro w hS; refine Ac ?_)
  obtain ⟨n, hn⟩ : ∃ n, cntL C = n := ⟨_, rfl⟩
  rw [hn] at hcn hpos hneg'
  repeat' (first | ((with_reducible refine Ad ?_); first | ((first | refine Bn Aa ?_ | refine Bq Aa ?_ | refine Aw Aa ?_ | refine Bi Aa Ab hS ?_ | refine Bg Aa Ab hS ?_ | refine Ag Aa ?_ | refine Af Aa ?_ | refine Cc Aa ?_ | refine Cb Aa ?_ | refine Ao Aa ?_ | refine Bz Aa ?_ | refine Bx Aa ?_ | refine Bu Aa ?_ | refine Bv Aa ?_ | refine Ca Aa ?_ | refine Bl Aa ?_ | refine Bh Aa ?_ | refine Bw Aa (fun hc => ?_) (fun hc => ?_) | refine Bb Aa ?_ | refine Ap Aa ?_ | refine Bc Aa ?_ | refine Aq Aa ?_ | refine Ah Aa ?_ | refine Av Aa ?_ | refine Ay Aa ?_ | refine Aj Aa ?_ | refine Al Aa ?_ | refine Ae Aa ?_ | refine Ai Aa ?_ | refine Bo Aa ?_ | refine Br Aa ?_ | refine Bt Aa ?_ | refine Bk Aa ?_ | refine Ax Aa ?_ | refine Ak Aa ?_ | refine Am Aa ?_ | refine Be Aa ?_ | refine Bd Aa ?_) <;> refine Ac ?_) | ((first | refine Bf Aa Ab hS ?_ | refine Bs Aa Ab hS ?_ | refine Ba Aa Ab hS ?_ | refine Bj Aa Ab hS ?_ | refine Bp Aa Ab hS ?_); clear hS; intro b w hS; refine Ac ?_) | ((first | refine Az Aa Ab hS ?_ | refine Ar Aa Ab hS ?_ | refine Au Aa Ab hS ?_); clear hS; intro w hS; refine Ac ?_) | (refine Cv Aa Ab hS ((big_any _ (C.take 8) _ (bytes_pref (n := 8) (c := 128) (Ab.blk 3 hS rfl) (by omega) (by omega)) (by omega)).mono (fun e w' h => ⟨h.1, h.2 ▸ Below.refl _ _⟩)) ?_; clear hS; intro w hS; refine Ac ?_) | (refine Stp.go Aa (by rfl) (by rfl) (r_convI (by rfl) (by rfl) (by infer_instance) (by infer_instance) hcn.symm) ?_; refine Ac ?_)) | ((fail_if_success (with_reducible refine Ad ?_)); first | go_step | go_step3 | rw [Exit.noGoto_normal] | rw [Exit.noGoto_ret] | rw [Exit.noGoto_exit]))
  rename_i bC z1 bR z2 bP z3 z4 z5 z6 KK1 hKK1 KK hKK
  have hGne : G ≠ [] := by intro e; rw [e] at hgl; cases hgl
  have sH : ∀ (n : Int) (X : List UInt8), X.length = 88 → csz (hdV n X) = 89 := fun n X h => by rw [hdV_size, h]
  have sH0 := sH 0 (zs 88) (zs_len 88)
  obtain ⟨q, hq⟩ : ∃ q, decide (G = C.drop 96) = q := ⟨_, rfl⟩
  have heq := fun w v1 v2 h1 h2 => equal_any G (C.drop 96) (by omega) hGne (by omega) v1 v2 w h1 h2
  rw [hq] at heq
  obtain ⟨bG, hbG⟩ : ∃ x, x = b := ⟨_, rfl⟩
  rw [← hbG] at hS ⊢
  clear hbG
  by_cases hneg : n < 0
  · have hRV' := hneg' (fun h => absurd h.1 (Int.not_le.2 hneg))
    clear hneg' hpos heq htg
    refine Cn 8 (by kernel_rfl) (by kernel_rfl) ?_
    dsimp only [List.take, List.drop]
    iterate 8 (first | (refine Dk (fun _ => rfl) ?_; simp only [Act.put, List.setIfInBounds_toArray, List.set_cons_zero, List.set_cons_succ]) | (refine Df rfl (fun _ => rfl) _ (fun w => r_alloc (a := ⟨#[], []⟩) rfl (by infer_instance)) ?_; simp only [Act.put, List.setIfInBounds_toArray, List.set_cons_zero, List.set_cons_succ]) | (refine De rfl (fun _ => rfl) (fun K hK => ?_); apply Exists.intro; apply Exists.intro; apply Exists.intro; apply Exists.intro; refine ⟨fun pB w' hw' hF => ?_, hK _ _ ?_⟩; (focus (exact Ct (by rfl) (by rfl) (by infer_instance) (by rfl) (by repeat (first | exact (fun _ h => absurd h List.not_mem_nil) | refine List.forall_mem_cons.2 ⟨by first | rfl | (simp only [Value.cells]; first | rfl | omega), ?_⟩)) (by (try conv => lhs; simp only [List.flatMap_cons, List.flatMap_nil, Value.cells, List.append_nil, List.cons_append, List.nil_append]); first | done | rfl) (by decide) (by decide))); clear hK K; simp only [Act.put, List.setIfInBounds_toArray, List.set_cons_zero, List.set_cons_succ]) | (refine Dm (fun _ => rfl) (fun K hK => ?_); apply Exists.intro; refine ⟨fun pB w' hw' hF => ?_, hK _ _ ?_⟩; (focus (have hZ := (Ab).call hS hw'; first | exact q_move | exact Dg | exact q_load1 Ab hZ | exact q_loadR Ab hZ | exact Cs | exact Cm | exact q_len | exact q_cap | exact Db | exact q_add | exact q_sub | exact q_mul | exact q_quo | exact q_rem | exact Dr | exact Dq | exact Di | exact Cz | exact Dj | exact Da | exact Cr | exact Dn | exact Dl | exact Cy | exact Cx | exact Cj | exact Cw | exact q_conv | exact q_pick | exact q_not | exact Dp | exact Dh | exact Cu | exact Dt | exact Ds | exact Dd)); clear hK K; simp only [Act.put, List.setIfInBounds_toArray, List.set_cons_zero, List.set_cons_succ]))
    refine wpM_nil ?_
    intro pB w hcq hfq hnq
    replace hS := (Ab).news hS hcq _ (by first | decide | simp) hfq hnq
    first | simp only [List.map_nil, List.nil_append] at hS | simp only [List.map_cons, List.map_nil, List.cons_append, List.nil_append] at hS
    clear hcq hfq hnq
    try dsimp only
    repeat' (first | ((with_reducible refine Ad ?_); first | (refine Stp.go Aa (by rfl) (by rfl) (r_built (by rfl) (by rfl) hd_built0) ?_; refine Ac ?_) | (refine Ar Aa Ab hS ?_ (hv := hdV_ones _ _); clear hS; intro w hS; refine Ac ?_) | ((first | refine Bn Aa ?_ | refine Bq Aa ?_ | refine Aw Aa ?_ | refine Bi Aa Ab hS ?_ | refine Bg Aa Ab hS ?_ | refine Ag Aa ?_ | refine Af Aa ?_ | refine Cc Aa ?_ | refine Cb Aa ?_ | refine Ao Aa ?_ | refine Bz Aa ?_ | refine Bx Aa ?_ | refine Bu Aa ?_ | refine Bv Aa ?_ | refine Ca Aa ?_ | refine Bl Aa ?_ | refine Bh Aa ?_ | refine Bw Aa (fun hc => ?_) (fun hc => ?_) | refine Bb Aa ?_ | refine Ap Aa ?_ | refine Bc Aa ?_ | refine Aq Aa ?_ | refine Ah Aa ?_ | refine Av Aa ?_ | refine Ay Aa ?_ | refine Aj Aa ?_ | refine Al Aa ?_ | refine Ae Aa ?_ | refine Ai Aa ?_ | refine Bo Aa ?_ | refine Br Aa ?_ | refine Bt Aa ?_ | refine Bk Aa ?_ | refine Ax Aa ?_ | refine Ak Aa ?_ | refine Am Aa ?_ | refine Be Aa ?_ | refine Bd Aa ?_) <;> refine Ac ?_) | ((first | refine Bf Aa Ab hS ?_ | refine Bs Aa Ab hS ?_ | refine Ba Aa Ab hS ?_ | refine Bj Aa Ab hS ?_ | refine Bp Aa Ab hS ?_); clear hS; intro b w hS; refine Ac ?_) | ((first | refine Az Aa Ab hS ?_ | refine Ar Aa Ab hS ?_ | refine Au Aa Ab hS ?_); clear hS; intro w hS; refine Ac ?_)) | ((fail_if_success (with_reducible refine Ad ?_)); first | go_step | go_step3 | rw [Exit.noGoto_normal] | rw [Exit.noGoto_ret] | rw [Exit.noGoto_exit]))
    exact post_cell_tmp (n := 89) Try.results12 (by kernel_rfl) (.inl rfl) _ _ _ _ rfl rfl (hS.blk 2 rfl) (by rw [← csz_is]; exact sH0) ⟨by rw [hRV']; rfl, hS.below⟩
  · cases q with
    | false =>
      have hne : ¬ G = C.drop 96 := of_decide_eq_false hq
      have hRV' := hneg' (fun h => hne h.2)
      clear hneg' hpos htg
      refine Cn 8 (by kernel_rfl) (by kernel_rfl) ?_
      dsimp only [List.take, List.drop]
      iterate 8 (first | (refine Dk (fun _ => rfl) ?_; simp only [Act.put, List.setIfInBounds_toArray, List.set_cons_zero, List.set_cons_succ]) | (refine Df rfl (fun _ => rfl) _ (fun w => r_alloc (a := ⟨#[], []⟩) rfl (by infer_instance)) ?_; simp only [Act.put, List.setIfInBounds_toArray, List.set_cons_zero, List.set_cons_succ]) | (refine De rfl (fun _ => rfl) (fun K hK => ?_); apply Exists.intro; apply Exists.intro; apply Exists.intro; apply Exists.intro; refine ⟨fun pB w' hw' hF => ?_, hK _ _ ?_⟩; (focus (exact Ct (by rfl) (by rfl) (by infer_instance) (by rfl) (by repeat (first | exact (fun _ h => absurd h List.not_mem_nil) | refine List.forall_mem_cons.2 ⟨by first | rfl | (simp only [Value.cells]; first | rfl | omega), ?_⟩)) (by (try conv => lhs; simp only [List.flatMap_cons, List.flatMap_nil, Value.cells, List.append_nil, List.cons_append, List.nil_append]); first | done | rfl) (by decide) (by decide))); clear hK K; simp only [Act.put, List.setIfInBounds_toArray, List.set_cons_zero, List.set_cons_succ]) | (refine Dm (fun _ => rfl) (fun K hK => ?_); apply Exists.intro; refine ⟨fun pB w' hw' hF => ?_, hK _ _ ?_⟩; (focus (have hZ := (Ab).call hS hw'; first | exact (g_qcall (heq _ (.slice (some ⟨bG, 0, none⟩) 32 32) (.slice (some ⟨bC, 96, none⟩) 32 32) (bytesAt_whole (hZ.blk 0 rfl) hgl) (hCd _ bC 96 32 (by omega) (hZ.blk 3 rfl)))) | exact q_move | exact Dg | exact q_load1 Ab hZ | exact q_loadR Ab hZ | exact Cs | exact Cm | exact q_len | exact q_cap | exact Db | exact q_add | exact q_sub | exact q_mul | exact q_quo | exact q_rem | exact Dr | exact Dq | exact Di | exact Cz | exact Dj | exact Da | exact Cr | exact Dn | exact Dl | exact Cy | exact Cx | exact Cj | exact Cw | exact q_conv | exact q_pick | exact q_not | exact Dp | exact Dh | exact Cu | exact Dt | exact Ds | exact Dd)); clear hK K; simp only [Act.put, List.setIfInBounds_toArray, List.set_cons_zero, List.set_cons_succ]))
      refine wpM_nil ?_
      intro pB w hcq hfq hnq
      replace hS := (Ab).news hS hcq _ (by first | decide | simp) hfq hnq
      first | simp only [List.map_nil, List.nil_append] at hS | simp only [List.map_cons, List.map_nil, List.cons_append, List.nil_append] at hS
      clear hcq hfq hnq
      try dsimp only
      repeat' (first | ((with_reducible refine Ad ?_); first | (refine Stp.go Aa (by rfl) (by rfl) (r_built (by rfl) (by rfl) hd_built0) ?_; refine Ac ?_) | (refine Ar Aa Ab hS ?_ (hv := hdV_ones _ _); clear hS; intro w hS; refine Ac ?_) | ((first | refine Bn Aa ?_ | refine Bq Aa ?_ | refine Aw Aa ?_ | refine Bi Aa Ab hS ?_ | refine Bg Aa Ab hS ?_ | refine Ag Aa ?_ | refine Af Aa ?_ | refine Cc Aa ?_ | refine Cb Aa ?_ | refine Ao Aa ?_ | refine Bz Aa ?_ | refine Bx Aa ?_ | refine Bu Aa ?_ | refine Bv Aa ?_ | refine Ca Aa ?_ | refine Bl Aa ?_ | refine Bh Aa ?_ | refine Bw Aa (fun hc => ?_) (fun hc => ?_) | refine Bb Aa ?_ | refine Ap Aa ?_ | refine Bc Aa ?_ | refine Aq Aa ?_ | refine Ah Aa ?_ | refine Av Aa ?_ | refine Ay Aa ?_ | refine Aj Aa ?_ | refine Al Aa ?_ | refine Ae Aa ?_ | refine Ai Aa ?_ | refine Bo Aa ?_ | refine Br Aa ?_ | refine Bt Aa ?_ | refine Bk Aa ?_ | refine Ax Aa ?_ | refine Ak Aa ?_ | refine Am Aa ?_ | refine Be Aa ?_ | refine Bd Aa ?_) <;> refine Ac ?_) | ((first | refine Bf Aa Ab hS ?_ | refine Bs Aa Ab hS ?_ | refine Ba Aa Ab hS ?_ | refine Bj Aa Ab hS ?_ | refine Bp Aa Ab hS ?_); clear hS; intro b w hS; refine Ac ?_) | ((first | refine Az Aa Ab hS ?_ | refine Ar Aa Ab hS ?_ | refine Au Aa Ab hS ?_); clear hS; intro w hS; refine Ac ?_)) | ((fail_if_success (with_reducible refine Ad ?_)); first | go_step | go_step3 | rw [Exit.noGoto_normal] | rw [Exit.noGoto_ret] | rw [Exit.noGoto_exit]))
      exact post_cell_tmp (n := 89) Try.results12 (by kernel_rfl) (.inl rfl) _ _ _ _ rfl rfl (hS.blk 2 rfl) (by rw [← csz_is]; exact sH0) ⟨by rw [hRV']; rfl, hS.below⟩
    | true =>
      have hye : G = C.drop 96 := of_decide_eq_true hq
      have hRV' := hpos (Int.not_lt.1 hneg) hye
      clear hneg' hpos htg
      refine Cn 8 (by kernel_rfl) (by kernel_rfl) ?_
      dsimp only [List.take, List.drop]
      iterate 8 (first | (refine Dk (fun _ => rfl) ?_; simp only [Act.put, List.setIfInBounds_toArray, List.set_cons_zero, List.set_cons_succ]) | (refine Df rfl (fun _ => rfl) _ (fun w => r_alloc (a := ⟨#[], []⟩) rfl (by infer_instance)) ?_; simp only [Act.put, List.setIfInBounds_toArray, List.set_cons_zero, List.set_cons_succ]) | (refine De rfl (fun _ => rfl) (fun K hK => ?_); apply Exists.intro; apply Exists.intro; apply Exists.intro; apply Exists.intro; refine ⟨fun pB w' hw' hF => ?_, hK _ _ ?_⟩; (focus (exact Ct (by rfl) (by rfl) (by infer_instance) (by rfl) (by repeat (first | exact (fun _ h => absurd h List.not_mem_nil) | refine List.forall_mem_cons.2 ⟨by first | rfl | (simp only [Value.cells]; first | rfl | omega), ?_⟩)) (by (try conv => lhs; simp only [List.flatMap_cons, List.flatMap_nil, Value.cells, List.append_nil, List.cons_append, List.nil_append]); first | done | rfl) (by decide) (by decide))); clear hK K; simp only [Act.put, List.setIfInBounds_toArray, List.set_cons_zero, List.set_cons_succ]) | (refine Dm (fun _ => rfl) (fun K hK => ?_); apply Exists.intro; refine ⟨fun pB w' hw' hF => ?_, hK _ _ ?_⟩; (focus (have hZ := (Ab).call hS hw'; first | exact (g_qcall (heq _ (.slice (some ⟨bG, 0, none⟩) 32 32) (.slice (some ⟨bC, 96, none⟩) 32 32) (bytesAt_whole (hZ.blk 0 rfl) hgl) (hCd _ bC 96 32 (by omega) (hZ.blk 3 rfl)))) | exact q_move | exact Dg | exact q_load1 Ab hZ | exact q_loadR Ab hZ | exact Cs | exact Cm | exact q_len | exact q_cap | exact Db | exact q_add | exact q_sub | exact q_mul | exact q_quo | exact q_rem | exact Dr | exact Dq | exact Di | exact Cz | exact Dj | exact Da | exact Cr | exact Dn | exact Dl | exact Cy | exact Cx | exact Cj | exact Cw | exact q_conv | exact q_pick | exact q_not | exact Dp | exact Dh | exact Cu | exact Dt | exact Ds | exact Dd)); clear hK K; simp only [Act.put, List.setIfInBounds_toArray, List.set_cons_zero, List.set_cons_succ]))
      refine wpM_nil ?_
      intro pB w hcq hfq hnq
      replace hS := (Ab).news hS hcq _ (by first | decide | simp) hfq hnq
      first | simp only [List.map_nil, List.nil_append] at hS | simp only [List.map_cons, List.map_nil, List.cons_append, List.nil_append] at hS
      clear hcq hfq hnq
      try dsimp only
      have sHn := sH n (zs 88) (zs_len 88)
      repeat' (first | ((with_reducible refine Ad ?_); first | (refine Stp.go Aa (by rfl) (by rfl) (r_built (by rfl) (by rfl) (hd_built n)) ?_; refine Ac ?_) | (refine Ar Aa Ab hS ?_ (hv := hdV_ones _ _); clear hS; intro w hS; refine Ac ?_) | ((first | refine Bn Aa ?_ | refine Bq Aa ?_ | refine Aw Aa ?_ | refine Bi Aa Ab hS ?_ | refine Bg Aa Ab hS ?_ | refine Ag Aa ?_ | refine Af Aa ?_ | refine Cc Aa ?_ | refine Cb Aa ?_ | refine Ao Aa ?_ | refine Bz Aa ?_ | refine Bx Aa ?_ | refine Bu Aa ?_ | refine Bv Aa ?_ | refine Ca Aa ?_ | refine Bl Aa ?_ | refine Bh Aa ?_ | refine Bw Aa (fun hc => ?_) (fun hc => ?_) | refine Bb Aa ?_ | refine Ap Aa ?_ | refine Bc Aa ?_ | refine Aq Aa ?_ | refine Ah Aa ?_ | refine Av Aa ?_ | refine Ay Aa ?_ | refine Aj Aa ?_ | refine Al Aa ?_ | refine Ae Aa ?_ | refine Ai Aa ?_ | refine Bo Aa ?_ | refine Br Aa ?_ | refine Bt Aa ?_ | refine Bk Aa ?_ | refine Ax Aa ?_ | refine Ak Aa ?_ | refine Am Aa ?_ | refine Be Aa ?_ | refine Bd Aa ?_) <;> refine Ac ?_) | ((first | refine Bf Aa Ab hS ?_ | refine Bs Aa Ab hS ?_ | refine Ba Aa Ab hS ?_ | refine Bj Aa Ab hS ?_ | refine Bp Aa Ab hS ?_); clear hS; intro b w hS; refine Ac ?_) | ((first | refine Az Aa Ab hS ?_ | refine Ar Aa Ab hS ?_ | refine Au Aa Ab hS ?_); clear hS; intro w hS; refine Ac ?_)) | ((fail_if_success (with_reducible refine Ad ?_)); first | go_step | go_step3 | rw [Exit.noGoto_normal] | rw [Exit.noGoto_ret] | rw [Exit.noGoto_exit]))
      obtain ⟨b8, hb8⟩ : ∃ x, x = b := ⟨_, rfl⟩
      rw [← hb8] at hS ⊢
      clear hb8 heq hkv hcn
      obtain ⟨R, hR⟩ : ∃ R, restL C = R := ⟨_, rfl⟩
      rw [hR] at hRl hRd hRV'
      clear hR
      go_loopw [9, 10, 29] (fun u9 u10 u29 wr => ∃ k : Nat, k ≤ 2 ∧ u29 = .int .i64 (k : Int) ∧ u9 = .int .i64 ((8 + 32 * k : Nat) : Int) ∧ St w0 wr [(b8, hdV n (R.take (32 * k) ++ zs (88 - 32 * k)), 28), (bR, hdV 0 (zs 88), 28), (bC, bvs C, 30)]) (fun _ _ u29 _ => 2 - (intOf u29).toNat)
      case atStart => exact ⟨0, by omega, rfl, rfl, by rw [Nat.mul_zero, List.take_zero, List.nil_append]; exact (hS.erase 1).erase 1⟩
      case round =>
        clear hS
        obtain ⟨k, hk2, rfl, rfl, hS⟩ := hrel
        have lk : (R.take (32 * k)).length = 32 * k := by rw [List.length_take]; omega
        have s5 := sH n (R.take (32 * k) ++ zs (88 - 32 * k)) (by rw [List.length_append, lk, zs_len]; omega)
        by_cases hlt : k < 2
        · have hr : (C.drop (8 + 32 * k)).take 32 = (R.drop (32 * k)).take 32 := by
            rw [hRd, ← List.drop_drop, List.drop_take, List.take_take, Nat.min_eq_left (by omega)]
          obtain ⟨r, hrr⟩ : ∃ r, (R.drop (32 * k)).take 32 = r := ⟨_, rfl⟩
          have lr : r.length = 32 := by rw [← hrr, List.length_take, List.length_drop]; omega
          have hnx : ovw (hdV n (R.take (32 * k) ++ zs (88 - 32 * k))) (1 + k * 32) ((C.drop (8 + 32 * k)).take 32) = hdV n (R.take (32 * (k + 1)) ++ zs (88 - 32 * (k + 1))) := by
            rw [hr, hrr, hd_ovw, lr, Nat.mul_comm k 32, List.take_left' lk]
            have e1 : R.take (32 * (k + 1)) = R.take (32 * k) ++ r := by rw [← hrr, show 32 * (k + 1) = 32 * k + 32 by omega, List.take_add]
            have e2 : (R.take (32 * k) ++ zs (88 - 32 * k)).drop (32 * k + 32) = zs (88 - 32 * (k + 1)) := by
              rw [List.drop_append, List.drop_of_length_le (by omega), List.nil_append, lk]
              unfold zs
              rw [List.drop_replicate]
              congr 1; omega
            rw [e1, e2, List.append_assoc]
          repeat' (first | ((with_reducible refine Ad ?_); first | ((first | refine Bn Aa ?_ | refine Bq Aa ?_ | refine Aw Aa ?_ | refine Bi Aa Ab hS ?_ | refine Bg Aa Ab hS ?_ | refine Ag Aa ?_ | refine Af Aa ?_ | refine Cc Aa ?_ | refine Cb Aa ?_ | refine Ao Aa ?_ | refine Bz Aa ?_ | refine Bx Aa ?_ | refine Bu Aa ?_ | refine Bv Aa ?_ | refine Ca Aa ?_ | refine Bl Aa ?_ | refine Bh Aa ?_ | refine Bw Aa (fun hc => ?_) (fun hc => ?_) | refine Bb Aa ?_ | refine Ap Aa ?_ | refine Bc Aa ?_ | refine Aq Aa ?_ | refine Ah Aa ?_ | refine Av Aa ?_ | refine Ay Aa ?_ | refine Aj Aa ?_ | refine Al Aa ?_ | refine Ae Aa ?_ | refine Ai Aa ?_ | refine Bo Aa ?_ | refine Br Aa ?_ | refine Bt Aa ?_ | refine Bk Aa ?_ | refine Ax Aa ?_ | refine Ak Aa ?_ | refine Am Aa ?_ | refine Be Aa ?_ | refine Bd Aa ?_) <;> refine Ac ?_) | ((first | refine Bf Aa Ab hS ?_ | refine Bs Aa Ab hS ?_ | refine Ba Aa Ab hS ?_ | refine Bj Aa Ab hS ?_ | refine Bp Aa Ab hS ?_); clear hS; intro b w hS; refine Ac ?_) | ((first | refine Az Aa Ab hS ?_ | refine Ar Aa Ab hS ?_ | refine Au Aa Ab hS ?_); clear hS; intro w hS; refine Ac ?_)) | ((fail_if_success (with_reducible refine Ad ?_)); first | go_step | go_step3 | rw [Exit.noGoto_normal] | rw [Exit.noGoto_ret] | rw [Exit.noGoto_exit]))
          refine region_fluid_lit [0] [0, 1, 2, 3, 4, 5, 6, 7, 8, 9] 7 (by kernel_rfl) (by kernel_rfl) (by rfl) (by kernel_rfl) (by (conv => lhs; simp only [addGs, addG, permL, List.map_cons, List.map_nil, nthL, orD, reO, reG, reE, posL, List.contains_cons, List.contains_nil, Nat.reduceBEq, Bool.or_false, Bool.or_true, Bool.or_self, Bool.false_eq_true, if_true, if_false, Nat.reduceEqDiff, Nat.zero_add, Nat.reduceAdd, List.cons_append, List.nil_append]); first | done | rfl) (by kernel_rfl) (fun _ _ _ _ _ h => h) ?_
          dsimp only [List.take, List.drop]
          iterate 7 (first | (refine Dk (fun _ => rfl) ?_; simp only [Act.put, List.setIfInBounds_toArray, List.set_cons_zero, List.set_cons_succ]) | (refine Df rfl (fun _ => rfl) _ (fun w => r_alloc (a := ⟨#[], []⟩) rfl (by infer_instance)) ?_; simp only [Act.put, List.setIfInBounds_toArray, List.set_cons_zero, List.set_cons_succ]) | (refine De rfl (fun _ => rfl) (fun K hK => ?_); apply Exists.intro; apply Exists.intro; apply Exists.intro; apply Exists.intro; refine ⟨fun pB w' hw' hF => ?_, hK _ _ ?_⟩; (focus (exact Ct (by rfl) (by rfl) (by infer_instance) (by rfl) (by repeat (first | exact (fun _ h => absurd h List.not_mem_nil) | refine List.forall_mem_cons.2 ⟨by first | rfl | (simp only [Value.cells]; first | rfl | omega), ?_⟩)) (by (try conv => lhs; simp only [List.flatMap_cons, List.flatMap_nil, Value.cells, List.append_nil, List.cons_append, List.nil_append]); first | done | rfl) (by decide) (by decide))); clear hK K; simp only [Act.put, List.setIfInBounds_toArray, List.set_cons_zero, List.set_cons_succ]) | (refine Dm (fun _ => rfl) (fun K hK => ?_); apply Exists.intro; refine ⟨fun pB w' hw' hF => ?_, hK _ _ ?_⟩; (focus (have hZ := (Ab).call hS hw'; first | exact q_move | exact Dg | exact q_load1 Ab hZ | exact q_loadR Ab hZ | exact Cs | exact Cm | exact q_len | exact q_cap | exact Db | exact q_add | exact q_sub | exact q_mul | exact q_quo | exact q_rem | exact Dr | exact Dq | exact Di | exact Cz | exact Dj | exact Da | exact Cr | exact Dn | exact Dl | exact Cy | exact Cx | exact Cj | exact Cw | exact q_conv | exact q_pick | exact q_not | exact Dp | exact Dh | exact Cu | exact Dt | exact Ds | exact Dd)); clear hK K; simp only [Act.put, List.setIfInBounds_toArray, List.set_cons_zero, List.set_cons_succ]))
          refine wpM_nil ?_
          intro pB w hcq hfq hnq
          replace hS := (Ab).news hS hcq _ (by first | decide | simp) hfq hnq
          first | simp only [List.map_nil, List.nil_append] at hS | simp only [List.map_cons, List.map_nil, List.cons_append, List.nil_append] at hS
          clear hcq hfq hnq
          try dsimp only
          refine s_copy (i := 0) Aa Ab hS (by rfl) (by rfl) (by rfl) (by rfl) (by infer_instance) (by rfl) (l := C.drop (8 + 32 * k)) (hCd _ bC (8 + 32 * k) (128 - (8 + 32 * k)) (by omega) (hS.blk 2 rfl)) (by rw [s5, hr, hrr, lr]; omega) hnx (by (try conv => lhs; simp only [List.set_cons_zero, List.set_cons_succ, List.eraseIdx_cons_zero, List.eraseIdx_cons_succ]); first | done | rfl) (show ((((C.drop (8 + 32 * k)).take 32).length : Nat) : Int) = 32 by rw [hr, hrr, lr]; rfl) ?_
          clear hS
          intro w hS
          refine Ac ?_
          repeat' (first | ((with_reducible refine Ad ?_); first | ((first | refine Bn Aa ?_ | refine Bq Aa ?_ | refine Aw Aa ?_ | refine Bi Aa Ab hS ?_ | refine Bg Aa Ab hS ?_ | refine Ag Aa ?_ | refine Af Aa ?_ | refine Cc Aa ?_ | refine Cb Aa ?_ | refine Ao Aa ?_ | refine Bz Aa ?_ | refine Bx Aa ?_ | refine Bu Aa ?_ | refine Bv Aa ?_ | refine Ca Aa ?_ | refine Bl Aa ?_ | refine Bh Aa ?_ | refine Bw Aa (fun hc => ?_) (fun hc => ?_) | refine Bb Aa ?_ | refine Ap Aa ?_ | refine Bc Aa ?_ | refine Aq Aa ?_ | refine Ah Aa ?_ | refine Av Aa ?_ | refine Ay Aa ?_ | refine Aj Aa ?_ | refine Al Aa ?_ | refine Ae Aa ?_ | refine Ai Aa ?_ | refine Bo Aa ?_ | refine Br Aa ?_ | refine Bt Aa ?_ | refine Bk Aa ?_ | refine Ax Aa ?_ | refine Ak Aa ?_ | refine Am Aa ?_ | refine Be Aa ?_ | refine Bd Aa ?_) <;> refine Ac ?_) | ((first | refine Bf Aa Ab hS ?_ | refine Bs Aa Ab hS ?_ | refine Ba Aa Ab hS ?_ | refine Bj Aa Ab hS ?_ | refine Bp Aa Ab hS ?_); clear hS; intro b w hS; refine Ac ?_) | ((first | refine Az Aa Ab hS ?_ | refine Ar Aa Ab hS ?_ | refine Au Aa Ab hS ?_); clear hS; intro w hS; refine Ac ?_)) | ((fail_if_success (with_reducible refine Ad ?_)); first | go_step | go_step3 | rw [Exit.noGoto_normal] | rw [Exit.noGoto_ret] | rw [Exit.noGoto_exit]))
          go_roundw
          case rel => exact ⟨k + 1, by omega, by push_cast; rfl, by push_cast; simp [Int.mul_add, Int.add_assoc], hS⟩
          case measure => first | (simp [intOf]; done) | (simp [intOf]; omega)
        · obtain rfl : k = 2 := by omega
          have hr : (C.drop 72).take 24 = R.drop 64 := by rw [hRd, List.drop_take, List.drop_drop]
          have lr : (R.drop 64).length = 24 := by rw [List.length_drop]; omega
          have hnx : ovw (hdV n (R.take (32 * 2) ++ zs (88 - 32 * 2))) 65 ((C.drop 72).take 24) = hdV n R := by
            have e2 : (R.take (32 * 2) ++ zs (88 - 32 * 2)).drop (64 + 24) = [] := List.drop_of_length_le (by rw [List.length_append, lk, zs_len]; omega)
            rw [hr, show 65 = 1 + 64 from rfl, hd_ovw, lr, List.take_left' lk, e2, List.append_nil, List.take_append_drop]
          have s8 := sH n R hRl
          repeat' (first | ((with_reducible refine Ad ?_); first | ((first | refine Bn Aa ?_ | refine Bq Aa ?_ | refine Aw Aa ?_ | refine Bi Aa Ab hS ?_ | refine Bg Aa Ab hS ?_ | refine Ag Aa ?_ | refine Af Aa ?_ | refine Cc Aa ?_ | refine Cb Aa ?_ | refine Ao Aa ?_ | refine Bz Aa ?_ | refine Bx Aa ?_ | refine Bu Aa ?_ | refine Bv Aa ?_ | refine Ca Aa ?_ | refine Bl Aa ?_ | refine Bh Aa ?_ | refine Bw Aa (fun hc => ?_) (fun hc => ?_) | refine Bb Aa ?_ | refine Ap Aa ?_ | refine Bc Aa ?_ | refine Aq Aa ?_ | refine Ah Aa ?_ | refine Av Aa ?_ | refine Ay Aa ?_ | refine Aj Aa ?_ | refine Al Aa ?_ | refine Ae Aa ?_ | refine Ai Aa ?_ | refine Bo Aa ?_ | refine Br Aa ?_ | refine Bt Aa ?_ | refine Bk Aa ?_ | refine Ax Aa ?_ | refine Ak Aa ?_ | refine Am Aa ?_ | refine Be Aa ?_ | refine Bd Aa ?_) <;> refine Ac ?_) | ((first | refine Bf Aa Ab hS ?_ | refine Bs Aa Ab hS ?_ | refine Ba Aa Ab hS ?_ | refine Bj Aa Ab hS ?_ | refine Bp Aa Ab hS ?_); clear hS; intro b w hS; refine Ac ?_) | ((first | refine Az Aa Ab hS ?_ | refine Ar Aa Ab hS ?_ | refine Au Aa Ab hS ?_); clear hS; intro w hS; refine Ac ?_)) | ((fail_if_success (with_reducible refine Ad ?_)); first | go_step | go_step3 | rw [Exit.noGoto_normal] | rw [Exit.noGoto_ret] | rw [Exit.noGoto_exit]))
          refine Cn 4 (by kernel_rfl) (by kernel_rfl) ?_
          dsimp only [List.take, List.drop]
          iterate 4 (first | (refine Dk (fun _ => rfl) ?_; simp only [Act.put, List.setIfInBounds_toArray, List.set_cons_zero, List.set_cons_succ]) | (refine Df rfl (fun _ => rfl) _ (fun w => r_alloc (a := ⟨#[], []⟩) rfl (by infer_instance)) ?_; simp only [Act.put, List.setIfInBounds_toArray, List.set_cons_zero, List.set_cons_succ]) | (refine De rfl (fun _ => rfl) (fun K hK => ?_); apply Exists.intro; apply Exists.intro; apply Exists.intro; apply Exists.intro; refine ⟨fun pB w' hw' hF => ?_, hK _ _ ?_⟩; (focus (exact Ct (by rfl) (by rfl) (by infer_instance) (by rfl) (by repeat (first | exact (fun _ h => absurd h List.not_mem_nil) | refine List.forall_mem_cons.2 ⟨by first | rfl | (simp only [Value.cells]; first | rfl | omega), ?_⟩)) (by (try conv => lhs; simp only [List.flatMap_cons, List.flatMap_nil, Value.cells, List.append_nil, List.cons_append, List.nil_append]); first | done | rfl) (by decide) (by decide))); clear hK K; simp only [Act.put, List.setIfInBounds_toArray, List.set_cons_zero, List.set_cons_succ]) | (refine Dm (fun _ => rfl) (fun K hK => ?_); apply Exists.intro; refine ⟨fun pB w' hw' hF => ?_, hK _ _ ?_⟩; (focus (have hZ := (Ab).call hS hw'; first | exact q_move | exact Dg | exact q_load1 Ab hZ | exact q_loadR Ab hZ | exact Cs | exact Cm | exact q_len | exact q_cap | exact Db | exact q_add | exact q_sub | exact q_mul | exact q_quo | exact q_rem | exact Dr | exact Dq | exact Di | exact Cz | exact Dj | exact Da | exact Cr | exact Dn | exact Dl | exact Cy | exact Cx | exact Cj | exact Cw | exact q_conv | exact q_pick | exact q_not | exact Dp | exact Dh | exact Cu | exact Dt | exact Ds | exact Dd)); clear hK K; simp only [Act.put, List.setIfInBounds_toArray, List.set_cons_zero, List.set_cons_succ]))
          refine wpM_nil ?_
          intro pB w hcq hfq hnq
          replace hS := (Ab).news hS hcq _ (by first | decide | simp) hfq hnq
          first | simp only [List.map_nil, List.nil_append] at hS | simp only [List.map_cons, List.map_nil, List.cons_append, List.nil_append] at hS
          clear hcq hfq hnq
          try dsimp only
          refine s_copy (i := 0) Aa Ab hS (by rfl) (by rfl) (by rfl) (by rfl) (by infer_instance) (by rfl) (l := C.drop 72) (hCd _ bC 72 56 (by omega) (hS.blk 2 rfl)) (by rw [s5, hr, lr]; omega) hnx (by (try conv => lhs; simp only [List.set_cons_zero, List.set_cons_succ, List.eraseIdx_cons_zero, List.eraseIdx_cons_succ]); first | done | rfl) rfl ?_
          clear hS
          intro w hS
          refine Ac ?_
          repeat' (first | ((with_reducible refine Ad ?_); first | (refine Ar Aa Ab hS ?_ (hv := hdV_ones _ _); clear hS; intro w hS; refine Ac ?_) | ((first | refine Bn Aa ?_ | refine Bq Aa ?_ | refine Aw Aa ?_ | refine Bi Aa Ab hS ?_ | refine Bg Aa Ab hS ?_ | refine Ag Aa ?_ | refine Af Aa ?_ | refine Cc Aa ?_ | refine Cb Aa ?_ | refine Ao Aa ?_ | refine Bz Aa ?_ | refine Bx Aa ?_ | refine Bu Aa ?_ | refine Bv Aa ?_ | refine Ca Aa ?_ | refine Bl Aa ?_ | refine Bh Aa ?_ | refine Bw Aa (fun hc => ?_) (fun hc => ?_) | refine Bb Aa ?_ | refine Ap Aa ?_ | refine Bc Aa ?_ | refine Aq Aa ?_ | refine Ah Aa ?_ | refine Av Aa ?_ | refine Ay Aa ?_ | refine Aj Aa ?_ | refine Al Aa ?_ | refine Ae Aa ?_ | refine Ai Aa ?_ | refine Bo Aa ?_ | refine Br Aa ?_ | refine Bt Aa ?_ | refine Bk Aa ?_ | refine Ax Aa ?_ | refine Ak Aa ?_ | refine Am Aa ?_ | refine Be Aa ?_ | refine Bd Aa ?_) <;> refine Ac ?_) | ((first | refine Bf Aa Ab hS ?_ | refine Bs Aa Ab hS ?_ | refine Ba Aa Ab hS ?_ | refine Bj Aa Ab hS ?_ | refine Bp Aa Ab hS ?_); clear hS; intro b w hS; refine Ac ?_) | ((first | refine Az Aa Ab hS ?_ | refine Ar Aa Ab hS ?_ | refine Au Aa Ab hS ?_); clear hS; intro w hS; refine Ac ?_)) | ((fail_if_success (with_reducible refine Ad ?_)); first | go_step | go_step3 | rw [Exit.noGoto_normal] | rw [Exit.noGoto_ret] | rw [Exit.noGoto_exit]))
          exact post_cell_tmp (n := 89) Try.results12 (by kernel_rfl) (.inl rfl) _ _ _ _ rfl rfl (hS.blk 1 rfl) (by rw [← csz_is]; exact s8) ⟨by rw [hRV']; rfl, hS.below⟩
end Go.Proofs.Ytcjncidahjneaaa
