/-
  Laws that the claims of this seat use, of several texts in one: ResvR, ResvS, ResvT, OpenG, TrodB, OpenOp. No condition of their own.
-/
import Derived.Test.YtkfggilildiflacJF0

namespace Go.Proofs.Ytkfggilildiflac
open Go.ChangeShapes Go.WideShapes Go.ChangeAt Go.RowKit
attribute [local irreducible] wpList wpListIn Oper.quietAt wpM
theorem run_assertE (x : Value) (s : TypeId) (w : World) : (Instr.typeAssert (.iface 45 x) s 45 true).run Try.prog w = .ok (.tuple #[x, .bool true]) w := by
  unfold Instr.typeAssert
  simp [Sem.run_bind, run_underlying Try.underlying45]
theorem r_assert {a : Act} {w : World} {o : Oper} {x : Operand} {s : TypeId} {v : Value} (hop : o.op = .typeAssert x s 45 true) (hx : evO a x = some (.iface 45 v)) : (execOp a.eval o).run Try.prog w = .ok (.value (.tuple #[v, .bool true])) w := by
  unfold execOp; rw [hop]
  simp [Ct hx, run_assertE]
theorem num_errV (n : Int) (w0 : World) : Calls Try.prog 13 #[errV n] w0 fun e w' => e = .returned (.int .i64 n) ∧ Below w0.heap.size w0 w' := by
  have hS := St.start w0
  by_cases hn : n = 0
  · subst hn
    rw [show errV 0 = .nilIface from rfl]
    go_enter Try.func13, Try.ntmps13
    repeat' (first | ((with_reducible refine Ad ?_); first | ((first | refine Bn Aa ?_ | refine Bm Aa ?_ | refine Az Aa ?_ | refine Bf Aa Ab hS ?_ | refine Bi Aa Ab hS ?_ | refine Ag Aa ?_ | refine Af Aa ?_ | refine Bs Aa ?_ | refine Bx Aa ?_ | refine Ao Aa ?_ | refine Bw Aa ?_ | refine Br Aa ?_ | refine Be Aa ?_ | refine Bg Aa ?_ | refine Bv Aa (fun hc => ?_) (fun hc => ?_) | refine Ay Aa ?_ | refine Am Aa ?_ | refine Aw Aa ?_ | refine Ap Aa ?_ | refine Ah Aa ?_ | refine Ax Aa ?_ | refine Ar Aa ?_ | refine Aj Aa ?_ | refine Ae Aa ?_ | refine Ai Aa ?_ | refine Bp Aa ?_ | refine Bo Aa ?_ | refine Bu Aa ?_ | refine Bc Aa ?_ | refine As Aa ?_ | refine Ak Aa ?_) <;> refine Ac ?_) | ((first | refine Bh Aa Ab hS ?_ | refine Bt Aa Ab hS ?_ | refine Ba Aa Ab hS ?_ | refine Bd Aa Ab hS ?_); clear hS; intro b w hS; refine Ac ?_) | ((first | refine Av Aa Ab hS ?_ | refine Au Aa Ab hS ?_); clear hS; intro w hS; refine Ac ?_)) | ((fail_if_success (with_reducible refine Ad ?_)); first | go_step | go_step3 | rw [Exit.noGoto_normal] | rw [Exit.noGoto_ret] | rw [Exit.noGoto_exit]))
    go_ret
    exact ⟨rfl, hS.below⟩
  · rw [show errV n = .iface 45 (.int .i64 n) from if_neg hn]
    go_enter Try.func13, Try.ntmps13
    repeat' (first | ((with_reducible refine Ad ?_); first | ((first | refine Bn Aa ?_ | refine Bm Aa ?_ | refine Az Aa ?_ | refine Bf Aa Ab hS ?_ | refine Bi Aa Ab hS ?_ | refine Ag Aa ?_ | refine Af Aa ?_ | refine Bs Aa ?_ | refine Bx Aa ?_ | refine Ao Aa ?_ | refine Bw Aa ?_ | refine Br Aa ?_ | refine Be Aa ?_ | refine Bg Aa ?_ | refine Bv Aa (fun hc => ?_) (fun hc => ?_) | refine Ay Aa ?_ | refine Am Aa ?_ | refine Aw Aa ?_ | refine Ap Aa ?_ | refine Ah Aa ?_ | refine Ax Aa ?_ | refine Ar Aa ?_ | refine Aj Aa ?_ | refine Ae Aa ?_ | refine Ai Aa ?_ | refine Bp Aa ?_ | refine Bo Aa ?_ | refine Bu Aa ?_ | refine Bc Aa ?_ | refine As Aa ?_ | refine Ak Aa ?_) <;> refine Ac ?_) | ((first | refine Bh Aa Ab hS ?_ | refine Bt Aa Ab hS ?_ | refine Ba Aa Ab hS ?_ | refine Bd Aa Ab hS ?_); clear hS; intro b w hS; refine Ac ?_) | ((first | refine Av Aa Ab hS ?_ | refine Au Aa Ab hS ?_); clear hS; intro w hS; refine Ac ?_) | (refine Stp.go Aa (by rfl) (by rfl) (r_assert (by rfl) (by rfl)) ?_; refine Ac ?_)) | ((fail_if_success (with_reducible refine Ad ?_)); first | go_step | go_step3 | rw [Exit.noGoto_normal] | rw [Exit.noGoto_ret] | rw [Exit.noGoto_exit]))
    go_ret
    exact ⟨rfl, hS.below⟩
theorem keyOf_cons (g : Rg) (l : List Rg) (who : Int) : keyOf (g :: l) who = if g.1 = who then g.2 else keyOf l who := rfl
theorem drop_reg {l : List Rg} {k : Nat} (hk : k < l.length) : l.drop k = l.getD k (0, 0) :: l.drop (k + 1) := by
  rw [List.drop_eq_getElem_cons hk, List.getD_eq_getElem?_getD, List.getElem?_eq_getElem hk]; rfl
set_option maxRecDepth 100000 in
set_option maxHeartbeats 4000000 in
theorem key_any (l : List Rg) (v : Value) (h t g who : Int) (s : Bool) (w0 : World) (hv : RegsAt w0 v l) (hm : l.length ≤ 1000000) :
    Calls Try.prog 16 #[.agg #[v, .int .i64 h, .int .i64 t, .bool s, .int .i64 g], .int .i64 who] w0 fun e w' => e = .returned (.int .i64 (keyOf l who)) ∧ Below w0.heap.size w0 w' := by
  obtain ⟨p, c, rfl, hc⟩ := hv.slice
  have hS := St.start w0
  go_enter Try.func16, Try.ntmps16
  repeat' (first | ((with_reducible refine Ad ?_); first | ((first | refine Bn Aa ?_ | refine Bm Aa ?_ | refine Az Aa ?_ | refine Bf Aa Ab hS ?_ | refine Bi Aa Ab hS ?_ | refine Ag Aa ?_ | refine Af Aa ?_ | refine Bs Aa ?_ | refine Bx Aa ?_ | refine Ao Aa ?_ | refine Bw Aa ?_ | refine Br Aa ?_ | refine Be Aa ?_ | refine Bg Aa ?_ | refine Bv Aa (fun hc => ?_) (fun hc => ?_) | refine Ay Aa ?_ | refine Am Aa ?_ | refine Aw Aa ?_ | refine Ap Aa ?_ | refine Ah Aa ?_ | refine Ax Aa ?_ | refine Ar Aa ?_ | refine Aj Aa ?_ | refine Ae Aa ?_ | refine Ai Aa ?_ | refine Bp Aa ?_ | refine Bo Aa ?_ | refine Bu Aa ?_ | refine Bc Aa ?_ | refine As Aa ?_ | refine Ak Aa ?_) <;> refine Ac ?_) | ((first | refine Bh Aa Ab hS ?_ | refine Bt Aa Ab hS ?_ | refine Ba Aa Ab hS ?_ | refine Bd Aa Ab hS ?_); clear hS; intro b w hS; refine Ac ?_) | ((first | refine Av Aa Ab hS ?_ | refine Au Aa Ab hS ?_); clear hS; intro w hS; refine Ac ?_)) | ((fail_if_success (with_reducible refine Ad ?_)); first | go_step | go_step3 | rw [Exit.noGoto_normal] | rw [Exit.noGoto_ret] | rw [Exit.noGoto_exit]))
  go_loopw [5] (fun u5 wr => ∃ k : Nat, k ≤ l.length ∧ u5 = .int .i64 (k : Int) ∧ keyOf l who = keyOf (l.drop k) who ∧ St w0 wr [(b, #[.slice p l.length c, .int .i64 h, .int .i64 t, .bool s, .int .i64 g], 24)]) (fun u5 _ => l.length - (intOf u5).toNat)
  case atStart => exact ⟨0, by omega, rfl, rfl, hS⟩
  case round =>
    obtain ⟨k, hk, rfl, hK, hS⟩ := hrel
    by_cases hlt : k < l.length
    · obtain ⟨rb, o, cs, ty, fr, rfl, hb, hcell⟩ := hv.open_ (by omega)
      have q1 := csz_reg hcell hlt
      have q2 := who_cell hcell hlt
      have q3 := key_cell hcell hlt
      rw [drop_reg hlt] at hK
      rw [keyOf_cons] at hK
      obtain ⟨x1, hx1⟩ : ∃ x, (l.getD k (0, 0)).1 = x := ⟨_, rfl⟩
      obtain ⟨x2, hx2⟩ : ∃ x, (l.getD k (0, 0)).2 = x := ⟨_, rfl⟩
      rw [hx1] at q2 hK
      rw [hx2] at q3 hK
      by_cases hw : x1 = who
      · rw [if_pos hw] at hK
        repeat' (first | ((with_reducible refine Ad ?_); first | ((first | refine Bn Aa ?_ | refine Bm Aa ?_ | refine Az Aa ?_ | refine Bf Aa Ab hS ?_ (hv := by first | rfl | exact Bl | (rw [Array.getElem?_toList]; first | exact q2 | exact q3)) | refine Dp Aa (by first | exact ((hS).far hb).1) ?_ (hv := by first | rfl | exact Bl | (rw [Array.getElem?_toList]; first | exact q2 | exact q3)) | refine Bi Aa Ab hS ?_ (hv := by first | exact Bq _ _ (by (try simp only [Ca, Ce, Bz, List.length_append, List.length_set, zs_len, List.length_take, List.length_drop, List.length_cons, List.length_nil]); first | done | rfl | omega) | (first | exact q2 | exact q3) | rfl) | refine Dq Aa (by first | exact ((hS).far hb).1) ?_ (hv := by first | exact Bq _ _ (by (try simp only [Ca, Ce, Bz, List.length_append, List.length_set, zs_len, List.length_take, List.length_drop, List.length_cons, List.length_nil]); first | done | rfl | omega) | (first | exact q2 | exact q3) | rfl) | refine Ag Aa ?_ | refine Af Aa ?_ | refine Bs Aa ?_ | refine Bx Aa ?_ | refine Ao Aa ?_ | refine Bw Aa ?_ | refine Br Aa ?_ | refine Be Aa ?_ | refine Bg Aa ?_ | refine Bv Aa (fun hc => ?_) (fun hc => ?_) | refine Ay Aa ?_ | refine Am Aa ?_ | refine Aw Aa ?_ | refine Ap Aa ?_ | refine Ah Aa ?_ | refine Ax Aa ?_ (hv' := by first | rfl | exact Bl | (rw [Array.getElem?_toList]; first | exact q2 | exact q3)) | refine Ar Aa ?_ | refine Aj Aa ?_ | refine Ae Aa ?_ | refine Ai Aa ?_ | refine Bp Aa ?_ | refine Bo Aa ?_ | refine Bu Aa ?_ | refine Bc Aa ?_ | refine As Aa ?_ | refine Ak Aa ?_) <;> refine Ac ?_) | ((first | refine Bh Aa Ab hS ?_ | refine Bt Aa Ab hS ?_ | refine Ba Aa Ab hS ?_ | refine Bd Aa Ab hS ?_); clear hS; intro b w hS; refine Ac ?_) | ((first | refine Av Aa Ab hS ?_ | refine Au Aa Ab hS ?_); clear hS; intro w hS; refine Ac ?_)) | ((fail_if_success (with_reducible refine Ad ?_)); first | go_step | go_step3 | rw [Exit.noGoto_normal] | rw [Exit.noGoto_ret] | rw [Exit.noGoto_exit]))
        go_ret
        exact ⟨by rw [hK]; rfl, hS.below⟩
      · rw [if_neg hw] at hK
        repeat' (first | ((with_reducible refine Ad ?_); first | ((first | refine Bn Aa ?_ | refine Bm Aa ?_ | refine Az Aa ?_ | refine Bf Aa Ab hS ?_ (hv := by first | rfl | exact Bl | (rw [Array.getElem?_toList]; first | exact q2 | exact q3)) | refine Dp Aa (by first | exact ((hS).far hb).1) ?_ (hv := by first | rfl | exact Bl | (rw [Array.getElem?_toList]; first | exact q2 | exact q3)) | refine Bi Aa Ab hS ?_ (hv := by first | exact Bq _ _ (by (try simp only [Ca, Ce, Bz, List.length_append, List.length_set, zs_len, List.length_take, List.length_drop, List.length_cons, List.length_nil]); first | done | rfl | omega) | (first | exact q2 | exact q3) | rfl) | refine Dq Aa (by first | exact ((hS).far hb).1) ?_ (hv := by first | exact Bq _ _ (by (try simp only [Ca, Ce, Bz, List.length_append, List.length_set, zs_len, List.length_take, List.length_drop, List.length_cons, List.length_nil]); first | done | rfl | omega) | (first | exact q2 | exact q3) | rfl) | refine Ag Aa ?_ | refine Af Aa ?_ | refine Bs Aa ?_ | refine Bx Aa ?_ | refine Ao Aa ?_ | refine Bw Aa ?_ | refine Br Aa ?_ | refine Be Aa ?_ | refine Bg Aa ?_ | refine Bv Aa (fun hc => ?_) (fun hc => ?_) | refine Ay Aa ?_ | refine Am Aa ?_ | refine Aw Aa ?_ | refine Ap Aa ?_ | refine Ah Aa ?_ | refine Ax Aa ?_ (hv' := by first | rfl | exact Bl | (rw [Array.getElem?_toList]; first | exact q2 | exact q3)) | refine Ar Aa ?_ | refine Aj Aa ?_ | refine Ae Aa ?_ | refine Ai Aa ?_ | refine Bp Aa ?_ | refine Bo Aa ?_ | refine Bu Aa ?_ | refine Bc Aa ?_ | refine As Aa ?_ | refine Ak Aa ?_) <;> refine Ac ?_) | ((first | refine Bh Aa Ab hS ?_ | refine Bt Aa Ab hS ?_ | refine Ba Aa Ab hS ?_ | refine Bd Aa Ab hS ?_); clear hS; intro b w hS; refine Ac ?_) | ((first | refine Av Aa Ab hS ?_ | refine Au Aa Ab hS ?_); clear hS; intro w hS; refine Ac ?_)) | ((fail_if_success (with_reducible refine Ad ?_)); first | go_step | go_step3 | rw [Exit.noGoto_normal] | rw [Exit.noGoto_ret] | rw [Exit.noGoto_exit]))
        go_roundw
        case rel => exact ⟨k + 1, by omega, by push_cast; rfl, hK, hS⟩
        case measure => simp [intOf]; omega
    · obtain rfl : k = l.length := by omega
      rw [List.drop_length] at hK
      repeat' (first | ((with_reducible refine Ad ?_); first | ((first | refine Bn Aa ?_ | refine Bm Aa ?_ | refine Az Aa ?_ | refine Bf Aa Ab hS ?_ | refine Bi Aa Ab hS ?_ | refine Ag Aa ?_ | refine Af Aa ?_ | refine Bs Aa ?_ | refine Bx Aa ?_ | refine Ao Aa ?_ | refine Bw Aa ?_ | refine Br Aa ?_ | refine Be Aa ?_ | refine Bg Aa ?_ | refine Bv Aa (fun hc => ?_) (fun hc => ?_) | refine Ay Aa ?_ | refine Am Aa ?_ | refine Aw Aa ?_ | refine Ap Aa ?_ | refine Ah Aa ?_ | refine Ax Aa ?_ | refine Ar Aa ?_ | refine Aj Aa ?_ | refine Ae Aa ?_ | refine Ai Aa ?_ | refine Bp Aa ?_ | refine Bo Aa ?_ | refine Bu Aa ?_ | refine Bc Aa ?_ | refine As Aa ?_ | refine Ak Aa ?_) <;> refine Ac ?_) | ((first | refine Bh Aa Ab hS ?_ | refine Bt Aa Ab hS ?_ | refine Ba Aa Ab hS ?_ | refine Bd Aa Ab hS ?_); clear hS; intro b w hS; refine Ac ?_) | ((first | refine Av Aa Ab hS ?_ | refine Au Aa Ab hS ?_); clear hS; intro w hS; refine Ac ?_)) | ((fail_if_success (with_reducible refine Ad ?_)); first | go_step | go_step3 | rw [Exit.noGoto_normal] | rw [Exit.noGoto_ret] | rw [Exit.noGoto_exit]))
      go_ret
      exact ⟨by rw [hK]; rfl, hS.below⟩
theorem key_c {l : List Rg} {who n : Int} (hn : keyOf l who = n) (v : Value) (h t g : Int) (s : Bool) (w0 : World) (hv : RegsAt w0 v l) (hm : l.length ≤ 1000000) :
    Calls Try.prog 16 #[.agg #[v, .int .i64 h, .int .i64 t, .bool s, .int .i64 g], .int .i64 who] w0 fun e w' => e = .returned (.int .i64 n) ∧ Below w0.heap.size w0 w' := by
  subst hn; exact key_any l v h t g who s w0 hv hm
/-- Who may do what. -/
def allowedP (r : Rv) (who ac : Int) : Prop := (ac = 1 ∨ ac = 2) ∧ (r.holder = -1 ∨ holdsR r who ∨ ((r.typ = 1 ∨ r.typ = 5) ∧ ac = 1) ∨ (r.typ = 3 ∧ (ac = 1 ∨ hasR r.regs who = true)) ∨ (r.typ = 4 ∧ hasR r.regs who = true))
instance (r : Rv) (who ac : Int) : Decidable (allowedP r who ac) := by unfold allowedP; infer_instance
set_option maxRecDepth 100000 in
set_option maxHeartbeats 8000000 in
theorem allowed_any (l : List Rg) (hl : okL l) (v : Value) (h t g who ac : Int) (s : Bool) (ht : h ≠ -1 → t ≤ 6) (w0 : World) (hv : RegsAt w0 v l) (hm : l.length ≤ 1000) :
    Calls Try.prog 20 #[.agg #[v, .int .i64 h, .int .i64 t, .bool s, .int .i64 g], .int .i64 who, .int .i64 ac] w0 fun e w' => e = .returned (.bool (decide (allowedP ⟨l, h, t, s, g⟩ who ac))) ∧ Below w0.heap.size w0 w' := by
  have hS := St.start w0
  obtain ⟨i, hi⟩ : ∃ i, idxR l who = i := ⟨_, rfl⟩
  obtain ⟨H, hH⟩ : ∃ H, decide (h ≠ -1) = H := ⟨_, rfl⟩
  obtain ⟨O, hO⟩ : ∃ O, (holdL l h t).contains who = O := ⟨_, rfl⟩
  obtain ⟨R, hR⟩ : ∃ R, hasR l who = R := ⟨_, rfl⟩
  have hP : allowedP ⟨l, h, t, s, g⟩ who ac ↔ (ac = 1 ∨ ac = 2) ∧ (H = false ∨ O = true ∨ ((t = 1 ∨ t = 5) ∧ ac = 1) ∨ (t = 3 ∧ (ac = 1 ∨ R = true)) ∨ (t = 4 ∧ R = true)) := by
    unfold allowedP
    rw [← holdL_iff (s := s) (g := g) hl ht, hO, hR]
    subst hH
    simp
  have hF : ∀ B : Bool, (B = true ↔ (ac = 1 ∨ ac = 2) ∧ (H = false ∨ O = true ∨ ((t = 1 ∨ t = 5) ∧ ac = 1) ∨ (t = 3 ∧ (ac = 1 ∨ R = true)) ∨ (t = 4 ∧ R = true))) → decide (allowedP ⟨l, h, t, s, g⟩ who ac) = B := by
    intro B hB
    rw [← hP] at hB
    cases B with
    | true => exact decide_eq_true (hB.1 rfl)
    | false => exact decide_eq_false fun hx => by cases hB.2 hx
  obtain ⟨B, hB⟩ : ∃ B, decide (allowedP ⟨l, h, t, s, g⟩ who ac) = B := ⟨_, rfl⟩
  rw [hB]
  rw [hB] at hF
  clear hP hB
  cases H <;> cases O <;> cases R
  all_goals
    go_enter Try.func20, Try.ntmps20
    repeat' (first | ((with_reducible refine Ad ?_); first | ((first | refine Bn Aa ?_ | refine Bm Aa ?_ | refine Az Aa ?_ | refine Bf Aa Ab hS ?_ | refine Bi Aa Ab hS ?_ | refine Ag Aa ?_ | refine Af Aa ?_ | refine Bs Aa ?_ | refine Bx Aa ?_ | refine Ao Aa ?_ | refine Bw Aa ?_ | refine Br Aa ?_ | refine Be Aa ?_ | refine Bg Aa ?_ | refine Bv Aa (fun hc => ?_) (fun hc => ?_) | refine Ay Aa ?_ | refine Am Aa ?_ | refine Aw Aa ?_ | refine Ap Aa ?_ | refine Ah Aa ?_ | refine Ax Aa ?_ | refine Ar Aa ?_ | refine Aj Aa ?_ | refine Ae Aa ?_ | refine Ai Aa ?_ | refine Bp Aa ?_ | refine Bo Aa ?_ | refine Bu Aa ?_ | refine Bc Aa ?_ | refine As Aa ?_ | refine Ak Aa ?_) <;> refine Ac ?_) | ((first | refine Bh Aa Ab hS ?_ | refine Bt Aa Ab hS ?_ | refine Ba Aa Ab hS ?_ | refine Bd Aa Ab hS ?_); clear hS; intro b w hS; refine Ac ?_) | ((first | refine Av Aa Ab hS ?_ | refine Au Aa Ab hS ?_); clear hS; intro w hS; refine Ac ?_) | (refine Cb Aa Ab hS (held_c _ _ _ _ _ hH _) ?_; clear hS; intro w hS; refine Ac ?_) | (refine Cb Aa Ab hS (holds_c _ _ _ _ _ _ _ hO _ (hv.below hS.below) hm) ?_; clear hS; intro w hS; refine Ac ?_) | (refine Cb Aa Ab hS (find_c l hl _ _ _ _ _ _ hR hi _ (hv.below hS.below) (by omega)) ?_; clear hS; intro w hS; refine Ac ?_)) | ((fail_if_success (with_reducible refine Ad ?_)); first | go_step | go_step3 | rw [Exit.noGoto_normal] | rw [Exit.noGoto_ret] | rw [Exit.noGoto_exit]))
    all_goals
      go_ret
      first | exact ⟨by rw [hF true (by simp <;> omega)]; rfl, hS.below⟩ | exact ⟨by rw [hF false (by simp <;> omega)]; rfl, hS.below⟩
end Go.Proofs.Ytkfggilildiflac

namespace Go.Proofs.Ytkfggilildiflac
open Go.ChangeShapes Go.WideShapes Go.ChangeAt Go.RowKit
attribute [local irreducible] wpList wpListIn Oper.quietAt wpM
def ros (l : List Ro) : List Value := l.flatMap fun o => [.int .i64 o.op, .int .i64 o.who, .int .i64 o.key, .int .i64 o.new, .int .i64 o.typ, .bool o.stays]
def roZ : Ro := ⟨0, 0, 0, 0, 0, false⟩
theorem ros_cons (o : Ro) (l : List Ro) : ros (o :: l) = .int .i64 o.op :: .int .i64 o.who :: .int .i64 o.key :: .int .i64 o.new :: .int .i64 o.typ :: .bool o.stays :: ros l := rfl
theorem ros_at : ∀ {l : List Ro} {i : Nat}, i < l.length → (ros l)[i * 6]? = some (.int .i64 (l.getD i roZ).op) ∧ (ros l)[i * 6 + 1]? = some (.int .i64 (l.getD i roZ).who) ∧ (ros l)[i * 6 + 2]? = some (.int .i64 (l.getD i roZ).key) ∧ (ros l)[i * 6 + 3]? = some (.int .i64 (l.getD i roZ).new) ∧ (ros l)[i * 6 + 4]? = some (.int .i64 (l.getD i roZ).typ) ∧ (ros l)[i * 6 + 5]? = some (.bool (l.getD i roZ).stays)
  | [], i, h => by simp at h
  | o :: l, 0, _ => ⟨rfl, rfl, rfl, rfl, rfl, rfl⟩
  | o :: l, i + 1, h => by
    have := ros_at (l := l) (i := i) (by simpa using h)
    rw [ros_cons, show (i + 1) * 6 = i * 6 + 6 by omega, show i * 6 + 6 + 1 = i * 6 + 1 + 6 by omega, show i * 6 + 6 + 2 = i * 6 + 2 + 6 by omega, show i * 6 + 6 + 3 = i * 6 + 3 + 6 by omega, show i * 6 + 6 + 4 = i * 6 + 4 + 6 by omega, show i * 6 + 6 + 5 = i * 6 + 5 + 6 by omega]
    simpa using this
def OpsAt (w : World) (v : Value) (l : List Ro) : Prop :=
  ∃ p c, v = .slice p l.length c ∧ l.length ≤ c ∧ (p = none → c = 0) ∧ (l ≠ [] → ∃ b o cs t fr, p = some ⟨b, o, none⟩ ∧ blk w b = some (.cells cs t fr) ∧ ∀ i x, (ros l)[i]? = some x → cs.toList[o + i]? = some x)
theorem OpsAt.below {w w' : World} {v : Value} {l : List Ro} (h : OpsAt w v l) (hb : Below w.heap.size w w') : OpsAt w' v l := by
  obtain ⟨p, c, h1, h2, h3, h4⟩ := h
  refine ⟨p, c, h1, h2, h3, fun hn => ?_⟩
  obtain ⟨b, o, cs, t, fr, e1, e2, e3⟩ := h4 hn
  exact ⟨b, o, cs, t, fr, e1, (hb.block b (blk_lt e2)).trans e2, e3⟩
theorem OpsAt.slice {w : World} {v : Value} {l : List Ro} (h : OpsAt w v l) : ∃ p c, v = .slice p l.length c ∧ l.length ≤ c := by
  obtain ⟨p, c, h1, h2, _⟩ := h; exact ⟨p, c, h1, h2⟩
theorem OpsAt.open_ {w : World} {p : Option Addr} {n c : Nat} {l : List Ro} (h : OpsAt w (.slice p n c) l) (hn : 0 < l.length) :
    ∃ b o cs t fr, p = some ⟨b, o, none⟩ ∧ blk w b = some (.cells cs t fr) ∧ ∀ i x, (ros l)[i]? = some x → cs.toList[o + i]? = some x := by
  obtain ⟨p', c', h1, h2, h3, h4⟩ := h
  simp only [Value.slice.injEq] at h1
  obtain ⟨rfl, rfl, rfl⟩ := h1
  exact h4 (by rintro rfl; simp at hn)
theorem cut6 {cs : Array Value} {q : Nat} {x0 x1 x2 x3 x4 x5 : Value} (h0 : cs.toList[q]? = some x0) (h1 : cs.toList[q + 1]? = some x1) (h2 : cs.toList[q + 2]? = some x2) (h3 : cs.toList[q + 3]? = some x3) (h4 : cs.toList[q + 4]? = some x4) (h5 : cs.toList[q + 5]? = some x5) : cut cs q 6 = #[x0, x1, x2, x3, x4, x5] := by
  obtain ⟨l⟩ := cs
  simp only at h0 h1 h2 h3 h4 h5
  unfold cut
  split
  · next h =>
    obtain ⟨rfl, hs⟩ := h
    have hl : l.length = 6 := hs
    match l, hl with
    | [a, b, c, d, e, f], _ => simp at h0 h1 h2 h3 h4 h5; rw [h0, h1, h2, h3, h4, h5]
  · apply Array.ext'
    simp only [List.extract_toArray, List.extract_eq_take_drop]
    apply List.ext_getElem?
    intro i
    rw [List.getElem?_take]
    match i with
    | 0 => simp [h0]
    | 1 => simp [h1]
    | 2 => simp [h2]
    | 3 => simp [h3]
    | 4 => simp [h4]
    | 5 => simp [h5]
    | i + 6 => rw [if_neg (by omega)]; rfl
theorem cut_op {cs : Array Value} {o : Nat} {l : List Ro} (h : ∀ i x, (ros l)[i]? = some x → cs.toList[o + i]? = some x) {i : Nat} (hi : i < l.length) : cut cs (o + i * 6) 6 = #[.int .i64 (l.getD i roZ).op, .int .i64 (l.getD i roZ).who, .int .i64 (l.getD i roZ).key, .int .i64 (l.getD i roZ).new, .int .i64 (l.getD i roZ).typ, .bool (l.getD i roZ).stays] := by
  obtain ⟨h0, h1, h2, h3, h4, h5⟩ := ros_at hi
  exact cut6 (h _ _ h0) (by rw [Nat.add_assoc]; exact h _ _ h1) (by rw [Nat.add_assoc]; exact h _ _ h2) (by rw [Nat.add_assoc]; exact h _ _ h3) (by rw [Nat.add_assoc]; exact h _ _ h4) (by rw [Nat.add_assoc]; exact h _ _ h5)
theorem csz_op {cs : Array Value} {o : Nat} {l : List Ro} (h : ∀ i x, (ros l)[i]? = some x → cs.toList[o + i]? = some x) {i : Nat} (hi : i < l.length) : o + i * 6 + 6 ≤ csz cs := by
  have h1 := h _ _ (ros_at hi).2.2.2.2.2
  have := (List.getElem?_eq_some_iff.1 h1).1
  unfold csz
  simp only [Array.length_toList] at this
  omega
theorem act_len {r x : Rv} {o : Ro} (hr : goodR r) (h : actR r o = (x, 0)) : x.regs.length ≤ 4 := by
  have h4 : r.regs.length ≤ 4 := hr.1.1
  have hl := hr.2.1
  have hfl : ∀ (r' : Rv) p, r'.regs = r.regs → (endR r' p).regs.length ≤ 4 := fun r' p e => by
    rw [endR_regs, e]; exact Nat.le_trans (List.length_filter_le ..) h4
  unfold actR at h
  split at h
  · split at h
    · simp only [Prod.mk.injEq, and_true] at h; subst h; exact hfl r _ rfl
    · split at h
      · simp at h
      · next hn =>
        simp only [Prod.mk.injEq, and_true] at h
        subst h
        show (insR ..).length ≤ 4
        cases hh : hasR r.regs o.who with
        | true => rw [len_ins_old hl hh]; exact h4
        | false =>
          rw [len_ins_new hl hh]
          have : ¬ 4 ≤ r.regs.length := fun h5 => hn ⟨hh, h5⟩
          omega
  · split at h
    · split at h
      · simp only [Prod.mk.injEq, and_true] at h; subst h; exact h4
      · split at h
        · simp only [Prod.mk.injEq, and_true] at h; subst h; exact h4
        · simp at h
    · split at h
      · split at h
        · simp only [Prod.mk.injEq, and_true] at h; subst h; exact h4
        · split at h
          · simp at h
          · simp only [Prod.mk.injEq, and_true] at h; subst h; exact h4
      · split at h
        · simp only [Prod.mk.injEq, and_true] at h; subst h; exact Nat.zero_le _
        · split at h
          · simp only [Prod.mk.injEq, and_true] at h
            subst h
            refine hfl _ _ ?_
            split <;> rfl
          · simp at h
theorem do_len {r x : Rv} {o : Ro} (h : doR r o = (x, 0)) : x.regs.length ≤ 4 := by
  unfold doR at h
  split at h
  · simp at h
  · next h1 =>
    split at h
    · simp at h
    · exact act_len (Decidable.not_not.1 h1).1 h
theorem runR_nil (r : Rv) : runR r [] = r := rfl
theorem runR_cons (r : Rv) (o : Ro) (m : List Ro) : runR r (o :: m) = runR (if (doR r o).2 = 0 then (doR r o).1 else r) m := rfl
theorem drop_op {l : List Ro} {k : Nat} (hk : k < l.length) : l.drop k = l.getD k roZ :: l.drop (k + 1) := by
  rw [List.drop_eq_getElem_cons hk, List.getD_eq_getElem?_getD, List.getElem?_eq_getElem hk]; rfl
theorem St.left {w0 w : World} {A B : List Blk} (h : St w0 w (A ++ B)) : St w0 w A := by
  have := h.take A.length
  rwa [List.take_left] at this
theorem do_c {l : List Rg} {h t g : Int} {s : Bool} {op who key new typ : Int} {st : Bool} {x : Rv} {er : Int} (hx : doR ⟨l, h, t, s, g⟩ ⟨op, who, key, new, typ, st⟩ = (x, er)) (v : Value) (w0 : World) (hv : RegsAt w0 v l) (hm : l.length ≤ 1000) :
    Calls Try.prog 10 #[.agg #[v, .int .i64 h, .int .i64 t, .bool s, .int .i64 g], .agg #[.int .i64 op, .int .i64 who, .int .i64 key, .int .i64 new, .int .i64 typ, .bool st]] w0 fun e w' => ∃ sv, e = .returned (.tuple #[.agg #[sv, .int .i64 x.holder, .int .i64 x.typ, .bool x.stays, .int .i64 x.gen], errV er]) ∧ OwnRegs w0.heap.size w' sv x.regs ∧ Below w0.heap.size w0 w' :=
  do_any l v h t g s op who key new typ st w0 hv hm x er hx
set_option maxRecDepth 100000 in
set_option maxHeartbeats 8000000 in
theorem run_any (l : List Ro) (v : Value) (w0 : World) (hv : OpsAt w0 v l) (hm : l.length ≤ 9223372036854775807) (x : Rv) (hx : runR nobody l = x) :
    Calls Try.prog 22 #[v] w0 fun e w' => ∃ sv, e = .returned (.tuple #[.agg #[sv, .int .i64 x.holder, .int .i64 x.typ, .bool x.stays, .int .i64 x.gen], .bool (decide (l.length ≤ 200))]) ∧ OwnRegs w0.heap.size w' sv x.regs ∧ Below w0.heap.size w0 w' := by
  obtain ⟨p, c, rfl, hc⟩ := hv.slice
  have hS := St.start w0
  go_enter Try.func22, Try.ntmps22
  repeat' (first | ((with_reducible refine Ad ?_); first | ((first | refine Bn Aa ?_ | refine Bm Aa ?_ | refine Az Aa ?_ | refine Bf Aa Ab hS ?_ | refine Bi Aa Ab hS ?_ | refine Ag Aa ?_ | refine Af Aa ?_ | refine Bs Aa ?_ | refine Bx Aa ?_ | refine Ao Aa ?_ | refine Bw Aa ?_ | refine Br Aa ?_ | refine Be Aa ?_ | refine Bg Aa ?_ | refine Bv Aa (fun hc => ?_) (fun hc => ?_) | refine Ay Aa ?_ | refine Am Aa ?_ | refine Aw Aa ?_ | refine Ap Aa ?_ | refine Ah Aa ?_ | refine Ax Aa ?_ | refine Ar Aa ?_ | refine Aj Aa ?_ | refine Ae Aa ?_ | refine Ai Aa ?_ | refine Bp Aa ?_ | refine Bo Aa ?_ | refine Bu Aa ?_ | refine Bc Aa ?_ | refine As Aa ?_ | refine Ak Aa ?_ | refine Aq Aa ?_ | refine Bj Aa ?_ | refine Bk Aa ?_) <;> refine Ac ?_) | ((first | refine Bh Aa Ab hS ?_ | refine Bt Aa Ab hS ?_ | refine Ba Aa Ab hS ?_ | refine Bd Aa Ab hS ?_); clear hS; intro b w hS; refine Ac ?_) | ((first | refine Av Aa Ab hS ?_ | refine Au Aa Ab hS ?_ | refine Bb Aa Ab hS ?_); clear hS; intro w hS; refine Ac ?_)) | ((fail_if_success (with_reducible refine Ad ?_)); first | go_step | go_step3 | rw [Exit.noGoto_normal] | rw [Exit.noGoto_ret] | rw [Exit.noGoto_exit]))
  rename_i b2 x1 x2 x3 x4
  go_loopw [12] (fun u12 wr => ∃ (k : Nat) (rl : List Rg) (h t g : Int) (s : Bool) (sv : Value) (Lr : List Blk), k ≤ l.length ∧ u12 = .int .i64 (k : Int) ∧ runR nobody l = runR ⟨rl, h, t, s, g⟩ (l.drop k) ∧ rl.length ≤ 4 ∧ RgL rl sv Lr ∧ St w0 wr ((b, #[sv, .int .i64 h, .int .i64 t, .bool s, .int .i64 g], 24) :: (b2, #[.slice none 0 0, .int .i64 0, .int .i64 0, .bool false, .int .i64 0], 24) :: Lr)) (fun u12 _ => l.length - (intOf u12).toNat)
  case atStart => exact ⟨0, [], -1, 0, 0, false, .slice none 0 0, [], by omega, rfl, rfl, by simp, .inl ⟨rfl, rfl, rfl⟩, hS⟩
  case round =>
    obtain ⟨k, rl, h, t, g, s, sv, Lr, hk, rfl, hR, h4, hRg, hS⟩ := hrel
    obtain ⟨p1, c1, rfl⟩ := hRg.slice
    by_cases hlt : k < l.length
    · obtain ⟨rb, o, cs, ty, fr, rfl, hb, hcell⟩ := hv.open_ (by omega)
      have q1 := csz_op hcell hlt
      have hcut := cut_op hcell hlt
      rw [drop_op hlt] at hR
      obtain ⟨o1, ho1⟩ : ∃ o1, l.getD k roZ = o1 := ⟨_, rfl⟩
      rw [ho1] at hcut hR
      obtain ⟨op, who, key, new, typ, st⟩ := o1
      dsimp only at hcut
      repeat' (first | ((with_reducible refine Ad ?_); first | ((first | refine Bn Aa ?_ | refine Bm Aa ?_ | refine Az Aa ?_ | refine Bf Aa Ab hS ?_ (hv := by first | rfl | exact Bl | (rw [Array.getElem?_toList]; exact hcut)) | refine Dp Aa (by first | exact ((hS).far hb).1) ?_ (hv := by first | rfl | exact Bl | (rw [Array.getElem?_toList]; exact hcut)) | refine Bi Aa Ab hS ?_ (hv := by first | exact Bq _ _ (by (try simp only [Ca, Ce, Bz, List.length_append, List.length_set, zs_len, List.length_take, List.length_drop, List.length_cons, List.length_nil]); first | done | rfl | omega) | (exact hcut) | rfl) | refine Dq Aa (by first | exact ((hS).far hb).1) ?_ (hv := by first | exact Bq _ _ (by (try simp only [Ca, Ce, Bz, List.length_append, List.length_set, zs_len, List.length_take, List.length_drop, List.length_cons, List.length_nil]); first | done | rfl | omega) | (exact hcut) | rfl) | refine Ag Aa ?_ | refine Af Aa ?_ | refine Bs Aa ?_ | refine Bx Aa ?_ | refine Ao Aa ?_ | refine Bw Aa ?_ | refine Br Aa ?_ | refine Be Aa ?_ | refine Bg Aa ?_ | refine Bv Aa (fun hc => ?_) (fun hc => ?_) | refine Ay Aa ?_ | refine Am Aa ?_ | refine Aw Aa ?_ | refine Ap Aa ?_ | refine Ah Aa ?_ | refine Ax Aa ?_ (hv' := by first | rfl | exact Bl | (rw [Array.getElem?_toList]; exact hcut)) | refine Ar Aa ?_ | refine Aj Aa ?_ | refine Ae Aa ?_ | refine Ai Aa ?_ | refine Bp Aa ?_ | refine Bo Aa ?_ | refine Bu Aa ?_ | refine Bc Aa ?_ | refine As Aa ?_ | refine Ak Aa ?_ | refine Aq Aa ?_ | refine Bj Aa ?_ | refine Bk Aa ?_) <;> refine Ac ?_) | ((first | refine Bh Aa Ab hS ?_ | refine Bt Aa Ab hS ?_ | refine Ba Aa Ab hS ?_ | refine Bd Aa Ab hS ?_); clear hS; intro b w hS; refine Ac ?_) | ((first | refine Av Aa Ab hS ?_ | refine Au Aa Ab hS ?_ | refine Bb Aa Ab hS ?_); clear hS; intro w hS; refine Ac ?_)) | ((fail_if_success (with_reducible refine Ad ?_)); first | go_step | go_step3 | rw [Exit.noGoto_normal] | rw [Exit.noGoto_ret] | rw [Exit.noGoto_exit]))
      obtain ⟨y, er, hy⟩ : ∃ y er, doR ⟨rl, h, t, s, g⟩ ⟨op, who, key, new, typ, st⟩ = (y, er) := ⟨_, _, rfl⟩
      refine s_call Aa (by rfl) (by rfl) (by rfl) (by rfl) (by rfl) (by infer_instance) (do_c hy _ _ (hRg.at (L := []) (by rw [List.append_nil]; exact Ab.drop (Ab.drop (Ab.drop hS)))) (by omega)) ?_
      rintro e w1 ⟨sv2, rfl, ho, hB⟩
      obtain ⟨p2, c2, rfl⟩ := ho.slice
      refine ⟨_, rfl, ?_⟩
      refine Ac ?_
      obtain ⟨Lr', hR', hS2⟩ := ho.join hS hB
      simp only [List.cons_append, List.nil_append] at hS2
      replace hS := hS2
      clear hS2 ho hB
      rw [runR_cons, hy] at hR
      by_cases he : er = 0
      · subst he
        rw [if_pos rfl] at hR
        rw [show errV 0 = .nilIface from rfl]
        repeat' (first | ((with_reducible refine Ad ?_); first | ((first | refine Bn Aa ?_ | refine Bm Aa ?_ | refine Az Aa ?_ | refine Bf Aa Ab hS ?_ | refine Bi Aa Ab hS ?_ | refine Ag Aa ?_ | refine Af Aa ?_ | refine Bs Aa ?_ | refine Bx Aa ?_ | refine Ao Aa ?_ | refine Bw Aa ?_ | refine Br Aa ?_ | refine Be Aa ?_ | refine Bg Aa ?_ | refine Bv Aa (fun hc => ?_) (fun hc => ?_) | refine Ay Aa ?_ | refine Am Aa ?_ | refine Aw Aa ?_ | refine Ap Aa ?_ | refine Ah Aa ?_ | refine Ax Aa ?_ | refine Ar Aa ?_ | refine Aj Aa ?_ | refine Ae Aa ?_ | refine Ai Aa ?_ | refine Bp Aa ?_ | refine Bo Aa ?_ | refine Bu Aa ?_ | refine Bc Aa ?_ | refine As Aa ?_ | refine Ak Aa ?_ | refine Aq Aa ?_ | refine Bj Aa ?_ | refine Bk Aa ?_) <;> refine Ac ?_) | ((first | refine Bh Aa Ab hS ?_ | refine Bt Aa Ab hS ?_ | refine Ba Aa Ab hS ?_ | refine Bd Aa Ab hS ?_); clear hS; intro b w hS; refine Ac ?_) | ((first | refine Av Aa Ab hS ?_ | refine Au Aa Ab hS ?_ | refine Bb Aa Ab hS ?_); clear hS; intro w hS; refine Ac ?_)) | ((fail_if_success (with_reducible refine Ad ?_)); first | go_step | go_step3 | rw [Exit.noGoto_normal] | rw [Exit.noGoto_ret] | rw [Exit.noGoto_exit]))
        have hS2 := (Ab.drop (Ab.drop hS)).perm (.cons _ (.cons _ (List.perm_append_comm (l₁ := Lr))))
        go_roundw
        case rel => exact ⟨k + 1, _, _, _, _, _, _, Lr', by omega, by push_cast; rfl, hR, do_len hy, hR', St.left (A := _ :: _ :: Lr') hS2⟩
        case measure => simp [intOf]; omega
      · rw [if_neg he] at hR
        rw [show errV er = .iface 45 (.int .i64 er) from if_neg he]
        repeat' (first | ((with_reducible refine Ad ?_); first | ((first | refine Bn Aa ?_ | refine Bm Aa ?_ | refine Az Aa ?_ | refine Bf Aa Ab hS ?_ | refine Bi Aa Ab hS ?_ | refine Ag Aa ?_ | refine Af Aa ?_ | refine Bs Aa ?_ | refine Bx Aa ?_ | refine Ao Aa ?_ | refine Bw Aa ?_ | refine Br Aa ?_ | refine Be Aa ?_ | refine Bg Aa ?_ | refine Bv Aa (fun hc => ?_) (fun hc => ?_) | refine Ay Aa ?_ | refine Am Aa ?_ | refine Aw Aa ?_ | refine Ap Aa ?_ | refine Ah Aa ?_ | refine Ax Aa ?_ | refine Ar Aa ?_ | refine Aj Aa ?_ | refine Ae Aa ?_ | refine Ai Aa ?_ | refine Bp Aa ?_ | refine Bo Aa ?_ | refine Bu Aa ?_ | refine Bc Aa ?_ | refine As Aa ?_ | refine Ak Aa ?_ | refine Aq Aa ?_ | refine Bj Aa ?_ | refine Bk Aa ?_) <;> refine Ac ?_) | ((first | refine Bh Aa Ab hS ?_ | refine Bt Aa Ab hS ?_ | refine Ba Aa Ab hS ?_ | refine Bd Aa Ab hS ?_); clear hS; intro b w hS; refine Ac ?_) | ((first | refine Av Aa Ab hS ?_ | refine Au Aa Ab hS ?_ | refine Bb Aa Ab hS ?_); clear hS; intro w hS; refine Ac ?_)) | ((fail_if_success (with_reducible refine Ad ?_)); first | go_step | go_step3 | rw [Exit.noGoto_normal] | rw [Exit.noGoto_ret] | rw [Exit.noGoto_exit]))
        have hS2 := Ab.drop (Ab.drop hS)
        go_roundw
        case rel => exact ⟨k + 1, _, _, _, _, _, _, Lr, by omega, by push_cast; rfl, hR, h4, hRg, St.left (A := _ :: _ :: Lr) hS2⟩
        case measure => simp [intOf]; omega
    · obtain rfl : k = l.length := by omega
      rw [List.drop_length] at hR
      rw [hx, runR_nil] at hR
      subst hR
      by_cases h200 : l.length ≤ 200
      · repeat' (first | ((with_reducible refine Ad ?_); first | ((first | refine Bn Aa ?_ | refine Bm Aa ?_ | refine Az Aa ?_ | refine Bf Aa Ab hS ?_ | refine Bi Aa Ab hS ?_ | refine Ag Aa ?_ | refine Af Aa ?_ | refine Bs Aa ?_ | refine Bx Aa ?_ | refine Ao Aa ?_ | refine Bw Aa ?_ | refine Br Aa ?_ | refine Be Aa ?_ | refine Bg Aa ?_ | refine Bv Aa (fun hc => ?_) (fun hc => ?_) | refine Ay Aa ?_ | refine Am Aa ?_ | refine Aw Aa ?_ | refine Ap Aa ?_ | refine Ah Aa ?_ | refine Ax Aa ?_ | refine Ar Aa ?_ | refine Aj Aa ?_ | refine Ae Aa ?_ | refine Ai Aa ?_ | refine Bp Aa ?_ | refine Bo Aa ?_ | refine Bu Aa ?_ | refine Bc Aa ?_ | refine As Aa ?_ | refine Ak Aa ?_ | refine Aq Aa ?_ | refine Bj Aa ?_ | refine Bk Aa ?_) <;> refine Ac ?_) | ((first | refine Bh Aa Ab hS ?_ | refine Bt Aa Ab hS ?_ | refine Ba Aa Ab hS ?_ | refine Bd Aa Ab hS ?_); clear hS; intro b w hS; refine Ac ?_) | ((first | refine Av Aa Ab hS ?_ | refine Au Aa Ab hS ?_ | refine Bb Aa Ab hS ?_); clear hS; intro w hS; refine Ac ?_)) | ((fail_if_success (with_reducible refine Ad ?_)); first | go_step | go_step3 | rw [Exit.noGoto_normal] | rw [Exit.noGoto_ret] | rw [Exit.noGoto_exit]))
        exact De (n := 5) Try.results22 (by kernel_rfl) (.inl rfl) _ _ _ _ rfl rfl (hS.blk 1 rfl) (by rfl) ⟨_, by rw [decide_eq_true h200]; rfl, hRg.own (L := [_, _]) (hS.perm (List.perm_append_comm (l₁ := [_, _]))), hS.below⟩
      · repeat' (first | ((with_reducible refine Ad ?_); first | ((first | refine Bn Aa ?_ | refine Bm Aa ?_ | refine Az Aa ?_ | refine Bf Aa Ab hS ?_ | refine Bi Aa Ab hS ?_ | refine Ag Aa ?_ | refine Af Aa ?_ | refine Bs Aa ?_ | refine Bx Aa ?_ | refine Ao Aa ?_ | refine Bw Aa ?_ | refine Br Aa ?_ | refine Be Aa ?_ | refine Bg Aa ?_ | refine Bv Aa (fun hc => ?_) (fun hc => ?_) | refine Ay Aa ?_ | refine Am Aa ?_ | refine Aw Aa ?_ | refine Ap Aa ?_ | refine Ah Aa ?_ | refine Ax Aa ?_ | refine Ar Aa ?_ | refine Aj Aa ?_ | refine Ae Aa ?_ | refine Ai Aa ?_ | refine Bp Aa ?_ | refine Bo Aa ?_ | refine Bu Aa ?_ | refine Bc Aa ?_ | refine As Aa ?_ | refine Ak Aa ?_ | refine Aq Aa ?_ | refine Bj Aa ?_ | refine Bk Aa ?_) <;> refine Ac ?_) | ((first | refine Bh Aa Ab hS ?_ | refine Bt Aa Ab hS ?_ | refine Ba Aa Ab hS ?_ | refine Bd Aa Ab hS ?_); clear hS; intro b w hS; refine Ac ?_) | ((first | refine Av Aa Ab hS ?_ | refine Au Aa Ab hS ?_ | refine Bb Aa Ab hS ?_); clear hS; intro w hS; refine Ac ?_)) | ((fail_if_success (with_reducible refine Ad ?_)); first | go_step | go_step3 | rw [Exit.noGoto_normal] | rw [Exit.noGoto_ret] | rw [Exit.noGoto_exit]))
        exact De (n := 5) Try.results22 (by kernel_rfl) (.inl rfl) _ _ _ _ rfl rfl (hS.blk 1 rfl) (by rfl) ⟨_, by rw [decide_eq_false h200]; rfl, hRg.own (L := [_, _]) (hS.perm (List.perm_append_comm (l₁ := [_, _]))), hS.below⟩
end Go.Proofs.Ytkfggilildiflac

namespace Go.Proofs.Ytkfggilildiflac
open Go.ChangeShapes Go.WideShapes Go.ChangeAt Go.RowKit
attribute [local irreducible] wpList wpListIn Oper.quietAt wpM
theorem RgL.inn {l : List Rg} {sv : Value} {Lr L : List Blk} {W0 w : World} (h : RgL l sv Lr) (hS : St W0 w L) (hm : ∀ x ∈ Lr, x ∈ L) : RegsAt w sv l := by
  rcases h with ⟨rfl, rfl, rfl⟩ | ⟨g, c, sp, rfl, h1, h2, h3, rfl⟩
  · exact regsAt_nil w
  · exact regsAt_blk (hS.2.1 _ (hm _ (List.mem_cons_self ..))).2 rfl h1
theorem OwnRegs.joinF {w0 w w' : World} {L : List Blk} {sv : Value} {l : List Rg} (h : OwnRegs w.heap.size w' sv l) (hS : St w0 w L) (hB : Below w.heap.size w w') : ∃ Lr, RgL l sv Lr ∧ St w0 w' (L ++ Lr) := h.join hS hB
theorem opsAt_blk {w : World} {b c : Nat} {l : List Ro} {t : TypeId} {fr : Nat × Nat} {n : Nat} {cs : List Value} (hb : blk w b = some (.cells cs.toArray t fr)) (he : cs = ros l) (hn : n = l.length) (hc : n ≤ c) : OpsAt w (.slice (some ⟨b, 0, none⟩) n c) l := by
  subst hn he
  refine ⟨_, c, rfl, hc, (fun h => by cases h), fun _ => ⟨b, 0, _, t, fr, rfl, hb, fun i x hi => ?_⟩⟩
  rw [Nat.zero_add]; exact hi
theorem allowed_c {B : Bool} {l : List Rg} {h t g who ac : Int} {s : Bool} (hB : decide (allowedP ⟨l, h, t, s, g⟩ who ac) = B) (hl : okL l) (ht : h ≠ -1 → t ≤ 6) (v : Value) (w0 : World) (hv : RegsAt w0 v l) (hm : l.length ≤ 1000) :
    Calls Try.prog 20 #[.agg #[v, .int .i64 h, .int .i64 t, .bool s, .int .i64 g], .int .i64 who, .int .i64 ac] w0 fun e w' => e = .returned (.bool B) ∧ Below w0.heap.size w0 w' := by
  subst hB; exact allowed_any l hl v h t g who ac s ht w0 hv hm
def exOps : List Ro := [⟨1, 1, 0, 5, 0, false⟩, ⟨2, 1, 5, 0, 1, false⟩, ⟨1, 2, 0, 6, 0, false⟩]
def exR : List Rg := [(1, 5), (2, 6)]
def exS : List Rg := [(2, 6)]
theorem ex_run : runR nobody exOps = ⟨exR, 1, 1, false, 2⟩ := by kernel_rfl
theorem ex_do : doR ⟨exR, 1, 1, false, 2⟩ ⟨5, 2, 6, 5, 2, false⟩ = (⟨exS, 2, 2, false, 3⟩, 0) := by kernel_rfl
theorem ex_okR : okL exR := by decide
theorem ex_okS : okL exS := by decide
theorem ex_a1 : decide (allowedP ⟨exR, 1, 1, false, 2⟩ 1 2) = true := by kernel_rfl
theorem ex_a2 : decide (allowedP ⟨exR, 1, 1, false, 2⟩ 2 2) = false := by kernel_rfl
theorem ex_a3 : decide (allowedP ⟨exR, 1, 1, false, 2⟩ 2 1) = true := by kernel_rfl
theorem ex_a4 : decide (allowedP ⟨exS, 2, 2, false, 3⟩ 1 1) = false := by kernel_rfl
set_option maxRecDepth 100000 in
set_option maxHeartbeats 8000000 in
theorem alive_any (w0 : World) : Calls Try.prog 9 #[] w0 fun e w' => e = .returned (.bool true) ∧ Below w0.heap.size w0 w' := by
  have hS := St.start w0
  go_enter Try.func9, Try.ntmps9
  repeat' (first | ((with_reducible refine Ad ?_); first | ((first | refine Bn Aa ?_ | refine Bm Aa ?_ | refine Az Aa ?_ | refine Bf Aa Ab hS ?_ | refine Bi Aa Ab hS ?_ | refine Ag Aa ?_ | refine Af Aa ?_ | refine Bs Aa ?_ | refine Bx Aa ?_ | refine Ao Aa ?_ | refine Bw Aa ?_ | refine Br Aa ?_ | refine Be Aa ?_ | refine Bg Aa ?_ | refine Bv Aa (fun hc => ?_) (fun hc => ?_) | refine Ay Aa ?_ | refine Am Aa ?_ | refine Aw Aa ?_ | refine Ap Aa ?_ | refine Ah Aa ?_ | refine Ax Aa ?_ | refine Ar Aa ?_ | refine Aj Aa ?_ | refine Ae Aa ?_ | refine Ai Aa ?_ | refine Bp Aa ?_ | refine Bo Aa ?_ | refine Bu Aa ?_ | refine Bc Aa ?_ | refine As Aa ?_ | refine Ak Aa ?_ | refine Aq Aa ?_ | refine Bj Aa ?_ | refine Bk Aa ?_) <;> refine Ac ?_) | ((first | refine Bh Aa Ab hS ?_ | refine Bt Aa Ab hS ?_ | refine Ba Aa Ab hS ?_ | refine Bd Aa Ab hS ?_); clear hS; intro b w hS; refine Ac ?_) | ((first | refine Av Aa Ab hS ?_ | refine Au Aa Ab hS ?_ | refine Bb Aa Ab hS ?_); clear hS; intro w hS; refine Ac ?_)) | ((fail_if_success (with_reducible refine Ad ?_)); first | go_step | go_step3 | rw [Exit.noGoto_normal] | rw [Exit.noGoto_ret] | rw [Exit.noGoto_exit]))
  refine s_call Aa (by rfl) (by rfl) (by rfl) (by rfl) (by rfl) (by infer_instance) (run_any exOps _ _ (opsAt_blk (hS.blk 0 rfl) (by rfl) (by rfl) (by decide)) (by decide) _ ex_run) ?_
  rintro e w1 ⟨sv, rfl, ho, hB⟩
  obtain ⟨p1, c1, rfl⟩ := ho.slice
  refine ⟨_, rfl, ?_⟩
  refine Ac ?_
  obtain ⟨Lr, hR, hS2⟩ := ho.join hS hB
  simp only [List.cons_append, List.nil_append] at hS2
  replace hS := hS2
  clear hS2 ho hB
  obtain ⟨F1, hF1⟩ : ∃ F1, decide (exOps.length ≤ 200) = F1 := ⟨_, rfl⟩
  rw [hF1]
  obtain rfl : F1 = true := hF1.symm.trans (by decide)
  repeat' (first | ((with_reducible refine Ad ?_); first | ((first | refine Bn Aa ?_ | refine Bm Aa ?_ | refine Az Aa ?_ | refine Bf Aa Ab hS ?_ | refine Bi Aa Ab hS ?_ | refine Ag Aa ?_ | refine Af Aa ?_ | refine Bs Aa ?_ | refine Bx Aa ?_ | refine Ao Aa ?_ | refine Bw Aa ?_ | refine Br Aa ?_ | refine Be Aa ?_ | refine Bg Aa ?_ | refine Bv Aa (fun hc => ?_) (fun hc => ?_) | refine Ay Aa ?_ | refine Am Aa ?_ | refine Aw Aa ?_ | refine Ap Aa ?_ | refine Ah Aa ?_ | refine Ax Aa ?_ | refine Ar Aa ?_ | refine Aj Aa ?_ | refine Ae Aa ?_ | refine Ai Aa ?_ | refine Bp Aa ?_ | refine Bo Aa ?_ | refine Bu Aa ?_ | refine Bc Aa ?_ | refine As Aa ?_ | refine Ak Aa ?_ | refine Aq Aa ?_ | refine Bj Aa ?_ | refine Bk Aa ?_) <;> refine Ac ?_) | ((first | refine Bh Aa Ab hS ?_ | refine Bt Aa Ab hS ?_ | refine Ba Aa Ab hS ?_ | refine Bd Aa Ab hS ?_); clear hS; intro b w hS; refine Ac ?_) | ((first | refine Av Aa Ab hS ?_ | refine Au Aa Ab hS ?_ | refine Bb Aa Ab hS ?_); clear hS; intro w hS; refine Ac ?_) | (refine Cb Aa Ab hS (allowed_c ex_a1 ex_okR (by decide) _ _ (hR.inn hS (by intro x hx; simp [hx])) (by decide)) ?_; clear hS; intro w hS; refine Ac ?_) | (refine Cb Aa Ab hS (allowed_c ex_a2 ex_okR (by decide) _ _ (hR.inn hS (by intro x hx; simp [hx])) (by decide)) ?_; clear hS; intro w hS; refine Ac ?_) | (refine Cb Aa Ab hS (allowed_c ex_a3 ex_okR (by decide) _ _ (hR.inn hS (by intro x hx; simp [hx])) (by decide)) ?_; clear hS; intro w hS; refine Ac ?_)) | ((fail_if_success (with_reducible refine Ad ?_)); first | go_step | go_step3 | rw [Exit.noGoto_normal] | rw [Exit.noGoto_ret] | rw [Exit.noGoto_exit]))
  refine s_call Aa (by rfl) (by rfl) (by rfl) (by rfl) (by rfl) (by infer_instance) (do_c ex_do _ _ (hR.inn hS (by intro x hx; simp [hx])) (by decide)) ?_
  rintro e w2 ⟨sv2, rfl, ho, hB⟩
  obtain ⟨p2, c2, rfl⟩ := ho.slice
  refine ⟨_, rfl, ?_⟩
  refine Ac ?_
  obtain ⟨Lr2, hR2, hS2⟩ := ho.join hS hB
  simp only [List.cons_append, List.nil_append] at hS2
  replace hS := hS2
  clear hS2 ho hB
  rw [show errV 0 = .nilIface from rfl]
  repeat' (first | ((with_reducible refine Ad ?_); first | ((first | refine Bn Aa ?_ | refine Bm Aa ?_ | refine Az Aa ?_ | refine Bf Aa Ab hS ?_ | refine Bi Aa Ab hS ?_ | refine Ag Aa ?_ | refine Af Aa ?_ | refine Bs Aa ?_ | refine Bx Aa ?_ | refine Ao Aa ?_ | refine Bw Aa ?_ | refine Br Aa ?_ | refine Be Aa ?_ | refine Bg Aa ?_ | refine Bv Aa (fun hc => ?_) (fun hc => ?_) | refine Ay Aa ?_ | refine Am Aa ?_ | refine Aw Aa ?_ | refine Ap Aa ?_ | refine Ah Aa ?_ | refine Ax Aa ?_ | refine Ar Aa ?_ | refine Aj Aa ?_ | refine Ae Aa ?_ | refine Ai Aa ?_ | refine Bp Aa ?_ | refine Bo Aa ?_ | refine Bu Aa ?_ | refine Bc Aa ?_ | refine As Aa ?_ | refine Ak Aa ?_ | refine Aq Aa ?_ | refine Bj Aa ?_ | refine Bk Aa ?_) <;> refine Ac ?_) | ((first | refine Bh Aa Ab hS ?_ | refine Bt Aa Ab hS ?_ | refine Ba Aa Ab hS ?_ | refine Bd Aa Ab hS ?_); clear hS; intro b w hS; refine Ac ?_) | ((first | refine Av Aa Ab hS ?_ | refine Au Aa Ab hS ?_ | refine Bb Aa Ab hS ?_); clear hS; intro w hS; refine Ac ?_) | (refine Cb Aa Ab hS (allowed_c ex_a4 ex_okS (by decide) _ _ (hR2.inn hS (by intro x hx; simp [hx])) (by decide)) ?_; clear hS; intro w hS; refine Ac ?_)) | ((fail_if_success (with_reducible refine Ad ?_)); first | go_step | go_step3 | rw [Exit.noGoto_normal] | rw [Exit.noGoto_ret] | rw [Exit.noGoto_exit]))
  go_ret
  exact ⟨rfl, hS.below⟩
end Go.Proofs.Ytkfggilildiflac

namespace Go.Proofs.Ytkfggilildiflac
open Go.ChangeShapes Go.WideShapes Go.ChangeAt Go.RowKit
theorem flat_at {α : Type} {f : α → List Value} {n : Nat} (hn : 0 < n) (hf : ∀ a, (f a).length = n) : ∀ {l : List α} {i : Nat} {x : Value}, (l.flatMap f)[i]? = some x → ∃ a, l[i / n]? = some a ∧ (f a)[i % n]? = some x
  | [], i, x, h => by simp at h
  | a :: l, i, x, h => by
    rw [List.flatMap_cons] at h
    by_cases hi : i < n
    · rw [List.getElem?_append_left (by rw [hf]; exact hi)] at h
      exact ⟨a, by rw [Nat.div_eq_of_lt hi]; rfl, by rw [Nat.mod_eq_of_lt hi]; exact h⟩
    · rw [List.getElem?_append_right (by rw [hf]; omega), hf] at h
      obtain ⟨b, h1, h2⟩ := flat_at hn hf h
      have e1 : i / n = (i - n) / n + 1 := by
        rw [← Nat.add_div_right _ hn, Nat.sub_add_cancel (by omega)]
      have e2 : i % n = (i - n) % n := by
        conv => lhs; rw [← Nat.sub_add_cancel (show n ≤ i by omega)]
        rw [Nat.add_mod_right]
      exact ⟨b, by rw [e1]; simpa using h1, by rw [e2]; exact h2⟩
/-- A slice of structs that came in, its elements all opened alike. -/
theorem open_gen {P : Program} {H : Type} {enc : TypeId × Value → H} {w : World} {base : Nat} {sp : Nat → Bool} {held : Bool} {t e n : Nat} {v : Value} {d : DataW H} {p : List MemPlace} {α : Type} (z : α) (f : α → List Value)
    (ht : P.underlying t = some (.slice e)) (hc : P.cellsOf e = n) (hn : 0 < n) (hf : ∀ a, (f a).length = n) (hopen : ∀ fuel cs x, DataW.trod enc P w base sp held fuel e cs = some x → cs.length = n → ∃ a, cs = f a)
    (hv : ∃ a len cap, v = .slice a len cap) (hr : DataW.Trod enc P w base sp held t v d p) :
    ∃ l : List α, (∃ p c, v = .slice p l.length c ∧ l.length ≤ c ∧ (p = none → c = 0) ∧ (l ≠ [] → ∃ b o cs t fr, p = some ⟨b, o, none⟩ ∧ blk w b = some (.cells cs t fr) ∧ ∀ i x, (l.flatMap f)[i]? = some x → cs.toList[o + i]? = some x)) ∧ l.length ≤ maxLen := by
  obtain ⟨a0, len0, cap0, rfl⟩ := hv
  obtain ⟨fuel, hfu⟩ := hr
  rcases Go.Deep.open_slice ht hfu with ⟨hcs, _⟩ | ⟨a, len, cap, m, n2, D, Pl, hcs, _, hlc, hcm, hm, _, hx⟩
  · simp only [Value.cells, List.cons.injEq, Value.slice.injEq, and_true] at hcs
    obtain ⟨rfl, rfl, rfl⟩ := hcs
    exact ⟨[], ⟨none, 0, rfl, Nat.le_refl _, fun _ => rfl, fun h => absurd rfl h⟩, by simp⟩
  · simp only [Value.cells, List.cons.injEq, Value.slice.injEq, and_true] at hcs
    obtain ⟨rfl, rfl, rfl⟩ := hcs
    have hlm : len0 ≤ m := by rw [hm]; split <;> omega
    have key : ∀ i, i < len0 → ∃ x : α, ∀ j, j < n → w.cell? ((a.add (i * n)).add j) = (f x)[j]? := by
      intro i hi
      obtain ⟨cs', h1, h2⟩ := hx i (by omega)
      rw [hc] at h1
      have h3 := World.cells?_some h1
      obtain ⟨x, rfl⟩ := hopen _ _ _ h2 h3.2.1
      exact ⟨x, h3.2.2⟩
    refine ⟨(List.range len0).map fun i => if hi : i < len0 then (key i hi).choose else z, ⟨some a, cap0, by simp, by simp; omega, (fun h => by cases h), fun hne => ?_⟩, by simp; omega⟩
    have h0 : 0 < len0 := by
      rcases Nat.eq_zero_or_pos len0 with rfl | h
      · exact absurd rfl hne
      · exact h
    obtain ⟨x0, hk0⟩ := key 0 h0
    have hk1 := hk0 0 hn
    rw [Nat.zero_mul, show a.add 0 = a by simp [Addr.add], show a.add 0 = a by simp [Addr.add], List.getElem?_eq_getElem (by rw [hf]; exact hn)] at hk1
    obtain ⟨b, o, cs, t2, e2, rfl, hb, _⟩ := blk_of_cell hk1
    refine ⟨b, o, cs, t2, e2, rfl, hb, fun i x hi => ?_⟩
    obtain ⟨q, h1, h2⟩ := flat_at hn hf hi
    have hil : i / n < len0 := by have := (List.getElem?_eq_some_iff.1 h1).1; simpa using this
    have hq : q = (key (i / n) hil).choose := by
      simp [hil] at h1
      exact h1.symm
    have h3 := (key (i / n) hil).choose_spec (i % n) (Nat.mod_lt _ hn)
    rw [← hq, h2, add_addr, add_addr, cell_of_row w b _ cs t2 e2 hb] at h3
    rw [Array.getElem?_toList, ← h3]
    congr 1
    have := Nat.div_add_mod i n
    rw [Nat.mul_comm] at this
    omega
end Go.Proofs.Ytkfggilildiflac

namespace Go.Proofs.Ytkfggilildiflac
open Go.ChangeShapes Go.WideShapes Go.ChangeAt Go.RowKit
open Go.ChangeShapes Go.WideShapes Go.ChangeAt Go.RowKit
theorem trod_bytes8 {P : Program} {H : Type} {enc : TypeId × Value → H} {w : World} {base fuel : Nat} {sp : Nat → Bool} {held : Bool} {t e : Nat} {cs : List Value} {x : DataW H × List MemPlace}
    (ht : P.underlying t = some (.slice e)) (he : P.underlying e = some (.int .u8)) (hc : P.cellsOf e = 1) (hf : DataW.trod enc P w base sp held fuel t cs = some x) : ∃ v l, cs = [v] ∧ BytesAt w v l ∧ l.length ≤ maxLen := by
  have hv : ∃ a n c, cs = [.slice a n c] := by
    rcases Go.Deep.open_slice1 ht hc hf with ⟨hcs, _⟩ | ⟨a, len, cap, m, n2, V, D, Pl, hcs, _⟩
    · exact ⟨_, _, _, hcs⟩
    · exact ⟨_, _, _, hcs⟩
  obtain ⟨a, n, c, rfl⟩ := hv
  obtain ⟨l, h1, h2⟩ := open_bytes (v := .slice a n c) (d := x.1) (p := x.2) ht he hc ⟨_, _, _, rfl⟩ ⟨fuel, hf⟩
  exact ⟨_, l, rfl, h1, h2⟩
theorem trod_int1 {P : Program} {H : Type} {enc : TypeId × Value → H} {w : World} {base fuel : Nat} {sp : Nat → Bool} {held : Bool} {t : Nat} {k : IntKind} {cs : List Value} {x : DataW H × List MemPlace}
    (ht : P.underlying t = some (.int k)) (hf : DataW.trod enc P w base sp held fuel t cs = some x) : ∃ n, cs = [.int k n] ∧ (Lit.int k n).wf = true := by
  obtain ⟨n, h1, _, h3⟩ := DataW.trod_int ht hf
  exact ⟨n, h1, h3⟩
theorem four_parts {L : List Value} {a b c d : Value} (h : L.length = 4) (h0 : (L.drop 0).take 1 = [a]) (h1 : (L.drop 1).take 1 = [b]) (h2 : (L.drop 2).take 1 = [c]) (h3 : (L.drop 3).take 1 = [d]) : L = [a, b, c, d] := by
  match L, h with
  | [a', b', c', d'], _ => simp at h0 h1 h2 h3; simp [h0, h1, h2, h3]
end Go.Proofs.Ytkfggilildiflac

namespace Go.Proofs.Ytkfggilildiflac
open Go.ChangeShapes Go.WideShapes Go.ChangeAt Go.RowKit
theorem six_parts {L : List Value} {a b c d e f : Value} (h : L.length = 6) (h0 : (L.drop 0).take 1 = [a]) (h1 : (L.drop 1).take 1 = [b]) (h2 : (L.drop 2).take 1 = [c]) (h3 : (L.drop 3).take 1 = [d]) (h4 : (L.drop 4).take 1 = [e]) (h5 : (L.drop 5).take 1 = [f]) : L = [a, b, c, d, e, f] := by
  match L, h with
  | [a', b', c', d', e', f'], _ => simp at h0 h1 h2 h3 h4 h5; simp [h0, h1, h2, h3, h4, h5]
theorem trod_bool1 {P : Program} {H : Type} {enc : TypeId × Value → H} {w : World} {base fuel : Nat} {sp : Nat → Bool} {held : Bool} {t : Nat} {cs : List Value} {x : DataW H × List MemPlace}
    (ht : P.underlying t = some .bool) (hf : DataW.trod enc P w base sp held fuel t cs = some x) : ∃ b, cs = [.bool b] := by
  obtain ⟨b, h1, _⟩ := DataW.trod_bool ht hf
  exact ⟨b, h1⟩
def cellsO (o : Ro) : List Value := [.int .i64 o.op, .int .i64 o.who, .int .i64 o.key, .int .i64 o.new, .int .i64 o.typ, .bool o.stays]
set_option maxRecDepth 100000
theorem cells_op : Try.prog.cellsOf 26 = 6 := by kernel_rfl
theorem open_op {H : Type} {enc : TypeId × Value → H} {w : World} {base fuel : Nat} {sp : Nat → Bool} {held : Bool} {cs : List Value} {x : DataW H × List MemPlace}
    (hf : DataW.trod enc Try.prog w base sp held fuel 26 cs = some x) (hsz : cs.length = 6) : ∃ a : Ro, cs = cellsO a := by
  obtain ⟨xs, n, rfl, hx, hl, hxl, hi⟩ := DataW.trod_struct Try.underlying26 hf
  have hxl5 : xs.length = 6 := hxl
  have g (i : Nat) (h : i < 6) : xs[i]? = some xs[i] := List.getElem?_eq_getElem (by omega)
  have h0 := (hi 0 _ rfl).trans (g 0 (by omega))
  have h1 := (hi 1 _ rfl).trans (g 1 (by omega))
  have h2 := (hi 2 _ rfl).trans (g 2 (by omega))
  have h3 := (hi 3 _ rfl).trans (g 3 (by omega))
  have h4 := (hi 4 _ rfl).trans (g 4 (by omega))
  have h5 := (hi 5 _ rfl).trans (g 5 (by omega))
  obtain ⟨x0, e0, _⟩ := trod_int1 Try.underlying3 h0
  obtain ⟨x1, e1, _⟩ := trod_int1 Try.underlying3 h1
  obtain ⟨x2, e2, _⟩ := trod_int1 Try.underlying3 h2
  obtain ⟨x3, e3, _⟩ := trod_int1 Try.underlying3 h3
  obtain ⟨x4, e4, _⟩ := trod_int1 Try.underlying3 h4
  obtain ⟨x5, e5⟩ := trod_bool1 Try.underlying4 h5
  exact ⟨⟨x0, x1, x2, x3, x4, x5⟩, six_parts hsz e0 e1 e2 e3 e4 e5⟩
theorem open_ops {H : Type} {enc : TypeId × Value → H} {w : World} {base : Nat} {sp : Nat → Bool} {held : Bool} {v : Value} {d : DataW H} {p : List MemPlace}
    (hv : ∃ a len cap, v = .slice a len cap) (hr : DataW.Trod enc Try.prog w base sp held 41 v d p) : ∃ l : List Ro, OpsAt w v l ∧ l.length ≤ maxLen :=
  open_gen roZ cellsO Try.underlying41 cells_op (by omega) (fun _ => rfl) (fun _ _ _ hf hl => open_op hf hl) hv hr
end Go.Proofs.Ytkfggilildiflac
