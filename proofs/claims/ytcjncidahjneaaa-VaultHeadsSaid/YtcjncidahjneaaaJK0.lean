/-
  Laws that the claims of this seat use, of several texts in one: HdL, TrodB, HdO. No condition of their own.
-/
import Derived.Laws.StructEq
import Derived.Test.YtcjncidahjneaaaJJ0

namespace Go.Proofs.Ytcjncidahjneaaa
open Go.ChangeShapes Go.WideShapes Go.ChangeAt Go.RowKit
attribute [local irreducible] wpList wpListIn Oper.quietAt wpM
theorem hd_partI {P : Program} {t : TypeId} {k : IntKind} (hu : P.underlying t = some (.int k)) (n : Int) (B : List UInt8) (w : World) : (part t (hdV n B) 0).run P w = .ok (.int .i64 n) w := by
  have hagg : (isAgg t).run P w = .ok false w := by unfold isAgg; simp [run_underlying hu]
  simp [part, Sem.run_bind, hagg, hdV]
theorem hd_partB {P : Program} {t m e q : Nat} (hu : P.underlying t = some (.array q e)) (hs : (P.info? t).map (·.size) = some m) (n : Int) (B : List UInt8) (o : Nat) (w : World) : (part t (hdV n B) (1 + o)).run P w = .ok (.agg (bvs ((B.drop o).take m))) w := by
  have hagg : (isAgg t).run P w = .ok true w := by unfold isAgg; simp [run_underlying hu]
  have hex : (hdV n B).extract (1 + o) (1 + o + m) = bvs ((B.drop o).take m) := by
    apply Array.ext'
    unfold bvs hdV
    simp only [List.extract_toArray, List.extract_eq_take_drop]
    rw [show 1 + o = o + 1 by omega, List.drop_succ_cons, List.map_take, List.map_drop, show o + 1 + m - (o + 1) = m by omega]
  unfold part
  simp only [Sem.run_bind, hagg, Result.andThen_ok, if_true, run_sizeOf hs, hex]
  rfl
theorem rows_refl {P : Program} {t e m e2 : Nat} {w : World} (hu : P.underlying t = some (.array 2 e)) (hu2 : P.underlying e = some (.array m e2)) (hs : (P.info? e).map (·.size) = some m) (D : Nat) (hin : ∀ x : List UInt8, x.length = m → (Op.equalIn D e (.agg (bvs x)) (.agg (bvs x))).run P w = .ok true w) (l : List UInt8) (hl : l.length = 2 * m) :
    (Op.equalIn (D + 1) t (.agg (bvs l)) (.agg (bvs l))).run P w = .ok true w := by
  have hagg : (isAgg e).run P w = .ok true w := by unfold isAgg; simp [run_underlying hu2]
  have hp : ∀ off, off + m ≤ l.length → ∃ x : List UInt8, x.length = m ∧ (part e (bvs l) off).run P w = .ok (.agg (bvs x)) w := fun off ho => by
    refine ⟨(l.drop off).take m, by rw [List.length_take, List.length_drop]; omega, ?_⟩
    have hex : (bvs l).extract off (off + m) = bvs ((l.drop off).take m) := by
      apply Array.ext'
      unfold bvs
      simp [List.extract_eq_take_drop, List.map_drop, List.map_take]
    unfold part
    simp only [Sem.run_bind, hagg, Result.andThen_ok, if_true, run_sizeOf hs, hex]
    rfl
  obtain ⟨x0, l0, p0⟩ := hp (0 * m) (by omega)
  obtain ⟨x1, l1, p1⟩ := hp (1 * m) (by omega)
  simp only [Op.equalIn, Sem.run_bind, run_underlying hu, Result.andThen_ok, run_sizeOf hs, Std.Legacy.Range.forIn_eq_forIn_range', Std.Legacy.Range.size, Nat.sub_zero, Nat.add_sub_cancel, Nat.div_one]
  simp only [List.range'_succ, List.range'_zero, List.forIn_cons, List.forIn_nil, Sem.run_bind, p0, p1, hin _ l0, hin _ l1, Result.andThen_ok, Nat.zero_add, Bool.not_true, Bool.false_eq_true, if_false, Sem.run_pure]
theorem hd_refl {P : Program} {t e e2 e3 : Nat} {w : World} {f1 f2 f3 : Field} (hf : P.underlying t = some (.struct #[f1, f2, f3])) (hh : P.stoodInHeld t = false) (h1 : f1.name ≠ "_") (h2 : f2.name ≠ "_") (h3 : f3.name ≠ "_") (o1 : f1.offset = 0) (o2 : f2.offset = 1) (o3 : f3.offset = 65)
    (i1 : P.underlying f1.type = some (.int .i64)) (i2 : P.underlying f2.type = some (.array 2 e)) (s2 : (P.info? f2.type).map (·.size) = some 64) (i2' : P.underlying e = some (.array 32 e2)) (s2' : (P.info? e).map (·.size) = some 32) (s2'' : (P.info? e2).map (·.size) = some 1) (he2 : P.underlying e2 = some (.int .u8))
    (i3 : P.underlying f3.type = some (.array 24 e3)) (s3 : (P.info? f3.type).map (·.size) = some 24) (s3' : (P.info? e3).map (·.size) = some 1) (he3 : P.underlying e3 = some (.int .u8)) (D : Nat) (n : Int) (B : List UInt8) (hB : B.length = 88) :
    (Op.equalIn (D + 1 + 1 + 1 + 1) t (.agg (hdV n B)) (.agg (hdV n B))).run P w = .ok true w := by
  have hq : P.fieldsOf t = #[f1, f2, f3] := by unfold Program.fieldsOf; rw [hf]
  rw [run_equalIn_agg w (D + 1 + 1 + 1) t _ _ (by rw [hq]; exact hf) hh, hq]
  have p1 := hd_partI i1 n B w
  have p2 := hd_partB i2 s2 n B 0 w
  have p3 := hd_partB i3 s3 n B 64 w
  rw [show 1 + 0 = 1 from rfl] at p2
  rw [show 1 + 64 = 65 from rfl] at p3
  have q1 := run_equalIn_int w (D + 1 + 1) f1.type .i64 .i64 n n i1
  have q2 := rows_refl (w := w) i2 i2' s2' (D + 1 + 1) (fun x hx => by
    have := run_equalIn_rows i2' s2'' he2 (D + 1) (fun a b w => run_equalIn_int w D e2 .u8 .u8 a b he2) x x hx hx w
    rw [this]; simp) ((B.drop 0).take 64) (by rw [List.length_take, List.length_drop]; omega)
  have q3 := run_equalIn_rows i3 s3' he3 (D + 1 + 1) (fun a b w => run_equalIn_int w (D + 1) e3 .u8 .u8 a b he3) ((B.drop 64).take 24) ((B.drop 64).take 24) (by rw [List.length_take, List.length_drop]; omega) (by rw [List.length_take, List.length_drop]; omega) w
  simp only [Op.eqFields, if_pos h1, if_pos h2, if_pos h3, o1, o2, o3, Sem.run_bind, p1, p2, p3, q1, q2, q3, Result.andThen_ok, beq_self_eq_true, Bool.not_true, Bool.false_eq_true, if_false, Sem.run_pure]
set_option maxRecDepth 100000 in
theorem eqHead (n : Int) (B : List UInt8) (hB : B.length = 88) (w : World) : (Op.equalIn 10000 28 (.agg (hdV n B)) (.agg (hdV n B))).run Try.prog w = .ok true w :=
  hd_refl Try.underlying28 (by kernel_rfl) (by decide) (by decide) (by decide) rfl rfl rfl Try.underlying3 Try.underlying25 (by kernel_rfl) Try.underlying24 (by kernel_rfl) (by kernel_rfl) Try.underlying5 Try.underlying26 (by kernel_rfl) (by kernel_rfl) Try.underlying5 9996 n B hB
theorem r_eqH {t' : Nat} {o : Oper} {a : Act} {w : World} {x y : Operand} {n : Int} {B : List UInt8} (hB : B.length = 88) (hop : o.op = .binOp .eql 28 x y t') (hx : evO a x = some (.agg (hdV n B))) (hy : evO a y = some (.agg (hdV n B))) (hg : Try.prog.eqGuardType Try.prog.depth 28 = false) : (execOp a.eval o).run Try.prog w = .ok (.value (.bool true)) w := by
  unfold execOp; rw [hop]
  simp only [Cd hx, Cd hy, Sem.run_bind, run_eqGuard_agg w .eql _ x y _ _ hg, Result.andThen_ok, run_eql_struct, eqHead n B hB w]
  rfl
theorem r_neH {t' : Nat} {o : Oper} {a : Act} {w : World} {x y : Operand} {n : Int} {B : List UInt8} (hB : B.length = 88) (hop : o.op = .binOp .neq 28 x y t') (hx : evO a x = some (.agg (hdV n B))) (hy : evO a y = some (.agg (hdV n B))) (hg : Try.prog.eqGuardType Try.prog.depth 28 = false) : (execOp a.eval o).run Try.prog w = .ok (.value (.bool false)) w := by
  unfold execOp; rw [hop]
  simp only [Cd hx, Cd hy, Sem.run_bind, run_eqGuard_agg w .neq _ x y _ _ hg, Result.andThen_ok, run_neq_struct, eqHead n B hB w]
  rfl
theorem hdRes_form (key C : List UInt8) (hC : C.length = 128) : ∃ (m : Int) (X : List UInt8) (s : Bool), X.length = 88 ∧ hdRes key C = .tuple #[.agg (hdV m X), .bool s] := by
  by_cases h : 0 ≤ cntL C ∧ tagL key (C.take 96) = C.drop 96
  · exact ⟨_, _, true, restL_len hC, hdRes_pos h.1 h.2⟩
  · exact ⟨_, _, false, zs_len 88, hdRes_neg h⟩
/-- A head's own sector is that head's. -/
theorem hdRes_self (key : List UInt8) (N : Nat) (hN : N ≤ 9223372036854775807) (B : List UInt8) (hB : B.length = 88) : hdRes key (headC key N B) = .tuple #[.agg (hdV (N : Int) B), .bool true] := by
  have lT := headT_len N hB
  have e8 : (headC key N B).take 8 = beB N 8 := by
    unfold headC headT
    rw [List.append_assoc, List.take_left' (beB_len _ _)]
  have e96 : (headC key N B).take 96 = headT N B := by unfold headC; rw [List.take_left' lT]
  have e32 : (headC key N B).drop 96 = tagL key (headT N B) := by unfold headC; rw [List.drop_left' lT]
  have er : restL (headC key N B) = B := by
    unfold restL
    have : (headC key N B).drop 8 = B ++ tagL key (headT N B) := by
      unfold headC headT
      rw [List.append_assoc, List.drop_left' (beB_len _ _)]
    rw [this, List.take_left' hB]
  have ec : cntL (headC key N B) = (N : Int) := by
    unfold cntL
    rw [e8]
    have h1 : beN (beB N 8) = N % 256 ^ 8 := beN_beB N 8
    have h3 : (256 : Nat) ^ 8 = 18446744073709551616 := by decide +kernel
    rw [h1, h3]
    unfold wrap64
    omega
  have := hdRes_pos (key := key) (C := headC key N B) (by rw [ec]; omega) (by rw [e96, e32])
  rw [this, ec, er]
end Go.Proofs.Ytcjncidahjneaaa

namespace Go.Proofs.Ytcjncidahjneaaa
open Go.ChangeShapes Go.WideShapes Go.ChangeAt Go.RowKit
open Go.ChangeShapes Go.WideShapes Go.ChangeAt Go.RowKit
theorem trod_bytes8 {P : Program} {H : Type} {enc : TypeId × Value → H} {w : World} {base fuel : Nat} {sp : Nat → Bool} {held : Bool} {t e : Nat} {cs : List Value} {x : DataW H × List MemPlace}
    (ht : P.underlying t = some (.slice e)) (he : P.underlying e = some (.int .u8)) (hc : P.cellsOf e = 1) (hf : DataW.trod enc P w base sp held fuel t cs = some x) : ∃ v l, cs = [v] ∧ BytesAt w v l ∧ l.length ≤ maxLen := by
  have hv : ∃ a n c, cs = [.slice a n c] := by
    rcases Go.Deep.open_slice1 ht hc hf with ⟨hcs, _⟩ | ⟨a, len, cap, m, n2, V, D, Pl, hcs, _⟩
    · exact ⟨_, _, _, hcs⟩
    · exact ⟨_, _, _, hcs⟩
  obtain ⟨a, n, c, rfl⟩ := hv
  obtain ⟨l, h1, h2⟩ := open_bytes (v := .slice a n c) (d := x.1) (p := x.2) ht he hc ⟨_, _, _, rfl⟩ ⟨fuel, hf⟩
  exact ⟨_, l, rfl, h1, h2⟩
theorem trod_int1 {P : Program} {H : Type} {enc : TypeId × Value → H} {w : World} {base fuel : Nat} {sp : Nat → Bool} {held : Bool} {t : Nat} {k : IntKind} {cs : List Value} {x : DataW H × List MemPlace}
    (ht : P.underlying t = some (.int k)) (hf : DataW.trod enc P w base sp held fuel t cs = some x) : ∃ n, cs = [.int k n] ∧ (Lit.int k n).wf = true := by
  obtain ⟨n, h1, _, h3⟩ := DataW.trod_int ht hf
  exact ⟨n, h1, h3⟩
theorem four_parts {L : List Value} {a b c d : Value} (h : L.length = 4) (h0 : (L.drop 0).take 1 = [a]) (h1 : (L.drop 1).take 1 = [b]) (h2 : (L.drop 2).take 1 = [c]) (h3 : (L.drop 3).take 1 = [d]) : L = [a, b, c, d] := by
  match L, h with
  | [a', b', c', d'], _ => simp at h0 h1 h2 h3; simp [h0, h1, h2, h3]
end Go.Proofs.Ytcjncidahjneaaa

namespace Go.Proofs.Ytcjncidahjneaaa
open Go.ChangeShapes Go.WideShapes Go.ChangeAt Go.RowKit
theorem hd_parts {L : List Value} {n : Int} {a b c : List UInt8} (h : L.length = 89) (h0 : (L.drop 0).take 1 = [.int .i64 n]) (h1 : (L.drop 1).take 64 = (a ++ b).map bv) (h2 : (L.drop 65).take 24 = c.map bv) : L = .int .i64 n :: (a ++ b ++ c).map bv := by
  have e2 : (L.drop 65).take 24 = L.drop 65 := List.take_of_length_le (by rw [List.length_drop]; omega)
  have e1 : (L.drop 1).take 64 ++ L.drop 65 = L.drop 1 := by
    have := List.take_append_drop 64 (L.drop 1); rwa [List.drop_drop] at this
  have e0 : (L.drop 0).take 1 ++ L.drop 1 = L := by rw [List.drop_zero, List.take_append_drop]
  rw [← e0, ← e1, h0, h1, ← e2, h2, List.map_append (l₁ := a ++ b)]
  rfl
set_option maxRecDepth 100000
theorem cells_headO : Try.prog.cellsOf 28 = 89 := by kernel_rfl
theorem cells_sumO : Try.prog.cellsOf 24 = 32 := by kernel_rfl
theorem cells_restO : Try.prog.cellsOf 26 = 24 := by kernel_rfl
theorem cells_twoO : Try.prog.cellsOf 25 = 64 := by kernel_rfl
theorem one_sumO (e : TypeId) (h : Try.prog.underlying 24 = some (.array 32 e)) : Try.prog.cellsOf e = 1 := by
  rw [show Try.prog.underlying 24 = _ from Try.underlying24] at h; cases h; kernel_rfl
theorem one_restO (e : TypeId) (h : Try.prog.underlying 26 = some (.array 24 e)) : Try.prog.cellsOf e = 1 := by
  rw [show Try.prog.underlying 26 = _ from Try.underlying26] at h; cases h; kernel_rfl
theorem isB_sumO : isBytes Try.prog 24 32 = true := by kernel_rfl
theorem isB_restO : isBytes Try.prog 26 24 = true := by kernel_rfl
theorem open_head {H : Type} {enc : TypeId × Value → H} {w W : World} {r : Reach} {b0 base : Nat} {sp : Nat → Bool} {held : Bool} {v : Value} {d : DataW H} {p : List MemPlace}
    (hv : Value.okWide Try.prog W r b0 28 v) (ht : DataW.Trod enc Try.prog w base sp held 28 v d p) :
    ∃ (n : Int) (B : List UInt8), B.length = 88 ∧ (-9223372036854775808 ≤ n ∧ n ≤ 9223372036854775807) ∧ v = .agg (hdV n B) := by
  have hu := Try.underlying28
  obtain ⟨cs, rfl, hsz⟩ := okWide_struct hu hv
  rw [cells_headO] at hsz
  obtain ⟨fuel, hf⟩ := ht
  obtain ⟨xs, n, rfl, hx, hl, hxl, hi⟩ := DataW.trod_struct hu hf
  have hxl4 : xs.length = 3 := hxl
  have g (i : Nat) (h : i < 3) : xs[i]? = some xs[i] := List.getElem?_eq_getElem (by omega)
  have h0 := (hi 0 _ rfl).trans (g 0 (by omega))
  have h1 := (hi 1 _ rfl).trans (g 1 (by omega))
  have h2 := (hi 2 _ rfl).trans (g 2 (by omega))
  obtain ⟨m, em, wf⟩ := trod_int1 Try.underlying3 h0
  obtain ⟨ys, k, rfl, hy, hyl, hyn, hyi⟩ := DataW.trod_array Try.underlying25 h1
  have gy (i : Nat) (h : i < 2) : ys[i]? = some ys[i] := List.getElem?_eq_getElem (by omega)
  have y0 := (hyi 0 (by omega)).trans (gy 0 (by omega))
  have y1 := (hyi 1 (by omega)).trans (gy 1 (by omega))
  obtain ⟨a, la, ea⟩ := trod_bytes isB_sumO cells_sumO one_sumO y0
  obtain ⟨b, lb, eb⟩ := trod_bytes isB_sumO cells_sumO one_sumO y1
  obtain ⟨c, lc, ec⟩ := trod_bytes isB_restO cells_restO one_restO h2
  have hr : -9223372036854775808 ≤ m ∧ m ≤ 9223372036854775807 := by
    have q1 : IntKind.i64.min = -9223372036854775808 := rfl
    have q2 : IntKind.i64.max = 9223372036854775807 := rfl
    simp only [Lit.wf, Bool.and_eq_true, decide_eq_true_eq] at wf
    omega
  refine ⟨m, a ++ b ++ c, by simp [la, lb, lc], hr, ?_⟩
  have em' : (cs.toList.drop 0).take 1 = [.int .i64 m] := em
  have ec' : (cs.toList.drop 65).take (Try.prog.cellsOf 26) = c.map bv := ec
  rw [cells_restO] at ec'
  have ea' : ((((cs.toList.drop 1).take (Try.prog.cellsOf 25)).drop (0 * Try.prog.cellsOf 24)).take (Try.prog.cellsOf 24)) = a.map bv := ea
  have eb' : ((((cs.toList.drop 1).take (Try.prog.cellsOf 25)).drop (1 * Try.prog.cellsOf 24)).take (Try.prog.cellsOf 24)) = b.map bv := eb
  rw [cells_twoO, cells_sumO] at ea' eb'
  have hab : (cs.toList.drop 1).take 64 = (a ++ b).map bv := by
    obtain ⟨M, hM⟩ : ∃ M, (cs.toList.drop 1).take 64 = M := ⟨_, rfl⟩
    rw [hM] at ea' eb' ⊢
    have lM : M.length = 64 := by rw [← hM, List.length_take, List.length_drop, Array.length_toList, hsz]; rfl
    rw [Nat.zero_mul, List.drop_zero] at ea'
    rw [Nat.one_mul, List.take_of_length_le (by rw [List.length_drop]; omega)] at eb'
    rw [List.map_append, ← ea', ← eb', List.take_append_drop]
  have := hd_parts (by rw [Array.length_toList]; exact hsz) em' hab ec'
  unfold hdV
  rw [← this, Array.toArray_toList]
end Go.Proofs.Ytcjncidahjneaaa
