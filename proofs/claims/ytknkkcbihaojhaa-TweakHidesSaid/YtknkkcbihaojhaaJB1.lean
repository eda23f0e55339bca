/-
  Laws that the claims of this seat use, of several texts in one: EngA, TyI, CopyG, Append2, DoubleRefP, XorRefP, RefDouble, TweakP, TweakV, TweakW. No condition of their own.
-/
import Derived.Test.YtknkkcbihaojhaaRows
import Derived.Test.YtknkkcbihaojhaaJB0

namespace Go.Proofs.Ytknkkcbihaojhaa
open Go.RowKit
section
variable {P : Program} {ops : Array Oper} {W : List Oper → Act → World → Prop} {o : Oper} {rest : List Oper} {a : Act} {w : World} {v : Value} {B : Nat} {H : World → List Blk → Prop} {L : List Blk} {C : World → Prop}
theorem g_move {x : Operand} (hStp : Stp P ops W) (hk : W rest (a.put o.dst (v)) w) (hop : o.op = .move x := by rfl) (hx : evO a x = some v := by rfl) (hw : Region.wanted o (yielded ops a.tmps) = true := by rfl) (hd : isDefer o = false := by rfl) : W (o :: rest) a w := hStp.go hw hd (r_move hop hx) hk
theorem q_move {x : Operand} (hop : o.op = .move x := by rfl) (hx : evO a x = some v := by rfl) : o.quietAt P a C w (v) := q_val (r_move hop hx)
theorem g_assign {x : Operand} (hStp : Stp P ops W) (hk : W rest (a.put o.dst (v)) w) (hop : o.op = .assign x := by rfl) (hx : evO a x = some v := by rfl) (hw : Region.wanted o (yielded ops a.tmps) = true := by rfl) (hd : isDefer o = false := by rfl) : W (o :: rest) a w := hStp.go hw hd (r_assign hop hx) hk
theorem q_assign {x : Operand} (hop : o.op = .assign x := by rfl) (hx : evO a x = some v := by rfl) : o.quietAt P a C w (v) := q_val (r_assign hop hx)
theorem g_load1 {t : TypeId} {x : Operand} {b off : Nat} {cs : Array Value} {ty : TypeId} {i : Nat} (hStp : Stp P ops W) (hH : Own B H) (hS : H w L) (hk : W rest (a.put o.dst (v)) w) (hop : o.op = .load t x := by rfl) (hx : evO a x = some (.pointer (some ⟨b, off, none⟩)) := by rfl) (h1 : OneT P t := by infer_instance) (hi : L[i]? = some (b, cs, ty) := by first | exact at_ 0 rfl | exact at_ 1 rfl | exact at_ 2 rfl | exact at_ 3 rfl | exact at_ 4 rfl | exact at_ 5 rfl | exact at_ 6 rfl | exact at_ 7 rfl | exact at_ 8 rfl | exact at_ 9 rfl | exact at_ 10 rfl | exact at_ 11 rfl | exact at_ 12 rfl | exact at_ 13 rfl) (hv : cs.toList[off]? = some v := by first | rfl | exact bvs_getL (by (try simp only [List.length_append, List.length_set, zs_len, List.length_take, List.length_drop, List.length_cons, List.length_nil, List.length_map]); omega)) (hw : Region.wanted o (yielded ops a.tmps) = true := by rfl) (hd : isDefer o = false := by rfl) : W (o :: rest) a w := hStp.go hw hd (r_load1 hop hx h1 (hH.blk i hS hi) hv) hk
theorem q_load1 {t : TypeId} {x : Operand} {b off : Nat} {cs : Array Value} {ty : TypeId} {i : Nat} (hH : Own B H) (hS : H w L) (hop : o.op = .load t x := by rfl) (hx : evO a x = some (.pointer (some ⟨b, off, none⟩)) := by rfl) (h1 : OneT P t := by infer_instance) (hi : L[i]? = some (b, cs, ty) := by first | exact at_ 0 rfl | exact at_ 1 rfl | exact at_ 2 rfl | exact at_ 3 rfl | exact at_ 4 rfl | exact at_ 5 rfl | exact at_ 6 rfl | exact at_ 7 rfl | exact at_ 8 rfl | exact at_ 9 rfl | exact at_ 10 rfl | exact at_ 11 rfl | exact at_ 12 rfl | exact at_ 13 rfl) (hv : cs.toList[off]? = some v := by first | rfl | exact bvs_getL (by (try simp only [List.length_append, List.length_set, zs_len, List.length_take, List.length_drop, List.length_cons, List.length_nil, List.length_map]); omega)) : o.quietAt P a C w (v) := q_val (r_load1 hop hx h1 (hH.blk i hS hi) hv)
theorem g_load1F {t : TypeId} {x : Operand} {b off : Nat} {cs : Array Value} {ty : TypeId} {fr : Nat × Nat} (hStp : Stp P ops W) (hb : blk w b = some (.cells cs ty fr)) (hk : W rest (a.put o.dst (v)) w) (hop : o.op = .load t x := by rfl) (hx : evO a x = some (.pointer (some ⟨b, off, none⟩)) := by rfl) (h1 : OneT P t := by infer_instance) (hv : cs.toList[off]? = some v := by first | rfl | exact bvs_getL (by (try simp only [List.length_append, List.length_set, zs_len, List.length_take, List.length_drop, List.length_cons, List.length_nil, List.length_map]); omega)) (hw : Region.wanted o (yielded ops a.tmps) = true := by rfl) (hd : isDefer o = false := by rfl) : W (o :: rest) a w := hStp.go hw hd (r_load1 hop hx h1 hb hv) hk
theorem q_load1F {t : TypeId} {x : Operand} {b off : Nat} {cs : Array Value} {ty : TypeId} {fr : Nat × Nat} (hb : blk w b = some (.cells cs ty fr)) (hop : o.op = .load t x := by rfl) (hx : evO a x = some (.pointer (some ⟨b, off, none⟩)) := by rfl) (h1 : OneT P t := by infer_instance) (hv : cs.toList[off]? = some v := by first | rfl | exact bvs_getL (by (try simp only [List.length_append, List.length_set, zs_len, List.length_take, List.length_drop, List.length_cons, List.length_nil, List.length_map]); omega)) : o.quietAt P a C w (v) := q_val (r_load1 hop hx h1 hb hv)
theorem g_loadR {t : TypeId} {x : Operand} {n b off : Nat} {cs vs : Array Value} {ty : TypeId} {i : Nat} (hStp : Stp P ops W) (hH : Own B H) (hS : H w L) (hk : W rest (a.put o.dst ((.agg vs))) w) (hop : o.op = .load t x := by rfl) (hx : evO a x = some (.pointer (some ⟨b, off, none⟩)) := by rfl) (h1 : RowT P t n := by infer_instance) (hi : L[i]? = some (b, cs, ty) := by first | exact at_ 0 rfl | exact at_ 1 rfl | exact at_ 2 rfl | exact at_ 3 rfl | exact at_ 4 rfl | exact at_ 5 rfl | exact at_ 6 rfl | exact at_ 7 rfl | exact at_ 8 rfl | exact at_ 9 rfl | exact at_ 10 rfl | exact at_ 11 rfl | exact at_ 12 rfl | exact at_ 13 rfl) (hn : off + n ≤ csz cs := by (try simp only [csz_setc, csz_bvs, csz_list, List.length_append, List.length_set, zs_len, List.length_take, List.length_drop, List.length_cons, List.length_nil, List.length_map]); first | done | rfl | omega) (hv : cut cs off n = vs := by first | exact cut_whole _ _ (by (try simp only [csz_setc, csz_bvs, csz_list, List.length_append, List.length_set, zs_len, List.length_take, List.length_drop, List.length_cons, List.length_nil, List.length_map]); first | done | rfl | omega) | rfl) (hw : Region.wanted o (yielded ops a.tmps) = true := by rfl) (hd : isDefer o = false := by rfl) : W (o :: rest) a w := hStp.go hw hd (r_loadR hop hx h1 (hH.blk i hS hi) hn hv) hk
theorem q_loadR {t : TypeId} {x : Operand} {n b off : Nat} {cs vs : Array Value} {ty : TypeId} {i : Nat} (hH : Own B H) (hS : H w L) (hop : o.op = .load t x := by rfl) (hx : evO a x = some (.pointer (some ⟨b, off, none⟩)) := by rfl) (h1 : RowT P t n := by infer_instance) (hi : L[i]? = some (b, cs, ty) := by first | exact at_ 0 rfl | exact at_ 1 rfl | exact at_ 2 rfl | exact at_ 3 rfl | exact at_ 4 rfl | exact at_ 5 rfl | exact at_ 6 rfl | exact at_ 7 rfl | exact at_ 8 rfl | exact at_ 9 rfl | exact at_ 10 rfl | exact at_ 11 rfl | exact at_ 12 rfl | exact at_ 13 rfl) (hn : off + n ≤ csz cs := by (try simp only [csz_setc, csz_bvs, csz_list, List.length_append, List.length_set, zs_len, List.length_take, List.length_drop, List.length_cons, List.length_nil, List.length_map]); first | done | rfl | omega) (hv : cut cs off n = vs := by first | exact cut_whole _ _ (by (try simp only [csz_setc, csz_bvs, csz_list, List.length_append, List.length_set, zs_len, List.length_take, List.length_drop, List.length_cons, List.length_nil, List.length_map]); first | done | rfl | omega) | rfl) : o.quietAt P a C w ((.agg vs)) := q_val (r_loadR hop hx h1 (hH.blk i hS hi) hn hv)
theorem g_loadRF {t : TypeId} {x : Operand} {n b off : Nat} {cs vs : Array Value} {ty : TypeId} {fr : Nat × Nat} (hStp : Stp P ops W) (hb : blk w b = some (.cells cs ty fr)) (hk : W rest (a.put o.dst ((.agg vs))) w) (hop : o.op = .load t x := by rfl) (hx : evO a x = some (.pointer (some ⟨b, off, none⟩)) := by rfl) (h1 : RowT P t n := by infer_instance) (hn : off + n ≤ csz cs := by (try simp only [csz_setc, csz_bvs, csz_list, List.length_append, List.length_set, zs_len, List.length_take, List.length_drop, List.length_cons, List.length_nil, List.length_map]); first | done | rfl | omega) (hv : cut cs off n = vs := by first | exact cut_whole _ _ (by (try simp only [csz_setc, csz_bvs, csz_list, List.length_append, List.length_set, zs_len, List.length_take, List.length_drop, List.length_cons, List.length_nil, List.length_map]); first | done | rfl | omega) | rfl) (hw : Region.wanted o (yielded ops a.tmps) = true := by rfl) (hd : isDefer o = false := by rfl) : W (o :: rest) a w := hStp.go hw hd (r_loadR hop hx h1 hb hn hv) hk
theorem q_loadRF {t : TypeId} {x : Operand} {n b off : Nat} {cs vs : Array Value} {ty : TypeId} {fr : Nat × Nat} (hb : blk w b = some (.cells cs ty fr)) (hop : o.op = .load t x := by rfl) (hx : evO a x = some (.pointer (some ⟨b, off, none⟩)) := by rfl) (h1 : RowT P t n := by infer_instance) (hn : off + n ≤ csz cs := by (try simp only [csz_setc, csz_bvs, csz_list, List.length_append, List.length_set, zs_len, List.length_take, List.length_drop, List.length_cons, List.length_nil, List.length_map]); first | done | rfl | omega) (hv : cut cs off n = vs := by first | exact cut_whole _ _ (by (try simp only [csz_setc, csz_bvs, csz_list, List.length_append, List.length_set, zs_len, List.length_take, List.length_drop, List.length_cons, List.length_nil, List.length_map]); first | done | rfl | omega) | rfl) : o.quietAt P a C w ((.agg vs)) := q_val (r_loadR hop hx h1 hb hn hv)
theorem g_indexAddr {t : TypeId} {x y : Operand} {m b off n c q : Nat} {k : IntKind} {i : Int} (hStp : Stp P ops W) (hk : W rest (a.put o.dst ((.pointer (some ⟨b, q, none⟩)))) w) (hop : o.op = .indexAddr t x y := by rfl) (hx : evO a x = some (.slice (some ⟨b, off, none⟩) n c) := by rfl) (hy : evO a y = some (.int k i) := by rfl) (hm : ElT P t m := by infer_instance) (h0 : 0 ≤ i ∧ i < (n : Int) := by omega) (hq : off + i.toNat * m = q := by (try conv => lhs; simp only [Int.toNat_natCast, Int.toNat_zero, Int.toNat_one, Int.reduceToNat, Int.toNat_natCast_add_one, Int.ofNat_eq_natCast, Nat.mul_one, Nat.one_mul, Nat.zero_add, Nat.add_zero, Nat.sub_zero, Nat.zero_mul, Nat.reduceAdd, Nat.reduceMul, Nat.reduceSub]); first | done | rfl) (hw : Region.wanted o (yielded ops a.tmps) = true := by rfl) (hd : isDefer o = false := by rfl) : W (o :: rest) a w := hStp.go hw hd (r_indexAddr hop hx hy hm h0 hq) hk
theorem q_indexAddr {t : TypeId} {x y : Operand} {m b off n c q : Nat} {k : IntKind} {i : Int} (hop : o.op = .indexAddr t x y := by rfl) (hx : evO a x = some (.slice (some ⟨b, off, none⟩) n c) := by rfl) (hy : evO a y = some (.int k i) := by rfl) (hm : ElT P t m := by infer_instance) (h0 : 0 ≤ i ∧ i < (n : Int) := by omega) (hq : off + i.toNat * m = q := by (try conv => lhs; simp only [Int.toNat_natCast, Int.toNat_zero, Int.toNat_one, Int.reduceToNat, Int.toNat_natCast_add_one, Int.ofNat_eq_natCast, Nat.mul_one, Nat.one_mul, Nat.zero_add, Nat.add_zero, Nat.sub_zero, Nat.zero_mul, Nat.reduceAdd, Nat.reduceMul, Nat.reduceSub]); first | done | rfl) : o.quietAt P a C w ((.pointer (some ⟨b, q, none⟩))) := q_val (r_indexAddr hop hx hy hm h0 hq)
theorem g_indexAddrA {t : TypeId} {x y : Operand} {m b off n q : Nat} {k : IntKind} {i : Int} (hStp : Stp P ops W) (hk : W rest (a.put o.dst ((.pointer (some ⟨b, q, none⟩)))) w) (hop : o.op = .indexAddr t x y := by rfl) (hx : evO a x = some (.pointer (some ⟨b, off, none⟩)) := by rfl) (hy : evO a y = some (.int k i) := by rfl) (hm : ArT P t n m := by infer_instance) (h0 : 0 ≤ i ∧ i < (n : Int) := by omega) (hq : off + i.toNat * m = q := by (try conv => lhs; simp only [Int.toNat_natCast, Int.toNat_zero, Int.toNat_one, Int.reduceToNat, Int.toNat_natCast_add_one, Int.ofNat_eq_natCast, Nat.mul_one, Nat.one_mul, Nat.zero_add, Nat.add_zero, Nat.sub_zero, Nat.zero_mul, Nat.reduceAdd, Nat.reduceMul, Nat.reduceSub]); first | done | rfl) (hw : Region.wanted o (yielded ops a.tmps) = true := by rfl) (hd : isDefer o = false := by rfl) : W (o :: rest) a w := hStp.go hw hd (r_indexAddrA hop hx hy hm h0 hq) hk
theorem q_indexAddrA {t : TypeId} {x y : Operand} {m b off n q : Nat} {k : IntKind} {i : Int} (hop : o.op = .indexAddr t x y := by rfl) (hx : evO a x = some (.pointer (some ⟨b, off, none⟩)) := by rfl) (hy : evO a y = some (.int k i) := by rfl) (hm : ArT P t n m := by infer_instance) (h0 : 0 ≤ i ∧ i < (n : Int) := by omega) (hq : off + i.toNat * m = q := by (try conv => lhs; simp only [Int.toNat_natCast, Int.toNat_zero, Int.toNat_one, Int.reduceToNat, Int.toNat_natCast_add_one, Int.ofNat_eq_natCast, Nat.mul_one, Nat.one_mul, Nat.zero_add, Nat.add_zero, Nat.sub_zero, Nat.zero_mul, Nat.reduceAdd, Nat.reduceMul, Nat.reduceSub]); first | done | rfl) : o.quietAt P a C w ((.pointer (some ⟨b, q, none⟩))) := q_val (r_indexAddrA hop hx hy hm h0 hq)
theorem g_len {x : Operand} {t : TypeId} {p : Option Addr} {n c m : Nat} (hStp : Stp P ops W) (hk : W rest (a.put o.dst ((.int .i64 (n : Int)))) w) (hop : o.op = .call { callee := .builtin .len, args := #[x], argTypes := #[t] } := by rfl) (hx : evO a x = some (.slice p n c) := by rfl) (hm : ElT P t m := by infer_instance) (hw : Region.wanted o (yielded ops a.tmps) = true := by rfl) (hd : isDefer o = false := by rfl) : W (o :: rest) a w := hStp.go hw hd (r_len hop hx hm) hk
theorem q_len {x : Operand} {t : TypeId} {p : Option Addr} {n c m : Nat} (hop : o.op = .call { callee := .builtin .len, args := #[x], argTypes := #[t] } := by rfl) (hx : evO a x = some (.slice p n c) := by rfl) (hm : ElT P t m := by infer_instance) : o.quietAt P a C w ((.int .i64 (n : Int))) := q_val (r_len hop hx hm)
theorem g_cap {x : Operand} {t : TypeId} {p : Option Addr} {n c m : Nat} (hStp : Stp P ops W) (hk : W rest (a.put o.dst ((.int .i64 (c : Int)))) w) (hop : o.op = .call { callee := .builtin .cap, args := #[x], argTypes := #[t] } := by rfl) (hx : evO a x = some (.slice p n c) := by rfl) (hm : ElT P t m := by infer_instance) (hw : Region.wanted o (yielded ops a.tmps) = true := by rfl) (hd : isDefer o = false := by rfl) : W (o :: rest) a w := hStp.go hw hd (r_cap hop hx hm) hk
theorem q_cap {x : Operand} {t : TypeId} {p : Option Addr} {n c m : Nat} (hop : o.op = .call { callee := .builtin .cap, args := #[x], argTypes := #[t] } := by rfl) (hx : evO a x = some (.slice p n c) := by rfl) (hm : ElT P t m := by infer_instance) : o.quietAt P a C w ((.int .i64 (c : Int))) := q_val (r_cap hop hx hm)
theorem g_extract {x : Operand} {k : Nat} {vs : Array Value} (hStp : Stp P ops W) (hk : W rest (a.put o.dst (v)) w) (hop : o.op = .extract x k := by rfl) (hx : evO a x = some (.tuple vs) := by rfl) (hv : vs.toList[k]? = some v := by rfl) (hw : Region.wanted o (yielded ops a.tmps) = true := by rfl) (hd : isDefer o = false := by rfl) : W (o :: rest) a w := hStp.go hw hd (r_extract hop hx hv) hk
theorem q_extract {x : Operand} {k : Nat} {vs : Array Value} (hop : o.op = .extract x k := by rfl) (hx : evO a x = some (.tuple vs) := by rfl) (hv : vs.toList[k]? = some v := by rfl) : o.quietAt P a C w (v) := q_val (r_extract hop hx hv)
theorem g_add {t t' : TypeId} {x y : Operand} {k : IntKind} {m n q : Int} (hStp : Stp P ops W) (hk : W rest (a.put o.dst ((.int k q))) w) (hop : o.op = .binOp .add t x y t' := by rfl) (hx : evO a x = some (.int k m) := by rfl) (hy : evO a y = some (.int k n) := by rfl) (hf : fits k (m + n) := by first | exact fits_i64 (by omega) | exact fits_u8 (by omega) | exact fits_u64 (by omega)) (hq : m + n = q := by (try conv => lhs; simp only [Int.cast_ofNat_Int, Int.add_sub_cancel, Int.sub_add_cancel, Int.zero_add, Int.add_zero, Int.sub_zero, Int.reduceAdd, Int.reduceSub, Int.reduceMul, Int.reduceDiv, Int.reduceMod, Int.natCast_zero]); first | done | rfl) (hw : Region.wanted o (yielded ops a.tmps) = true := by rfl) (hd : isDefer o = false := by rfl) : W (o :: rest) a w := hStp.go hw hd (r_add hop hx hy hf hq) hk
theorem q_add {t t' : TypeId} {x y : Operand} {k : IntKind} {m n q : Int} (hop : o.op = .binOp .add t x y t' := by rfl) (hx : evO a x = some (.int k m) := by rfl) (hy : evO a y = some (.int k n) := by rfl) (hf : fits k (m + n) := by first | exact fits_i64 (by omega) | exact fits_u8 (by omega) | exact fits_u64 (by omega)) (hq : m + n = q := by (try conv => lhs; simp only [Int.cast_ofNat_Int, Int.add_sub_cancel, Int.sub_add_cancel, Int.zero_add, Int.add_zero, Int.sub_zero, Int.reduceAdd, Int.reduceSub, Int.reduceMul, Int.reduceDiv, Int.reduceMod, Int.natCast_zero]); first | done | rfl) : o.quietAt P a C w ((.int k q)) := q_val (r_add hop hx hy hf hq)
theorem g_sub {t t' : TypeId} {x y : Operand} {k : IntKind} {m n q : Int} (hStp : Stp P ops W) (hk : W rest (a.put o.dst ((.int k q))) w) (hop : o.op = .binOp .sub t x y t' := by rfl) (hx : evO a x = some (.int k m) := by rfl) (hy : evO a y = some (.int k n) := by rfl) (hf : fits k (m - n) := by first | exact fits_i64 (by omega) | exact fits_u8 (by omega) | exact fits_u64 (by omega)) (hq : m - n = q := by (try conv => lhs; simp only [Int.cast_ofNat_Int, Int.add_sub_cancel, Int.sub_add_cancel, Int.zero_add, Int.add_zero, Int.sub_zero, Int.reduceAdd, Int.reduceSub, Int.reduceMul, Int.reduceDiv, Int.reduceMod, Int.natCast_zero]); first | done | rfl) (hw : Region.wanted o (yielded ops a.tmps) = true := by rfl) (hd : isDefer o = false := by rfl) : W (o :: rest) a w := hStp.go hw hd (r_sub hop hx hy hf hq) hk
theorem q_sub {t t' : TypeId} {x y : Operand} {k : IntKind} {m n q : Int} (hop : o.op = .binOp .sub t x y t' := by rfl) (hx : evO a x = some (.int k m) := by rfl) (hy : evO a y = some (.int k n) := by rfl) (hf : fits k (m - n) := by first | exact fits_i64 (by omega) | exact fits_u8 (by omega) | exact fits_u64 (by omega)) (hq : m - n = q := by (try conv => lhs; simp only [Int.cast_ofNat_Int, Int.add_sub_cancel, Int.sub_add_cancel, Int.zero_add, Int.add_zero, Int.sub_zero, Int.reduceAdd, Int.reduceSub, Int.reduceMul, Int.reduceDiv, Int.reduceMod, Int.natCast_zero]); first | done | rfl) : o.quietAt P a C w ((.int k q)) := q_val (r_sub hop hx hy hf hq)
theorem g_mul {t t' : TypeId} {x y : Operand} {k : IntKind} {m n q : Int} (hStp : Stp P ops W) (hk : W rest (a.put o.dst ((.int k q))) w) (hop : o.op = .binOp .mul t x y t' := by rfl) (hx : evO a x = some (.int k m) := by rfl) (hy : evO a y = some (.int k n) := by rfl) (hf : fits k (m * n) := by first | exact fits_i64 (by omega) | exact fits_u8 (by omega) | exact fits_u64 (by omega)) (hq : m * n = q := by (try conv => lhs; simp only [Int.cast_ofNat_Int, Int.add_sub_cancel, Int.sub_add_cancel, Int.zero_add, Int.add_zero, Int.sub_zero, Int.reduceAdd, Int.reduceSub, Int.reduceMul, Int.reduceDiv, Int.reduceMod, Int.natCast_zero]); first | done | rfl) (hw : Region.wanted o (yielded ops a.tmps) = true := by rfl) (hd : isDefer o = false := by rfl) : W (o :: rest) a w := hStp.go hw hd (r_mul hop hx hy hf hq) hk
theorem q_mul {t t' : TypeId} {x y : Operand} {k : IntKind} {m n q : Int} (hop : o.op = .binOp .mul t x y t' := by rfl) (hx : evO a x = some (.int k m) := by rfl) (hy : evO a y = some (.int k n) := by rfl) (hf : fits k (m * n) := by first | exact fits_i64 (by omega) | exact fits_u8 (by omega) | exact fits_u64 (by omega)) (hq : m * n = q := by (try conv => lhs; simp only [Int.cast_ofNat_Int, Int.add_sub_cancel, Int.sub_add_cancel, Int.zero_add, Int.add_zero, Int.sub_zero, Int.reduceAdd, Int.reduceSub, Int.reduceMul, Int.reduceDiv, Int.reduceMod, Int.natCast_zero]); first | done | rfl) : o.quietAt P a C w ((.int k q)) := q_val (r_mul hop hx hy hf hq)
theorem g_quo {t t' : TypeId} {x y : Operand} {k : IntKind} {m n q : Int} (hStp : Stp P ops W) (hk : W rest (a.put o.dst ((.int k q))) w) (hop : o.op = .binOp .quo t x y t' := by rfl) (hx : evO a x = some (.int k m) := by rfl) (hy : evO a y = some (.int k n) := by rfl) (h0 : 0 ≤ m ∧ 0 < n := by omega) (hf : fits k (m / n) := by first | exact fits_i64 (by omega) | exact fits_u8 (by omega) | exact fits_u64 (by omega)) (hq : m / n = q := by (try conv => lhs; simp only [Int.cast_ofNat_Int, Int.add_sub_cancel, Int.sub_add_cancel, Int.zero_add, Int.add_zero, Int.sub_zero, Int.reduceAdd, Int.reduceSub, Int.reduceMul, Int.reduceDiv, Int.reduceMod, Int.natCast_zero]); first | done | rfl) (hw : Region.wanted o (yielded ops a.tmps) = true := by rfl) (hd : isDefer o = false := by rfl) : W (o :: rest) a w := hStp.go hw hd (r_quo hop hx hy h0 hf hq) hk
theorem q_quo {t t' : TypeId} {x y : Operand} {k : IntKind} {m n q : Int} (hop : o.op = .binOp .quo t x y t' := by rfl) (hx : evO a x = some (.int k m) := by rfl) (hy : evO a y = some (.int k n) := by rfl) (h0 : 0 ≤ m ∧ 0 < n := by omega) (hf : fits k (m / n) := by first | exact fits_i64 (by omega) | exact fits_u8 (by omega) | exact fits_u64 (by omega)) (hq : m / n = q := by (try conv => lhs; simp only [Int.cast_ofNat_Int, Int.add_sub_cancel, Int.sub_add_cancel, Int.zero_add, Int.add_zero, Int.sub_zero, Int.reduceAdd, Int.reduceSub, Int.reduceMul, Int.reduceDiv, Int.reduceMod, Int.natCast_zero]); first | done | rfl) : o.quietAt P a C w ((.int k q)) := q_val (r_quo hop hx hy h0 hf hq)
theorem g_rem {t t' : TypeId} {x y : Operand} {k : IntKind} {m n q : Int} (hStp : Stp P ops W) (hk : W rest (a.put o.dst ((.int k q))) w) (hop : o.op = .binOp .rem t x y t' := by rfl) (hx : evO a x = some (.int k m) := by rfl) (hy : evO a y = some (.int k n) := by rfl) (h0 : 0 ≤ m ∧ 0 < n := by omega) (hq : m % n = q := by (try conv => lhs; simp only [Int.cast_ofNat_Int, Int.add_sub_cancel, Int.sub_add_cancel, Int.zero_add, Int.add_zero, Int.sub_zero, Int.reduceAdd, Int.reduceSub, Int.reduceMul, Int.reduceDiv, Int.reduceMod, Int.natCast_zero]); first | done | rfl) (hw : Region.wanted o (yielded ops a.tmps) = true := by rfl) (hd : isDefer o = false := by rfl) : W (o :: rest) a w := hStp.go hw hd (r_rem hop hx hy h0 hq) hk
theorem q_rem {t t' : TypeId} {x y : Operand} {k : IntKind} {m n q : Int} (hop : o.op = .binOp .rem t x y t' := by rfl) (hx : evO a x = some (.int k m) := by rfl) (hy : evO a y = some (.int k n) := by rfl) (h0 : 0 ≤ m ∧ 0 < n := by omega) (hq : m % n = q := by (try conv => lhs; simp only [Int.cast_ofNat_Int, Int.add_sub_cancel, Int.sub_add_cancel, Int.zero_add, Int.add_zero, Int.sub_zero, Int.reduceAdd, Int.reduceSub, Int.reduceMul, Int.reduceDiv, Int.reduceMod, Int.natCast_zero]); first | done | rfl) : o.quietAt P a C w ((.int k q)) := q_val (r_rem hop hx hy h0 hq)
theorem g_cmp_t {p : BinOp} {t t' : TypeId} {x y : Operand} {k : IntKind} {m n : Int} {A : Prop} (hStp : Stp P ops W) (hk : W rest (a.put o.dst ((.bool true))) w) (hop : o.op = .binOp p t x y t' := by rfl) (hx : evO a x = some (.int k m) := by rfl) (hy : evO a y = some (.int k n) := by rfl) (hp : cmpP p m n = some A := by rfl) (hA : A := by omega) (hw : Region.wanted o (yielded ops a.tmps) = true := by rfl) (hd : isDefer o = false := by rfl) : W (o :: rest) a w := hStp.go hw hd (r_cmp_t hop hx hy hp hA) hk
theorem q_cmp_t {p : BinOp} {t t' : TypeId} {x y : Operand} {k : IntKind} {m n : Int} {A : Prop} (hop : o.op = .binOp p t x y t' := by rfl) (hx : evO a x = some (.int k m) := by rfl) (hy : evO a y = some (.int k n) := by rfl) (hp : cmpP p m n = some A := by rfl) (hA : A := by omega) : o.quietAt P a C w ((.bool true)) := q_val (r_cmp_t hop hx hy hp hA)
theorem g_cmp_f {p : BinOp} {t t' : TypeId} {x y : Operand} {k : IntKind} {m n : Int} {A : Prop} (hStp : Stp P ops W) (hk : W rest (a.put o.dst ((.bool false))) w) (hop : o.op = .binOp p t x y t' := by rfl) (hx : evO a x = some (.int k m) := by rfl) (hy : evO a y = some (.int k n) := by rfl) (hp : cmpP p m n = some A := by rfl) (hA : ¬ A := by omega) (hw : Region.wanted o (yielded ops a.tmps) = true := by rfl) (hd : isDefer o = false := by rfl) : W (o :: rest) a w := hStp.go hw hd (r_cmp_f hop hx hy hp hA) hk
theorem q_cmp_f {p : BinOp} {t t' : TypeId} {x y : Operand} {k : IntKind} {m n : Int} {A : Prop} (hop : o.op = .binOp p t x y t' := by rfl) (hx : evO a x = some (.int k m) := by rfl) (hy : evO a y = some (.int k n) := by rfl) (hp : cmpP p m n = some A := by rfl) (hA : ¬ A := by omega) : o.quietAt P a C w ((.bool false)) := q_val (r_cmp_f hop hx hy hp hA)
theorem g_neqNil {t t' : TypeId} {x : Operand} {u : TypeId} {y : Value} (hStp : Stp P ops W) (hk : W rest (a.put o.dst ((.bool true))) w) (hop : o.op = .binOp .neq t x (.const .nilIface) t' := by rfl) (hx : evO a x = some (.iface u y) := by rfl) (hi : IfT P t := by infer_instance) (hw : Region.wanted o (yielded ops a.tmps) = true := by rfl) (hd : isDefer o = false := by rfl) : W (o :: rest) a w := hStp.go hw hd (r_neqNil hop hx hi) hk
theorem q_neqNil {t t' : TypeId} {x : Operand} {u : TypeId} {y : Value} (hop : o.op = .binOp .neq t x (.const .nilIface) t' := by rfl) (hx : evO a x = some (.iface u y) := by rfl) (hi : IfT P t := by infer_instance) : o.quietAt P a C w ((.bool true)) := q_val (r_neqNil hop hx hi)
theorem g_neqNil0 {t t' : TypeId} {x : Operand} (hStp : Stp P ops W) (hk : W rest (a.put o.dst ((.bool false))) w) (hop : o.op = .binOp .neq t x (.const .nilIface) t' := by rfl) (hx : evO a x = some .nilIface := by rfl) (hi : IfT P t := by infer_instance) (hw : Region.wanted o (yielded ops a.tmps) = true := by rfl) (hd : isDefer o = false := by rfl) : W (o :: rest) a w := hStp.go hw hd (r_neqNil0 hop hx hi) hk
theorem q_neqNil0 {t t' : TypeId} {x : Operand} (hop : o.op = .binOp .neq t x (.const .nilIface) t' := by rfl) (hx : evO a x = some .nilIface := by rfl) (hi : IfT P t := by infer_instance) : o.quietAt P a C w ((.bool false)) := q_val (r_neqNil0 hop hx hi)
theorem g_eqlNil {t t' : TypeId} {x : Operand} {u : TypeId} {y : Value} (hStp : Stp P ops W) (hk : W rest (a.put o.dst ((.bool false))) w) (hop : o.op = .binOp .eql t x (.const .nilIface) t' := by rfl) (hx : evO a x = some (.iface u y) := by rfl) (hi : IfT P t := by infer_instance) (hw : Region.wanted o (yielded ops a.tmps) = true := by rfl) (hd : isDefer o = false := by rfl) : W (o :: rest) a w := hStp.go hw hd (r_eqlNil hop hx hi) hk
theorem q_eqlNil {t t' : TypeId} {x : Operand} {u : TypeId} {y : Value} (hop : o.op = .binOp .eql t x (.const .nilIface) t' := by rfl) (hx : evO a x = some (.iface u y) := by rfl) (hi : IfT P t := by infer_instance) : o.quietAt P a C w ((.bool false)) := q_val (r_eqlNil hop hx hi)
theorem g_eqlNil0 {t t' : TypeId} {x : Operand} (hStp : Stp P ops W) (hk : W rest (a.put o.dst ((.bool true))) w) (hop : o.op = .binOp .eql t x (.const .nilIface) t' := by rfl) (hx : evO a x = some .nilIface := by rfl) (hi : IfT P t := by infer_instance) (hw : Region.wanted o (yielded ops a.tmps) = true := by rfl) (hd : isDefer o = false := by rfl) : W (o :: rest) a w := hStp.go hw hd (r_eqlNil0 hop hx hi) hk
theorem q_eqlNil0 {t t' : TypeId} {x : Operand} (hop : o.op = .binOp .eql t x (.const .nilIface) t' := by rfl) (hx : evO a x = some .nilIface := by rfl) (hi : IfT P t := by infer_instance) : o.quietAt P a C w ((.bool true)) := q_val (r_eqlNil0 hop hx hi)
theorem g_fieldAddr {s : TypeId} {x : Operand} {k b off fo n q : Nat} (hStp : Stp P ops W) (hk : W rest (a.put o.dst ((.pointer (some ⟨b, q, none⟩)))) w) (hop : o.op = .fieldAddr s x k := by rfl) (hx : evO a x = some (.pointer (some ⟨b, off, none⟩)) := by rfl) (hf : FldT P s k fo n := by infer_instance) (hq : off + fo = q := by (try conv => lhs; simp only [Int.toNat_natCast, Int.toNat_zero, Int.toNat_one, Int.reduceToNat, Int.toNat_natCast_add_one, Int.ofNat_eq_natCast, Nat.mul_one, Nat.one_mul, Nat.zero_add, Nat.add_zero, Nat.sub_zero, Nat.zero_mul, Nat.reduceAdd, Nat.reduceMul, Nat.reduceSub]); first | done | rfl) (hw : Region.wanted o (yielded ops a.tmps) = true := by rfl) (hd : isDefer o = false := by rfl) : W (o :: rest) a w := hStp.go hw hd (r_fieldAddr hop hx hf hq) hk
theorem q_fieldAddr {s : TypeId} {x : Operand} {k b off fo n q : Nat} (hop : o.op = .fieldAddr s x k := by rfl) (hx : evO a x = some (.pointer (some ⟨b, off, none⟩)) := by rfl) (hf : FldT P s k fo n := by infer_instance) (hq : off + fo = q := by (try conv => lhs; simp only [Int.toNat_natCast, Int.toNat_zero, Int.toNat_one, Int.reduceToNat, Int.toNat_natCast_add_one, Int.ofNat_eq_natCast, Nat.mul_one, Nat.one_mul, Nat.zero_add, Nat.add_zero, Nat.sub_zero, Nat.zero_mul, Nat.reduceAdd, Nat.reduceMul, Nat.reduceSub]); first | done | rfl) : o.quietAt P a C w ((.pointer (some ⟨b, q, none⟩))) := q_val (r_fieldAddr hop hx hf hq)
theorem g_field1 {s : TypeId} {x : Operand} {k fo n : Nat} {cs : Array Value} (hStp : Stp P ops W) (hk : W rest (a.put o.dst (v)) w) (hop : o.op = .field s x k := by rfl) (hx : evO a x = some (.agg cs) := by rfl) (hf : FldV P s k fo n true := by infer_instance) (hv' : cs.toList[fo]? = some v := by first | rfl | exact bvs_getL (by (try simp only [List.length_append, List.length_set, zs_len, List.length_take, List.length_drop, List.length_cons, List.length_nil, List.length_map]); omega)) (hw : Region.wanted o (yielded ops a.tmps) = true := by rfl) (hd : isDefer o = false := by rfl) : W (o :: rest) a w := hStp.go hw hd (r_field1 hop hx hf hv') hk
theorem q_field1 {s : TypeId} {x : Operand} {k fo n : Nat} {cs : Array Value} (hop : o.op = .field s x k := by rfl) (hx : evO a x = some (.agg cs) := by rfl) (hf : FldV P s k fo n true := by infer_instance) (hv' : cs.toList[fo]? = some v := by first | rfl | exact bvs_getL (by (try simp only [List.length_append, List.length_set, zs_len, List.length_take, List.length_drop, List.length_cons, List.length_nil, List.length_map]); omega)) : o.quietAt P a C w (v) := q_val (r_field1 hop hx hf hv')
theorem g_fieldR {s : TypeId} {x : Operand} {k fo n : Nat} {cs vs : Array Value} (hStp : Stp P ops W) (hk : W rest (a.put o.dst ((.agg vs))) w) (hop : o.op = .field s x k := by rfl) (hx : evO a x = some (.agg cs) := by rfl) (hf : FldV P s k fo n false := by infer_instance) (hv : cs.extract fo (fo + n) = vs := by rfl) (hw : Region.wanted o (yielded ops a.tmps) = true := by rfl) (hd : isDefer o = false := by rfl) : W (o :: rest) a w := hStp.go hw hd (r_fieldR hop hx hf hv) hk
theorem q_fieldR {s : TypeId} {x : Operand} {k fo n : Nat} {cs vs : Array Value} (hop : o.op = .field s x k := by rfl) (hx : evO a x = some (.agg cs) := by rfl) (hf : FldV P s k fo n false := by infer_instance) (hv : cs.extract fo (fo + n) = vs := by rfl) : o.quietAt P a C w ((.agg vs)) := q_val (r_fieldR hop hx hf hv)
theorem g_eqlSlNil {t t' e size bytes : Nat} {x : Operand} {p : Option Addr} {n c : Nat} (hStp : Stp P ops W) (hk : W rest (a.put o.dst ((.bool p.isNone))) w) (hop : o.op = .binOp .eql t x (.const (.slice none 0 0)) t' := by rfl) (hx : evO a x = some (.slice p n c) := by rfl) (hT : SlT P t e size bytes := by infer_instance) (hw : Region.wanted o (yielded ops a.tmps) = true := by rfl) (hd : isDefer o = false := by rfl) : W (o :: rest) a w := hStp.go hw hd (r_eqlSlNil hop hx hT) hk
theorem q_eqlSlNil {t t' e size bytes : Nat} {x : Operand} {p : Option Addr} {n c : Nat} (hop : o.op = .binOp .eql t x (.const (.slice none 0 0)) t' := by rfl) (hx : evO a x = some (.slice p n c) := by rfl) (hT : SlT P t e size bytes := by infer_instance) : o.quietAt P a C w ((.bool p.isNone)) := q_val (r_eqlSlNil hop hx hT)
theorem g_neqSlNil {t t' e size bytes : Nat} {x : Operand} {p : Option Addr} {n c : Nat} (hStp : Stp P ops W) (hk : W rest (a.put o.dst ((.bool (!p.isNone)))) w) (hop : o.op = .binOp .neq t x (.const (.slice none 0 0)) t' := by rfl) (hx : evO a x = some (.slice p n c) := by rfl) (hT : SlT P t e size bytes := by infer_instance) (hw : Region.wanted o (yielded ops a.tmps) = true := by rfl) (hd : isDefer o = false := by rfl) : W (o :: rest) a w := hStp.go hw hd (r_neqSlNil hop hx hT) hk
theorem q_neqSlNil {t t' e size bytes : Nat} {x : Operand} {p : Option Addr} {n c : Nat} (hop : o.op = .binOp .neq t x (.const (.slice none 0 0)) t' := by rfl) (hx : evO a x = some (.slice p n c) := by rfl) (hT : SlT P t e size bytes := by infer_instance) : o.quietAt P a C w ((.bool (!p.isNone))) := q_val (r_neqSlNil hop hx hT)
theorem g_makeInterface {t : TypeId} {x : Operand} (hStp : Stp P ops W) (hk : W rest (a.put o.dst ((.iface t v))) w) (hop : o.op = .makeInterface t x := by rfl) (hx : evO a x = some v := by rfl) (hi : IfaceT P t := by infer_instance) (hw : Region.wanted o (yielded ops a.tmps) = true := by rfl) (hd : isDefer o = false := by rfl) : W (o :: rest) a w := hStp.go hw hd (r_makeInterface hop hx hi) hk
theorem q_makeInterface {t : TypeId} {x : Operand} (hop : o.op = .makeInterface t x := by rfl) (hx : evO a x = some v := by rfl) (hi : IfaceT P t := by infer_instance) : o.quietAt P a C w ((.iface t v)) := q_val (r_makeInterface hop hx hi)
theorem g_makeFunc {fn : Fn} {first caps : Array Operand} {fs cs : List Value} (hStp : Stp P ops W) (hk : W rest (a.put o.dst ((.func fn fs.toArray cs.toArray))) w) (hop : o.op = .makeFunc fn first caps := by rfl) (hf : evs a first.toList = some fs := by rfl) (hc : evs a caps.toList = some cs := by rfl) (hw : Region.wanted o (yielded ops a.tmps) = true := by rfl) (hd : isDefer o = false := by rfl) : W (o :: rest) a w := hStp.go hw hd (r_makeFunc hop hf hc) hk
theorem q_makeFunc {fn : Fn} {first caps : Array Operand} {fs cs : List Value} (hop : o.op = .makeFunc fn first caps := by rfl) (hf : evs a first.toList = some fs := by rfl) (hc : evs a caps.toList = some cs := by rfl) : o.quietAt P a C w ((.func fn fs.toArray cs.toArray)) := q_val (r_makeFunc hop hf hc)
theorem g_conv {s t : TypeId} {x : Operand} {k k' ks : IntKind} {n q : Int} (hStp : Stp P ops W) (hk : W rest (a.put o.dst ((.int k' q))) w) (hop : o.op = .convert s t x := by rfl) (hx : evO a x = some (.int k n) := by rfl) (hs : IntT P s ks := by infer_instance) (ht : IntT P t k' := by infer_instance) (hf : fits k' n := by first | exact fits_i64 (by omega) | exact fits_u8 (by omega) | exact fits_u64 (by omega)) (hq : n = q := by (try conv => lhs; simp only [Int.cast_ofNat_Int, Int.add_sub_cancel, Int.sub_add_cancel, Int.zero_add, Int.add_zero, Int.sub_zero, Int.reduceAdd, Int.reduceSub, Int.reduceMul, Int.reduceDiv, Int.reduceMod, Int.natCast_zero]); first | done | rfl) (hw : Region.wanted o (yielded ops a.tmps) = true := by rfl) (hd : isDefer o = false := by rfl) : W (o :: rest) a w := hStp.go hw hd (r_conv hop hx hs ht hf hq) hk
theorem q_conv {s t : TypeId} {x : Operand} {k k' ks : IntKind} {n q : Int} (hop : o.op = .convert s t x := by rfl) (hx : evO a x = some (.int k n) := by rfl) (hs : IntT P s ks := by infer_instance) (ht : IntT P t k' := by infer_instance) (hf : fits k' n := by first | exact fits_i64 (by omega) | exact fits_u8 (by omega) | exact fits_u64 (by omega)) (hq : n = q := by (try conv => lhs; simp only [Int.cast_ofNat_Int, Int.add_sub_cancel, Int.sub_add_cancel, Int.zero_add, Int.add_zero, Int.sub_zero, Int.reduceAdd, Int.reduceSub, Int.reduceMul, Int.reduceDiv, Int.reduceMod, Int.natCast_zero]); first | done | rfl) : o.quietAt P a C w ((.int k' q)) := q_val (r_conv hop hx hs ht hf hq)
theorem g_pick {c x y : Operand} {b : Bool} (hStp : Stp P ops W) (hk : W rest (a.put o.dst (v)) w) (hop : o.op = .pick c x y := by rfl) (hc : evO a c = some (.bool b) := by rfl) (hv : (if b then evO a x else evO a y) = some v := by rfl) (hw : Region.wanted o (yielded ops a.tmps) = true := by rfl) (hd : isDefer o = false := by rfl) : W (o :: rest) a w := hStp.go hw hd (r_pick hop hc hv) hk
theorem q_pick {c x y : Operand} {b : Bool} (hop : o.op = .pick c x y := by rfl) (hc : evO a c = some (.bool b) := by rfl) (hv : (if b then evO a x else evO a y) = some v := by rfl) : o.quietAt P a C w (v) := q_val (r_pick hop hc hv)
theorem g_not {t : TypeId} {x : Operand} {b c : Bool} (hStp : Stp P ops W) (hk : W rest (a.put o.dst ((.bool c))) w) (hop : o.op = .unOp .not t x := by rfl) (hx : evO a x = some (.bool b) := by rfl) (hc : (!b) = c := by rfl) (hw : Region.wanted o (yielded ops a.tmps) = true := by rfl) (hd : isDefer o = false := by rfl) : W (o :: rest) a w := hStp.go hw hd (r_not hop hx hc) hk
theorem q_not {t : TypeId} {x : Operand} {b c : Bool} (hop : o.op = .unOp .not t x := by rfl) (hx : evO a x = some (.bool b) := by rfl) (hc : (!b) = c := by rfl) : o.quietAt P a C w ((.bool c)) := q_val (r_not hop hx hc)
theorem g_slice {t : TypeId} {x : Operand} {lo hi : Option Operand} {b off n c m q n' c' : Nat} {l h : Int} (hStp : Stp P ops W) (hk : W rest (a.put o.dst ((.slice (some ⟨b, q, none⟩) n' c'))) w) (hop : o.op = .slice t x lo hi none := by rfl) (hx : evO a x = some (.slice (some ⟨b, off, none⟩) n c) := by rfl) (hm : ElT P t m := by infer_instance) (hl : bnd a 0 lo = some l := by rfl) (hh : bnd a n hi = some h := by rfl) (h0 : 0 ≤ l ∧ l ≤ h ∧ h ≤ (c : Int) ∧ (l < (c : Int) ∨ l = 0) := by omega) (hq : off + l.toNat * m = q := by (try conv => lhs; simp only [Int.toNat_natCast, Int.toNat_zero, Int.toNat_one, Int.reduceToNat, Int.toNat_natCast_add_one, Int.ofNat_eq_natCast, Nat.mul_one, Nat.one_mul, Nat.zero_add, Nat.add_zero, Nat.sub_zero, Nat.zero_mul, Nat.reduceAdd, Nat.reduceMul, Nat.reduceSub]); first | done | rfl) (hn : h.toNat - l.toNat = n' := by (try conv => lhs; simp only [Int.toNat_natCast, Int.toNat_zero, Int.toNat_one, Int.reduceToNat, Int.toNat_natCast_add_one, Int.ofNat_eq_natCast, Nat.mul_one, Nat.one_mul, Nat.zero_add, Nat.add_zero, Nat.sub_zero, Nat.zero_mul, Nat.reduceAdd, Nat.reduceMul, Nat.reduceSub]); first | done | rfl) (hc : c - l.toNat = c' := by (try conv => lhs; simp only [Int.toNat_natCast, Int.toNat_zero, Int.toNat_one, Int.reduceToNat, Int.toNat_natCast_add_one, Int.ofNat_eq_natCast, Nat.mul_one, Nat.one_mul, Nat.zero_add, Nat.add_zero, Nat.sub_zero, Nat.zero_mul, Nat.reduceAdd, Nat.reduceMul, Nat.reduceSub]); first | done | rfl) (hw : Region.wanted o (yielded ops a.tmps) = true := by rfl) (hd : isDefer o = false := by rfl) : W (o :: rest) a w := hStp.go hw hd (r_slice hop hx hm hl hh h0 hq hn hc) hk
theorem q_slice {t : TypeId} {x : Operand} {lo hi : Option Operand} {b off n c m q n' c' : Nat} {l h : Int} (hop : o.op = .slice t x lo hi none := by rfl) (hx : evO a x = some (.slice (some ⟨b, off, none⟩) n c) := by rfl) (hm : ElT P t m := by infer_instance) (hl : bnd a 0 lo = some l := by rfl) (hh : bnd a n hi = some h := by rfl) (h0 : 0 ≤ l ∧ l ≤ h ∧ h ≤ (c : Int) ∧ (l < (c : Int) ∨ l = 0) := by omega) (hq : off + l.toNat * m = q := by (try conv => lhs; simp only [Int.toNat_natCast, Int.toNat_zero, Int.toNat_one, Int.reduceToNat, Int.toNat_natCast_add_one, Int.ofNat_eq_natCast, Nat.mul_one, Nat.one_mul, Nat.zero_add, Nat.add_zero, Nat.sub_zero, Nat.zero_mul, Nat.reduceAdd, Nat.reduceMul, Nat.reduceSub]); first | done | rfl) (hn : h.toNat - l.toNat = n' := by (try conv => lhs; simp only [Int.toNat_natCast, Int.toNat_zero, Int.toNat_one, Int.reduceToNat, Int.toNat_natCast_add_one, Int.ofNat_eq_natCast, Nat.mul_one, Nat.one_mul, Nat.zero_add, Nat.add_zero, Nat.sub_zero, Nat.zero_mul, Nat.reduceAdd, Nat.reduceMul, Nat.reduceSub]); first | done | rfl) (hc : c - l.toNat = c' := by (try conv => lhs; simp only [Int.toNat_natCast, Int.toNat_zero, Int.toNat_one, Int.reduceToNat, Int.toNat_natCast_add_one, Int.ofNat_eq_natCast, Nat.mul_one, Nat.one_mul, Nat.zero_add, Nat.add_zero, Nat.sub_zero, Nat.zero_mul, Nat.reduceAdd, Nat.reduceMul, Nat.reduceSub]); first | done | rfl) : o.quietAt P a C w ((.slice (some ⟨b, q, none⟩) n' c')) := q_val (r_slice hop hx hm hl hh h0 hq hn hc)
theorem g_sliceA {t : TypeId} {x : Operand} {lo hi : Option Operand} {b off n m q n' c' : Nat} {l h : Int} (hStp : Stp P ops W) (hk : W rest (a.put o.dst ((.slice (some ⟨b, q, none⟩) n' c'))) w) (hop : o.op = .slice t x lo hi none := by rfl) (hx : evO a x = some (.pointer (some ⟨b, off, none⟩)) := by rfl) (hm : ArT P t n m := by infer_instance) (hl : bnd a 0 lo = some l := by rfl) (hh : bnd a n hi = some h := by rfl) (h0 : 0 ≤ l ∧ l ≤ h ∧ h ≤ (n : Int) ∧ l < (n : Int) := by omega) (hq : off + l.toNat * m = q := by (try conv => lhs; simp only [Int.toNat_natCast, Int.toNat_zero, Int.toNat_one, Int.reduceToNat, Int.toNat_natCast_add_one, Int.ofNat_eq_natCast, Nat.mul_one, Nat.one_mul, Nat.zero_add, Nat.add_zero, Nat.sub_zero, Nat.zero_mul, Nat.reduceAdd, Nat.reduceMul, Nat.reduceSub]); first | done | rfl) (hn : h.toNat - l.toNat = n' := by (try conv => lhs; simp only [Int.toNat_natCast, Int.toNat_zero, Int.toNat_one, Int.reduceToNat, Int.toNat_natCast_add_one, Int.ofNat_eq_natCast, Nat.mul_one, Nat.one_mul, Nat.zero_add, Nat.add_zero, Nat.sub_zero, Nat.zero_mul, Nat.reduceAdd, Nat.reduceMul, Nat.reduceSub]); first | done | rfl) (hc : n - l.toNat = c' := by (try conv => lhs; simp only [Int.toNat_natCast, Int.toNat_zero, Int.toNat_one, Int.reduceToNat, Int.toNat_natCast_add_one, Int.ofNat_eq_natCast, Nat.mul_one, Nat.one_mul, Nat.zero_add, Nat.add_zero, Nat.sub_zero, Nat.zero_mul, Nat.reduceAdd, Nat.reduceMul, Nat.reduceSub]); first | done | rfl) (hw : Region.wanted o (yielded ops a.tmps) = true := by rfl) (hd : isDefer o = false := by rfl) : W (o :: rest) a w := hStp.go hw hd (r_sliceA hop hx hm hl hh h0 hq hn hc) hk
theorem q_sliceA {t : TypeId} {x : Operand} {lo hi : Option Operand} {b off n m q n' c' : Nat} {l h : Int} (hop : o.op = .slice t x lo hi none := by rfl) (hx : evO a x = some (.pointer (some ⟨b, off, none⟩)) := by rfl) (hm : ArT P t n m := by infer_instance) (hl : bnd a 0 lo = some l := by rfl) (hh : bnd a n hi = some h := by rfl) (h0 : 0 ≤ l ∧ l ≤ h ∧ h ≤ (n : Int) ∧ l < (n : Int) := by omega) (hq : off + l.toNat * m = q := by (try conv => lhs; simp only [Int.toNat_natCast, Int.toNat_zero, Int.toNat_one, Int.reduceToNat, Int.toNat_natCast_add_one, Int.ofNat_eq_natCast, Nat.mul_one, Nat.one_mul, Nat.zero_add, Nat.add_zero, Nat.sub_zero, Nat.zero_mul, Nat.reduceAdd, Nat.reduceMul, Nat.reduceSub]); first | done | rfl) (hn : h.toNat - l.toNat = n' := by (try conv => lhs; simp only [Int.toNat_natCast, Int.toNat_zero, Int.toNat_one, Int.reduceToNat, Int.toNat_natCast_add_one, Int.ofNat_eq_natCast, Nat.mul_one, Nat.one_mul, Nat.zero_add, Nat.add_zero, Nat.sub_zero, Nat.zero_mul, Nat.reduceAdd, Nat.reduceMul, Nat.reduceSub]); first | done | rfl) (hc : n - l.toNat = c' := by (try conv => lhs; simp only [Int.toNat_natCast, Int.toNat_zero, Int.toNat_one, Int.reduceToNat, Int.toNat_natCast_add_one, Int.ofNat_eq_natCast, Nat.mul_one, Nat.one_mul, Nat.zero_add, Nat.add_zero, Nat.sub_zero, Nat.zero_mul, Nat.reduceAdd, Nat.reduceMul, Nat.reduceSub]); first | done | rfl) : o.quietAt P a C w ((.slice (some ⟨b, q, none⟩) n' c')) := q_val (r_sliceA hop hx hm hl hh h0 hq hn hc)
theorem g_sliceNil {t : TypeId} {x : Operand} {lo hi : Option Operand} {m : Nat} (hStp : Stp P ops W) (hk : W rest (a.put o.dst ((.slice none 0 0))) w) (hop : o.op = .slice t x lo hi none := by rfl) (hx : evO a x = some (.slice none 0 0) := by rfl) (hm : ElT P t m := by infer_instance) (hl : bnd a 0 lo = some 0 := by rfl) (hh : bnd a 0 hi = some 0 := by rfl) (hw : Region.wanted o (yielded ops a.tmps) = true := by rfl) (hd : isDefer o = false := by rfl) : W (o :: rest) a w := hStp.go hw hd (r_sliceNil hop hx hm hl hh) hk
theorem q_sliceNil {t : TypeId} {x : Operand} {lo hi : Option Operand} {m : Nat} (hop : o.op = .slice t x lo hi none := by rfl) (hx : evO a x = some (.slice none 0 0) := by rfl) (hm : ElT P t m := by infer_instance) (hl : bnd a 0 lo = some 0 := by rfl) (hh : bnd a 0 hi = some 0 := by rfl) : o.quietAt P a C w ((.slice none 0 0)) := q_val (r_sliceNil hop hx hm hl hh)
theorem g_skip (hStp : Stp P ops W) (hk : W rest (a.put o.dst undef) w) (hw : Region.wanted o (yielded ops a.tmps) = false := by rfl) : W (o :: rest) a w := hStp.skip hw hk
theorem g_cmp {p : BinOp} {t t' : TypeId} {x y : Operand} {k : IntKind} {m n : Int} {A : Prop} (hStp : Stp P ops W) (ht : A → W rest (a.put o.dst (.bool true)) w) (hf : ¬ A → W rest (a.put o.dst (.bool false)) w) (hop : o.op = .binOp p t x y t' := by rfl) (hx : evO a x = some (.int k m) := by rfl) (hy : evO a y = some (.int k n) := by rfl) (hp : cmpP p m n = some A := by rfl) (hw : Region.wanted o (yielded ops a.tmps) = true := by rfl) : W (o :: rest) a w := s_cmp hStp hw hop hx hy hp ht hf
theorem g_alloc {t : TypeId} {cs : Array Value} (hStp : Stp P ops W) (hH : Own B H) (hS : H w L) (hk : ∀ (b : Nat) (w' : World), H w' ((b, cs, t) :: L) → W rest (a.put o.dst (.pointer (some ⟨b, 0, none⟩))) w') (hop : o.op = .alloc t := by rfl) (hz : ZeroT P t cs := by infer_instance) (hw : Region.wanted o (yielded ops a.tmps) = true := by rfl) (hd : isDefer o = false := by rfl) : W (o :: rest) a w := s_newP hStp hH hS hw hd (r_alloc hop hz) hk
theorem g_box {t : TypeId} {x : Operand} {cs : Array Value} (hStp : Stp P ops W) (hH : Own B H) (hS : H w L) (hk : ∀ (b : Nat) (w' : World), H w' ((b, cs, t) :: L) → W rest (a.put o.dst (.pointer (some ⟨b, 0, none⟩))) w') (hop : o.op = .box t x := by rfl) (hx : evO a x = some v := by rfl) (hc : v.cells = cs := by (try conv => lhs; simp only [Value.cells]); first | done | rfl) (hw : Region.wanted o (yielded ops a.tmps) = true := by rfl) (hd : isDefer o = false := by rfl) : W (o :: rest) a w := s_newP hStp hH hS hw hd (r_box hop hx hc) hk
theorem g_build0 {t e size bytes : Nat} (hStp : Stp P ops W) (hH : Own B H) (hS : H w L) (hk : ∀ (b : Nat) (w' : World), H w' ((b, #[], e) :: L) → W rest (a.put o.dst (.slice (some ⟨b, 0, none⟩) 0 0)) w') (hop : o.op = .buildSlice t 0 #[] := by rfl) (hT : SlT P t e size bytes := by infer_instance) (hw : Region.wanted o (yielded ops a.tmps) = true := by rfl) (hd : isDefer o = false := by rfl) : W (o :: rest) a w := s_newS hStp hH hS hw hd (r_buildSlice0 hop hT) rfl rfl rfl hk
theorem g_build {t e size bytes len : Nat} {parts : Array (Nat × Operand)} {vs : List Value} {cells : List Value} (hStp : Stp P ops W) (hH : Own B H) (hS : H w L) (hk : ∀ (b : Nat) (w' : World), H w' ((b, cells.toArray, e) :: L) → W rest (a.put o.dst (.slice (some ⟨b, 0, none⟩) len len)) w') (hop : o.op = .buildSlice t len parts := by rfl) (hp : evi a 0 parts.toList = some vs := by rfl) (hT : SlT P t e size bytes := by infer_instance) (hl : parts.toList.length = len := by rfl) (h1 : ∀ v ∈ vs, v.cells.size = size := by repeat (first | exact (fun _ h => absurd h List.not_mem_nil) | refine List.forall_mem_cons.2 ⟨by first | rfl | (simp only [Value.cells]; first | rfl | omega), ?_⟩)) (hc : (vs.flatMap fun v => v.cells.toList) = cells := by (try conv => lhs; simp only [List.flatMap_cons, List.flatMap_nil, Value.cells, List.append_nil, List.cons_append, List.nil_append]); first | done | rfl) (hlen : len * size ≤ 2 ^ 24 := by decide) (hpos : 0 < len := by decide) (hw : Region.wanted o (yielded ops a.tmps) = true := by rfl) (hd : isDefer o = false := by rfl) : W (o :: rest) a w := s_newS hStp hH hS hw hd (r_buildSlice hop hp hT hl h1 hc hlen hpos) rfl rfl rfl hk
theorem g_make {t e : Nat} {x y : Operand} {k k' : IntKind} {n c : Int} {n' c' : Nat} (hStp : Stp P ops W) (hH : Own B H) (hS : H w L) (hk : ∀ (b : Nat) (w' : World), H w' ((b, bvs (zs c'), e) :: L) → W rest (a.put o.dst (.slice (some ⟨b, 0, none⟩) n' c')) w') (hop : o.op = .makeSlice t x y := by rfl) (hx : evO a x = some (.int k n) := by rfl) (hy : evO a y = some (.int k' c) := by rfl) (hT : SlT P t e 1 1 := by infer_instance) (hz : ZeroT P e #[.int .u8 0] := by infer_instance) (h : 0 ≤ n ∧ n ≤ c ∧ c ≤ 140737488355328 := by omega) (hn : n.toNat = n' := by (try conv => lhs; simp only [Int.toNat_natCast, Int.toNat_zero, Int.toNat_one, Int.reduceToNat, Int.toNat_natCast_add_one, Int.ofNat_eq_natCast, Nat.mul_one, Nat.one_mul, Nat.zero_add, Nat.add_zero, Nat.sub_zero, Nat.zero_mul, Nat.reduceAdd, Nat.reduceMul, Nat.reduceSub]); first | done | rfl) (hc : c.toNat = c' := by (try conv => lhs; simp only [Int.toNat_natCast, Int.toNat_zero, Int.toNat_one, Int.reduceToNat, Int.toNat_natCast_add_one, Int.ofNat_eq_natCast, Nat.mul_one, Nat.one_mul, Nat.zero_add, Nat.add_zero, Nat.sub_zero, Nat.zero_mul, Nat.reduceAdd, Nat.reduceMul, Nat.reduceSub]); first | done | rfl) (hw : Region.wanted o (yielded ops a.tmps) = true := by rfl) (hd : isDefer o = false := by rfl) : W (o :: rest) a w := s_newS hStp hH hS hw hd (r_makeBytes hop hx hy hT hz h) hn hc (by rw [hc]) hk
theorem g_store1 {t : TypeId} {x y : Operand} {b off : Nat} {cs : Array Value} {ty : TypeId} {L' : List Blk} {i : Nat} (hStp : Stp P ops W) (hH : Own B H) (hS : H w L) (hk : ∀ w', H w' L' → W rest (a.put o.dst undef) w') (hop : o.op = .store t x y := by rfl) (hx : evO a x = some (.pointer (some ⟨b, off, none⟩)) := by rfl) (hy : evO a y = some v := by rfl) (h1 : OneT P t := by infer_instance) (hv : v.oneCell' = true := by rfl) (hi : L[i]? = some (b, cs, ty) := by first | exact at_ 0 rfl | exact at_ 1 rfl | exact at_ 2 rfl | exact at_ 3 rfl | exact at_ 4 rfl | exact at_ 5 rfl | exact at_ 6 rfl | exact at_ 7 rfl | exact at_ 8 rfl | exact at_ 9 rfl | exact at_ 10 rfl | exact at_ 11 rfl | exact at_ 12 rfl | exact at_ 13 rfl) (ho : off < csz cs := by (try simp only [csz_setc, csz_bvs, csz_list, List.length_append, List.length_set, zs_len, List.length_take, List.length_drop, List.length_cons, List.length_nil, List.length_map]); first | done | rfl | omega) (hL : L.set i (b, cs.setIfInBounds off v, ty) = L' := by (try conv => lhs; simp only [List.setIfInBounds_toArray, List.set_cons_zero, List.set_cons_succ, List.eraseIdx_cons_zero, List.eraseIdx_cons_succ]); first | done | rfl) (hw : Region.wanted o (yielded ops a.tmps) = true := by rfl) : W (o :: rest) a w := s_store1 hStp hH hS hw hop hx hy h1 hv hi ho hL hk
theorem g_storeR {t : TypeId} {x y : Operand} {n b off : Nat} {cs vs cs' : Array Value} {ty : TypeId} {L' : List Blk} {i : Nat} (hStp : Stp P ops W) (hH : Own B H) (hS : H w L) (hk : ∀ w', H w' L' → W rest (a.put o.dst undef) w') (hop : o.op = .store t x y := by rfl) (hx : evO a x = some (.pointer (some ⟨b, off, none⟩)) := by rfl) (hy : evO a y = some (.agg vs) := by rfl) (h1 : RowT P t n := by infer_instance) (hn : csz vs = n := by (try simp only [csz_setc, csz_bvs, csz_list, List.length_append, List.length_set, zs_len, List.length_take, List.length_drop, List.length_cons, List.length_nil, List.length_map]); first | done | rfl | omega) (hv : ones vs = true := by first | exact ones_bvs _ | rfl) (hi : L[i]? = some (b, cs, ty) := by first | exact at_ 0 rfl | exact at_ 1 rfl | exact at_ 2 rfl | exact at_ 3 rfl | exact at_ 4 rfl | exact at_ 5 rfl | exact at_ 6 rfl | exact at_ 7 rfl | exact at_ 8 rfl | exact at_ 9 rfl | exact at_ 10 rfl | exact at_ 11 rfl | exact at_ 12 rfl | exact at_ 13 rfl) (ho : off + n ≤ csz cs := by (try simp only [csz_setc, csz_bvs, csz_list, List.length_append, List.length_set, zs_len, List.length_take, List.length_drop, List.length_cons, List.length_nil, List.length_map]); first | done | rfl | omega) (hc : paste cs off vs = cs' := by first | exact paste_whole _ _ (by (try simp only [csz_setc, csz_bvs, csz_list, List.length_append, List.length_set, zs_len, List.length_take, List.length_drop, List.length_cons, List.length_nil, List.length_map]); first | done | rfl | omega) | rfl) (hL : L.set i (b, cs', ty) = L' := by (try conv => lhs; simp only [List.setIfInBounds_toArray, List.set_cons_zero, List.set_cons_succ, List.eraseIdx_cons_zero, List.eraseIdx_cons_succ]); first | done | rfl) (hw : Region.wanted o (yielded ops a.tmps) = true := by rfl) : W (o :: rest) a w := s_storeR hStp hH hS hw hop hx hy h1 hn hv hi ho hc hL hk
theorem g_callq {x : Operand} {xs : Array Operand} {ts : Array TypeId} {f : FuncId} {first caps : Array Value} {vs : List Value} {args : Array Value} {v : Value} (hStp : Stp P ops W) (hH : Own B H) (hS : H w L) (hc : Calls P f args w fun e w' => e = .returned v ∧ Below w.heap.size w w') (hk : ∀ w', H w' L → W rest (a.put o.dst v) w') (hop : o.op = .call { callee := .value x, args := xs, argTypes := ts } := by rfl) (hx : evO a x = some (.func (.func f) first caps) := by rfl) (hxs : evs a xs.toList = some vs := by rfl) (hA : (first.toList ++ vs ++ caps.toList).toArray = args := by rfl) (hf : GoF P f := by infer_instance) (hw : Region.wanted o (yielded ops a.tmps) = true := by rfl) : W (o :: rest) a w := s_callq hStp hH hS hw hop hx hxs hA hf hc hk
theorem g_call {x : Operand} {xs : Array Operand} {ts : Array TypeId} {f : FuncId} {first caps : Array Value} {vs : List Value} {args : Array Value} {R0 : Ending → World → Prop} (hStp : Stp P ops W) (hc : Calls P f args w R0) (hk : ∀ e w', R0 e w' → ∃ v, e = .returned v ∧ W rest (a.put o.dst v) w') (hop : o.op = .call { callee := .value x, args := xs, argTypes := ts } := by rfl) (hx : evO a x = some (.func (.func f) first caps) := by rfl) (hxs : evs a xs.toList = some vs := by rfl) (hA : (first.toList ++ vs ++ caps.toList).toArray = args := by rfl) (hf : GoF P f := by infer_instance) (hw : Region.wanted o (yielded ops a.tmps) = true := by rfl) : W (o :: rest) a w := s_call hStp hw hop hx hxs hA hf hc hk
theorem g_qcall {x : Operand} {xs : Array Operand} {ts : Array TypeId} {f : FuncId} {first caps : Array Value} {vs : List Value} {args : Array Value} {v : Value} (hc : Calls P f args w fun e w' => e = .returned v ∧ C w') (hop : o.op = .call { callee := .value x, args := xs, argTypes := ts } := by rfl) (hx : evO a x = some (.func (.func f) first caps) := by rfl) (hxs : evs a xs.toList = some vs := by rfl) (hA : (first.toList ++ vs ++ caps.toList).toArray = args := by rfl) (hf : GoF P f := by infer_instance) : o.quietAt P a C w v := q_call hop hx hxs hA hf hc
theorem put_in {d : Option Nat} {a2 : Act} (h : W rest a2 w) (hput : a.put d v = a2 := by (conv => lhs; simp only [Act.put, List.setIfInBounds_toArray, List.set_cons_zero, List.set_cons_succ]); first | done | rfl) : W rest (a.put d v) w := by rw [hput]; exact h
theorem bvs_getLA {l : List UInt8} {k : Nat} (h : k < l.length := by (try simp only [List.length_append, List.length_set, zs_len, List.length_take, List.length_drop, List.length_cons, List.length_nil, List.length_map]); omega) : (bvs l).toList[k]? = some (.int .u8 ((l.getD k 0).toNat : Int)) := bvs_getL h
end
end Go.Proofs.Ytknkkcbihaojhaa

namespace Go.Proofs.Ytknkkcbihaojhaa
open Go.RowKit
set_option maxRecDepth 100000

instance : OneT Try.prog 0 := ⟨by kernel_rfl, by kernel_rfl⟩
instance : OneT Try.prog 1 := ⟨by kernel_rfl, by kernel_rfl⟩
instance : ZeroT Try.prog 1 #[.nilFunc] := ⟨by kernel_rfl⟩
instance : IfaceT Try.prog 1 := ⟨by kernel_rfl⟩
instance : OneT Try.prog 2 := ⟨by kernel_rfl, by kernel_rfl⟩
instance : ZeroT Try.prog 2 #[.int .i64 0] := ⟨by kernel_rfl⟩
instance : IntT Try.prog 2 .i64 := ⟨by kernel_rfl⟩
instance : IfaceT Try.prog 2 := ⟨by kernel_rfl⟩
instance : OneT Try.prog 3 := ⟨by kernel_rfl, by kernel_rfl⟩
instance : ZeroT Try.prog 3 #[.int .i64 0] := ⟨by kernel_rfl⟩
instance : IntT Try.prog 3 .i64 := ⟨by kernel_rfl⟩
instance : IfaceT Try.prog 3 := ⟨by kernel_rfl⟩
instance : OneT Try.prog 4 := ⟨by kernel_rfl, by kernel_rfl⟩
instance : ZeroT Try.prog 4 #[.bool false] := ⟨by kernel_rfl⟩
instance : IfaceT Try.prog 4 := ⟨by kernel_rfl⟩
instance : OneT Try.prog 5 := ⟨by kernel_rfl, by kernel_rfl⟩
instance : ZeroT Try.prog 5 #[.int .u8 0] := ⟨by kernel_rfl⟩
instance : IntT Try.prog 5 .u8 := ⟨by kernel_rfl⟩
instance : IfaceT Try.prog 5 := ⟨by kernel_rfl⟩
instance : OneT Try.prog 6 := ⟨by kernel_rfl, by kernel_rfl⟩
instance : ZeroT Try.prog 6 #[.int .u8 0] := ⟨by kernel_rfl⟩
instance : IntT Try.prog 6 .u8 := ⟨by kernel_rfl⟩
instance : IfaceT Try.prog 6 := ⟨by kernel_rfl⟩
instance : RowT Try.prog 7 4 := ⟨by kernel_rfl, by kernel_rfl⟩
instance : IfaceT Try.prog 7 := ⟨by kernel_rfl⟩
instance : FldT Try.prog 7 0 0 1 := ⟨2, by kernel_rfl⟩
instance : FldV Try.prog 7 0 0 1 true := ⟨2, by kernel_rfl, by rw [if_pos rfl]; exact ⟨by kernel_rfl, rfl⟩⟩
instance : FldT Try.prog 7 1 1 1 := ⟨3, by kernel_rfl⟩
instance : FldV Try.prog 7 1 1 1 true := ⟨3, by kernel_rfl, by rw [if_pos rfl]; exact ⟨by kernel_rfl, rfl⟩⟩
instance : FldT Try.prog 7 2 2 1 := ⟨4, by kernel_rfl⟩
instance : FldV Try.prog 7 2 2 1 true := ⟨4, by kernel_rfl, by rw [if_pos rfl]; exact ⟨by kernel_rfl, rfl⟩⟩
instance : FldT Try.prog 7 3 3 1 := ⟨6, by kernel_rfl⟩
instance : FldV Try.prog 7 3 3 1 true := ⟨6, by kernel_rfl, by rw [if_pos rfl]; exact ⟨by kernel_rfl, rfl⟩⟩
instance : RowT Try.prog 8 4 := ⟨by kernel_rfl, by kernel_rfl⟩
instance : IfaceT Try.prog 8 := ⟨by kernel_rfl⟩
instance : FldT Try.prog 8 0 0 1 := ⟨2, by kernel_rfl⟩
instance : FldV Try.prog 8 0 0 1 true := ⟨2, by kernel_rfl, by rw [if_pos rfl]; exact ⟨by kernel_rfl, rfl⟩⟩
instance : FldT Try.prog 8 1 1 1 := ⟨3, by kernel_rfl⟩
instance : FldV Try.prog 8 1 1 1 true := ⟨3, by kernel_rfl, by rw [if_pos rfl]; exact ⟨by kernel_rfl, rfl⟩⟩
instance : FldT Try.prog 8 2 2 1 := ⟨4, by kernel_rfl⟩
instance : FldV Try.prog 8 2 2 1 true := ⟨4, by kernel_rfl, by rw [if_pos rfl]; exact ⟨by kernel_rfl, rfl⟩⟩
instance : FldT Try.prog 8 3 3 1 := ⟨6, by kernel_rfl⟩
instance : FldV Try.prog 8 3 3 1 true := ⟨6, by kernel_rfl, by rw [if_pos rfl]; exact ⟨by kernel_rfl, rfl⟩⟩
instance : OneT Try.prog 9 := ⟨by kernel_rfl, by kernel_rfl⟩
instance : ZeroT Try.prog 9 #[.string ⟨#[]⟩] := ⟨by kernel_rfl⟩
instance : IfaceT Try.prog 9 := ⟨by kernel_rfl⟩
instance : OneT Try.prog 10 := ⟨by kernel_rfl, by kernel_rfl⟩
instance : ZeroT Try.prog 10 #[.string ⟨#[]⟩] := ⟨by kernel_rfl⟩
instance : IfaceT Try.prog 10 := ⟨by kernel_rfl⟩
instance : OneT Try.prog 11 := ⟨by kernel_rfl, by kernel_rfl⟩
instance : ZeroT Try.prog 11 #[.string ⟨#[]⟩] := ⟨by kernel_rfl⟩
instance : IfaceT Try.prog 11 := ⟨by kernel_rfl⟩
instance : OneT Try.prog 12 := ⟨by kernel_rfl, by kernel_rfl⟩
instance : ZeroT Try.prog 12 #[.int .u64 0] := ⟨by kernel_rfl⟩
instance : IntT Try.prog 12 .u64 := ⟨by kernel_rfl⟩
instance : IfaceT Try.prog 12 := ⟨by kernel_rfl⟩
instance : RowT Try.prog 13 2 := ⟨by kernel_rfl, by kernel_rfl⟩
instance : IfaceT Try.prog 13 := ⟨by kernel_rfl⟩
instance : FldT Try.prog 13 0 0 1 := ⟨9, by kernel_rfl⟩
instance : FldV Try.prog 13 0 0 1 true := ⟨9, by kernel_rfl, by rw [if_pos rfl]; exact ⟨by kernel_rfl, rfl⟩⟩
instance : FldT Try.prog 13 1 1 1 := ⟨12, by kernel_rfl⟩
instance : FldV Try.prog 13 1 1 1 true := ⟨12, by kernel_rfl, by rw [if_pos rfl]; exact ⟨by kernel_rfl, rfl⟩⟩
instance : RowT Try.prog 14 2 := ⟨by kernel_rfl, by kernel_rfl⟩
instance : IfaceT Try.prog 14 := ⟨by kernel_rfl⟩
instance : FldT Try.prog 14 0 0 1 := ⟨9, by kernel_rfl⟩
instance : FldV Try.prog 14 0 0 1 true := ⟨9, by kernel_rfl, by rw [if_pos rfl]; exact ⟨by kernel_rfl, rfl⟩⟩
instance : FldT Try.prog 14 1 1 1 := ⟨12, by kernel_rfl⟩
instance : FldV Try.prog 14 1 1 1 true := ⟨12, by kernel_rfl, by rw [if_pos rfl]; exact ⟨by kernel_rfl, rfl⟩⟩
instance : OneT Try.prog 15 := ⟨by kernel_rfl, by kernel_rfl⟩
instance : ZeroT Try.prog 15 #[.pointer none] := ⟨by kernel_rfl⟩
instance : IfaceT Try.prog 15 := ⟨by kernel_rfl⟩
instance : OneT Try.prog 16 := ⟨by kernel_rfl, by kernel_rfl⟩
instance : ZeroT Try.prog 16 #[.pointer none] := ⟨by kernel_rfl⟩
instance : IfaceT Try.prog 16 := ⟨by kernel_rfl⟩
instance : OneT Try.prog 17 := ⟨by kernel_rfl, by kernel_rfl⟩
instance : ZeroT Try.prog 17 #[.pointer none] := ⟨by kernel_rfl⟩
instance : IfaceT Try.prog 17 := ⟨by kernel_rfl⟩
instance : RowT Try.prog 18 1 := ⟨by kernel_rfl, by kernel_rfl⟩
instance : IfaceT Try.prog 18 := ⟨by kernel_rfl⟩
instance : FldT Try.prog 18 0 0 1 := ⟨17, by kernel_rfl⟩
instance : FldV Try.prog 18 0 0 1 true := ⟨17, by kernel_rfl, by rw [if_pos rfl]; exact ⟨by kernel_rfl, rfl⟩⟩
instance : RowT Try.prog 19 1 := ⟨by kernel_rfl, by kernel_rfl⟩
instance : IfaceT Try.prog 19 := ⟨by kernel_rfl⟩
instance : FldT Try.prog 19 0 0 1 := ⟨17, by kernel_rfl⟩
instance : FldV Try.prog 19 0 0 1 true := ⟨17, by kernel_rfl, by rw [if_pos rfl]; exact ⟨by kernel_rfl, rfl⟩⟩
instance : OneT Try.prog 20 := ⟨by kernel_rfl, by kernel_rfl⟩
instance : ZeroT Try.prog 20 #[.nilIface] := ⟨by kernel_rfl⟩
instance : IfT Try.prog 20 := ⟨by kernel_rfl⟩
instance : OneT Try.prog 21 := ⟨by kernel_rfl, by kernel_rfl⟩
instance : ZeroT Try.prog 21 #[.int .i32 0] := ⟨by kernel_rfl⟩
instance : IntT Try.prog 21 .i32 := ⟨by kernel_rfl⟩
instance : IfaceT Try.prog 21 := ⟨by kernel_rfl⟩
instance : OneT Try.prog 22 := ⟨by kernel_rfl, by kernel_rfl⟩
instance : ElT Try.prog 22 1 := ⟨by kernel_rfl⟩
instance : SlT Try.prog 22 5 1 1 := ⟨by kernel_rfl⟩
instance : ZeroT Try.prog 22 #[.slice none 0 0] := ⟨by kernel_rfl⟩
instance : IfaceT Try.prog 22 := ⟨by kernel_rfl⟩
instance : OneT Try.prog 23 := ⟨by kernel_rfl, by kernel_rfl⟩
instance : ZeroT Try.prog 23 #[.nilIface] := ⟨by kernel_rfl⟩
instance : IfT Try.prog 23 := ⟨by kernel_rfl⟩
instance : OneT Try.prog 24 := ⟨by kernel_rfl, by kernel_rfl⟩
instance : ZeroT Try.prog 24 #[.nilIface] := ⟨by kernel_rfl⟩
instance : IfT Try.prog 24 := ⟨by kernel_rfl⟩
instance : OneT Try.prog 25 := ⟨by kernel_rfl, by kernel_rfl⟩
instance : OneT Try.prog 26 := ⟨by kernel_rfl, by kernel_rfl⟩
instance : ZeroT Try.prog 26 #[.nilFunc] := ⟨by kernel_rfl⟩
instance : IfaceT Try.prog 26 := ⟨by kernel_rfl⟩
instance : OneT Try.prog 27 := ⟨by kernel_rfl, by kernel_rfl⟩
instance : ZeroT Try.prog 27 #[.nilFunc] := ⟨by kernel_rfl⟩
instance : IfaceT Try.prog 27 := ⟨by kernel_rfl⟩
instance : OneT Try.prog 28 := ⟨by kernel_rfl, by kernel_rfl⟩
instance : OneT Try.prog 29 := ⟨by kernel_rfl, by kernel_rfl⟩
instance : ZeroT Try.prog 29 #[.nilFunc] := ⟨by kernel_rfl⟩
instance : IfaceT Try.prog 29 := ⟨by kernel_rfl⟩
instance : OneT Try.prog 30 := ⟨by kernel_rfl, by kernel_rfl⟩
instance : ZeroT Try.prog 30 #[.nilFunc] := ⟨by kernel_rfl⟩
instance : IfaceT Try.prog 30 := ⟨by kernel_rfl⟩
instance : OneT Try.prog 31 := ⟨by kernel_rfl, by kernel_rfl⟩
instance : ZeroT Try.prog 31 #[.nilFunc] := ⟨by kernel_rfl⟩
instance : IfaceT Try.prog 31 := ⟨by kernel_rfl⟩
instance : OneT Try.prog 32 := ⟨by kernel_rfl, by kernel_rfl⟩
instance : ZeroT Try.prog 32 #[.nilFunc] := ⟨by kernel_rfl⟩
instance : IfaceT Try.prog 32 := ⟨by kernel_rfl⟩
instance : OneT Try.prog 33 := ⟨by kernel_rfl, by kernel_rfl⟩
instance : ElT Try.prog 33 1 := ⟨by kernel_rfl⟩
instance : SlT Try.prog 33 22 1 24 := ⟨by kernel_rfl⟩
instance : ZeroT Try.prog 33 #[.slice none 0 0] := ⟨by kernel_rfl⟩
instance : IfaceT Try.prog 33 := ⟨by kernel_rfl⟩
instance : OneT Try.prog 34 := ⟨by kernel_rfl, by kernel_rfl⟩
instance : ZeroT Try.prog 34 #[.nilFunc] := ⟨by kernel_rfl⟩
instance : IfaceT Try.prog 34 := ⟨by kernel_rfl⟩
instance : OneT Try.prog 35 := ⟨by kernel_rfl, by kernel_rfl⟩
instance : ZeroT Try.prog 35 #[.nilFunc] := ⟨by kernel_rfl⟩
instance : IfaceT Try.prog 35 := ⟨by kernel_rfl⟩
instance : OneT Try.prog 36 := ⟨by kernel_rfl, by kernel_rfl⟩
instance : ZeroT Try.prog 36 #[.nilFunc] := ⟨by kernel_rfl⟩
instance : IfaceT Try.prog 36 := ⟨by kernel_rfl⟩
instance : OneT Try.prog 37 := ⟨by kernel_rfl, by kernel_rfl⟩
instance : ZeroT Try.prog 37 #[.nilFunc] := ⟨by kernel_rfl⟩
instance : IfaceT Try.prog 37 := ⟨by kernel_rfl⟩
instance : OneT Try.prog 38 := ⟨by kernel_rfl, by kernel_rfl⟩
instance : ZeroT Try.prog 38 #[.nilFunc] := ⟨by kernel_rfl⟩
instance : IfaceT Try.prog 38 := ⟨by kernel_rfl⟩
instance : RowT Try.prog 39 4 := ⟨by kernel_rfl, by kernel_rfl⟩
instance : IfaceT Try.prog 39 := ⟨by kernel_rfl⟩
instance : FldT Try.prog 39 0 0 1 := ⟨22, by kernel_rfl⟩
instance : FldV Try.prog 39 0 0 1 true := ⟨22, by kernel_rfl, by rw [if_pos rfl]; exact ⟨by kernel_rfl, rfl⟩⟩
instance : FldT Try.prog 39 1 1 1 := ⟨3, by kernel_rfl⟩
instance : FldV Try.prog 39 1 1 1 true := ⟨3, by kernel_rfl, by rw [if_pos rfl]; exact ⟨by kernel_rfl, rfl⟩⟩
instance : FldT Try.prog 39 2 2 1 := ⟨3, by kernel_rfl⟩
instance : FldV Try.prog 39 2 2 1 true := ⟨3, by kernel_rfl, by rw [if_pos rfl]; exact ⟨by kernel_rfl, rfl⟩⟩
instance : FldT Try.prog 39 3 3 1 := ⟨22, by kernel_rfl⟩
instance : FldV Try.prog 39 3 3 1 true := ⟨22, by kernel_rfl, by rw [if_pos rfl]; exact ⟨by kernel_rfl, rfl⟩⟩
instance : RowT Try.prog 40 4 := ⟨by kernel_rfl, by kernel_rfl⟩
instance : IfaceT Try.prog 40 := ⟨by kernel_rfl⟩
instance : FldT Try.prog 40 0 0 1 := ⟨22, by kernel_rfl⟩
instance : FldV Try.prog 40 0 0 1 true := ⟨22, by kernel_rfl, by rw [if_pos rfl]; exact ⟨by kernel_rfl, rfl⟩⟩
instance : FldT Try.prog 40 1 1 1 := ⟨3, by kernel_rfl⟩
instance : FldV Try.prog 40 1 1 1 true := ⟨3, by kernel_rfl, by rw [if_pos rfl]; exact ⟨by kernel_rfl, rfl⟩⟩
instance : FldT Try.prog 40 2 2 1 := ⟨3, by kernel_rfl⟩
instance : FldV Try.prog 40 2 2 1 true := ⟨3, by kernel_rfl, by rw [if_pos rfl]; exact ⟨by kernel_rfl, rfl⟩⟩
instance : FldT Try.prog 40 3 3 1 := ⟨22, by kernel_rfl⟩
instance : FldV Try.prog 40 3 3 1 true := ⟨22, by kernel_rfl, by rw [if_pos rfl]; exact ⟨by kernel_rfl, rfl⟩⟩
instance : OneT Try.prog 41 := ⟨by kernel_rfl, by kernel_rfl⟩
instance : ZeroT Try.prog 41 #[.nilFunc] := ⟨by kernel_rfl⟩
instance : IfaceT Try.prog 41 := ⟨by kernel_rfl⟩
instance : OneT Try.prog 42 := ⟨by kernel_rfl, by kernel_rfl⟩
instance : ZeroT Try.prog 42 #[.nilFunc] := ⟨by kernel_rfl⟩
instance : IfaceT Try.prog 42 := ⟨by kernel_rfl⟩
instance : OneT Try.prog 43 := ⟨by kernel_rfl, by kernel_rfl⟩
instance : ZeroT Try.prog 43 #[.nilFunc] := ⟨by kernel_rfl⟩
instance : IfaceT Try.prog 43 := ⟨by kernel_rfl⟩
instance : OneT Try.prog 44 := ⟨by kernel_rfl, by kernel_rfl⟩
instance : ZeroT Try.prog 44 #[.int .i64 0] := ⟨by kernel_rfl⟩
instance : IntT Try.prog 44 .i64 := ⟨by kernel_rfl⟩
instance : IfaceT Try.prog 44 := ⟨by kernel_rfl⟩
instance : RowT Try.prog 45 4 := ⟨by kernel_rfl, by kernel_rfl⟩
instance : IfaceT Try.prog 45 := ⟨by kernel_rfl⟩
instance : FldT Try.prog 45 0 0 1 := ⟨22, by kernel_rfl⟩
instance : FldV Try.prog 45 0 0 1 true := ⟨22, by kernel_rfl, by rw [if_pos rfl]; exact ⟨by kernel_rfl, rfl⟩⟩
instance : FldT Try.prog 45 1 1 1 := ⟨22, by kernel_rfl⟩
instance : FldV Try.prog 45 1 1 1 true := ⟨22, by kernel_rfl, by rw [if_pos rfl]; exact ⟨by kernel_rfl, rfl⟩⟩
instance : FldT Try.prog 45 2 2 1 := ⟨3, by kernel_rfl⟩
instance : FldV Try.prog 45 2 2 1 true := ⟨3, by kernel_rfl, by rw [if_pos rfl]; exact ⟨by kernel_rfl, rfl⟩⟩
instance : FldT Try.prog 45 3 3 1 := ⟨5, by kernel_rfl⟩
instance : FldV Try.prog 45 3 3 1 true := ⟨5, by kernel_rfl, by rw [if_pos rfl]; exact ⟨by kernel_rfl, rfl⟩⟩
instance : RowT Try.prog 46 4 := ⟨by kernel_rfl, by kernel_rfl⟩
instance : IfaceT Try.prog 46 := ⟨by kernel_rfl⟩
instance : FldT Try.prog 46 0 0 1 := ⟨22, by kernel_rfl⟩
instance : FldV Try.prog 46 0 0 1 true := ⟨22, by kernel_rfl, by rw [if_pos rfl]; exact ⟨by kernel_rfl, rfl⟩⟩
instance : FldT Try.prog 46 1 1 1 := ⟨22, by kernel_rfl⟩
instance : FldV Try.prog 46 1 1 1 true := ⟨22, by kernel_rfl, by rw [if_pos rfl]; exact ⟨by kernel_rfl, rfl⟩⟩
instance : FldT Try.prog 46 2 2 1 := ⟨3, by kernel_rfl⟩
instance : FldV Try.prog 46 2 2 1 true := ⟨3, by kernel_rfl, by rw [if_pos rfl]; exact ⟨by kernel_rfl, rfl⟩⟩
instance : FldT Try.prog 46 3 3 1 := ⟨5, by kernel_rfl⟩
instance : FldV Try.prog 46 3 3 1 true := ⟨5, by kernel_rfl, by rw [if_pos rfl]; exact ⟨by kernel_rfl, rfl⟩⟩
instance : OneT Try.prog 47 := ⟨by kernel_rfl, by kernel_rfl⟩
instance : ZeroT Try.prog 47 #[.nilFunc] := ⟨by kernel_rfl⟩
instance : IfaceT Try.prog 47 := ⟨by kernel_rfl⟩
instance : OneT Try.prog 48 := ⟨by kernel_rfl, by kernel_rfl⟩
instance : ZeroT Try.prog 48 #[.nilFunc] := ⟨by kernel_rfl⟩
instance : IfaceT Try.prog 48 := ⟨by kernel_rfl⟩
instance : OneT Try.prog 49 := ⟨by kernel_rfl, by kernel_rfl⟩
instance : ZeroT Try.prog 49 #[.int .u64 0] := ⟨by kernel_rfl⟩
instance : IntT Try.prog 49 .u64 := ⟨by kernel_rfl⟩
instance : IfaceT Try.prog 49 := ⟨by kernel_rfl⟩
instance : OneT Try.prog 50 := ⟨by kernel_rfl, by kernel_rfl⟩
instance : ZeroT Try.prog 50 #[.nilFunc] := ⟨by kernel_rfl⟩
instance : IfaceT Try.prog 50 := ⟨by kernel_rfl⟩
instance : OneT Try.prog 51 := ⟨by kernel_rfl, by kernel_rfl⟩
instance : ZeroT Try.prog 51 #[.nilFunc] := ⟨by kernel_rfl⟩
instance : IfaceT Try.prog 51 := ⟨by kernel_rfl⟩
instance : OneT Try.prog 52 := ⟨by kernel_rfl, by kernel_rfl⟩
instance : ZeroT Try.prog 52 #[.nilFunc] := ⟨by kernel_rfl⟩
instance : IfaceT Try.prog 52 := ⟨by kernel_rfl⟩
instance : OneT Try.prog 53 := ⟨by kernel_rfl, by kernel_rfl⟩
instance : ZeroT Try.prog 53 #[.nilFunc] := ⟨by kernel_rfl⟩
instance : IfaceT Try.prog 53 := ⟨by kernel_rfl⟩
instance : OneT Try.prog 54 := ⟨by kernel_rfl, by kernel_rfl⟩
instance : ElT Try.prog 54 16 := ⟨by kernel_rfl⟩
instance : SlT Try.prog 54 61 16 16 := ⟨by kernel_rfl⟩
instance : ZeroT Try.prog 54 #[.slice none 0 0] := ⟨by kernel_rfl⟩
instance : IfaceT Try.prog 54 := ⟨by kernel_rfl⟩
instance : OneT Try.prog 55 := ⟨by kernel_rfl, by kernel_rfl⟩
instance : OneT Try.prog 56 := ⟨by kernel_rfl, by kernel_rfl⟩
instance : ZeroT Try.prog 56 #[.nilFunc] := ⟨by kernel_rfl⟩
instance : IfaceT Try.prog 56 := ⟨by kernel_rfl⟩
instance : OneT Try.prog 57 := ⟨by kernel_rfl, by kernel_rfl⟩
instance : ZeroT Try.prog 57 #[.nilFunc] := ⟨by kernel_rfl⟩
instance : IfaceT Try.prog 57 := ⟨by kernel_rfl⟩
instance : OneT Try.prog 58 := ⟨by kernel_rfl, by kernel_rfl⟩
instance : ZeroT Try.prog 58 #[.nilFunc] := ⟨by kernel_rfl⟩
instance : IfaceT Try.prog 58 := ⟨by kernel_rfl⟩
instance : OneT Try.prog 59 := ⟨by kernel_rfl, by kernel_rfl⟩
instance : ZeroT Try.prog 59 #[.int .u64 0] := ⟨by kernel_rfl⟩
instance : IntT Try.prog 59 .u64 := ⟨by kernel_rfl⟩
instance : IfaceT Try.prog 59 := ⟨by kernel_rfl⟩
instance : RowT Try.prog 60 16 := ⟨by kernel_rfl, by kernel_rfl⟩
instance : ArT Try.prog 60 16 1 := ⟨by kernel_rfl⟩
instance : ZeroT Try.prog 60 (bvs (zs 16)) := ⟨by kernel_rfl⟩
instance : IfaceT Try.prog 60 := ⟨by kernel_rfl⟩
instance : RowT Try.prog 61 16 := ⟨by kernel_rfl, by kernel_rfl⟩
instance : ArT Try.prog 61 16 1 := ⟨by kernel_rfl⟩
instance : ZeroT Try.prog 61 (bvs (zs 16)) := ⟨by kernel_rfl⟩
instance : IfaceT Try.prog 61 := ⟨by kernel_rfl⟩
instance : OneT Try.prog 62 := ⟨by kernel_rfl, by kernel_rfl⟩
instance : ZeroT Try.prog 62 #[.nilFunc] := ⟨by kernel_rfl⟩
instance : IfaceT Try.prog 62 := ⟨by kernel_rfl⟩
instance : OneT Try.prog 63 := ⟨by kernel_rfl, by kernel_rfl⟩
instance : ZeroT Try.prog 63 #[.nilFunc] := ⟨by kernel_rfl⟩
instance : IfaceT Try.prog 63 := ⟨by kernel_rfl⟩
instance : OneT Try.prog 64 := ⟨by kernel_rfl, by kernel_rfl⟩
instance : ZeroT Try.prog 64 #[.nilFunc] := ⟨by kernel_rfl⟩
instance : IfaceT Try.prog 64 := ⟨by kernel_rfl⟩
instance : OneT Try.prog 65 := ⟨by kernel_rfl, by kernel_rfl⟩
instance : OneT Try.prog 66 := ⟨by kernel_rfl, by kernel_rfl⟩
instance : ZeroT Try.prog 66 #[.nilFunc] := ⟨by kernel_rfl⟩
instance : IfaceT Try.prog 66 := ⟨by kernel_rfl⟩
instance : OneT Try.prog 67 := ⟨by kernel_rfl, by kernel_rfl⟩
instance : OneT Try.prog 68 := ⟨by kernel_rfl, by kernel_rfl⟩
instance : ZeroT Try.prog 68 #[.pointer none] := ⟨by kernel_rfl⟩
instance : IfaceT Try.prog 68 := ⟨by kernel_rfl⟩
instance : OneT Try.prog 69 := ⟨by kernel_rfl, by kernel_rfl⟩
instance : OneT Try.prog 70 := ⟨by kernel_rfl, by kernel_rfl⟩
instance : ZeroT Try.prog 70 #[.nilFunc] := ⟨by kernel_rfl⟩
instance : IfaceT Try.prog 70 := ⟨by kernel_rfl⟩
instance : OneT Try.prog 71 := ⟨by kernel_rfl, by kernel_rfl⟩
instance : ZeroT Try.prog 71 #[.nilFunc] := ⟨by kernel_rfl⟩
instance : IfaceT Try.prog 71 := ⟨by kernel_rfl⟩
instance : OneT Try.prog 72 := ⟨by kernel_rfl, by kernel_rfl⟩
instance : OneT Try.prog 73 := ⟨by kernel_rfl, by kernel_rfl⟩
instance : ZeroT Try.prog 73 #[.nilFunc] := ⟨by kernel_rfl⟩
instance : IfaceT Try.prog 73 := ⟨by kernel_rfl⟩
instance : OneT Try.prog 74 := ⟨by kernel_rfl, by kernel_rfl⟩
instance : ZeroT Try.prog 74 #[.nilFunc] := ⟨by kernel_rfl⟩
instance : IfaceT Try.prog 74 := ⟨by kernel_rfl⟩
instance : OneT Try.prog 75 := ⟨by kernel_rfl, by kernel_rfl⟩
instance : OneT Try.prog 76 := ⟨by kernel_rfl, by kernel_rfl⟩
instance : ZeroT Try.prog 76 #[.nilFunc] := ⟨by kernel_rfl⟩
instance : IfaceT Try.prog 76 := ⟨by kernel_rfl⟩
instance : OneT Try.prog 77 := ⟨by kernel_rfl, by kernel_rfl⟩
instance : ZeroT Try.prog 77 #[.nilFunc] := ⟨by kernel_rfl⟩
instance : IfaceT Try.prog 77 := ⟨by kernel_rfl⟩
instance : OneT Try.prog 78 := ⟨by kernel_rfl, by kernel_rfl⟩
instance : ZeroT Try.prog 78 #[.nilFunc] := ⟨by kernel_rfl⟩
instance : IfaceT Try.prog 78 := ⟨by kernel_rfl⟩
instance : OneT Try.prog 79 := ⟨by kernel_rfl, by kernel_rfl⟩
instance : ZeroT Try.prog 79 #[.nilFunc] := ⟨by kernel_rfl⟩
instance : IfaceT Try.prog 79 := ⟨by kernel_rfl⟩
instance : OneT Try.prog 80 := ⟨by kernel_rfl, by kernel_rfl⟩
instance : ZeroT Try.prog 80 #[.nilFunc] := ⟨by kernel_rfl⟩
instance : IfaceT Try.prog 80 := ⟨by kernel_rfl⟩
instance : OneT Try.prog 81 := ⟨by kernel_rfl, by kernel_rfl⟩
instance : ZeroT Try.prog 81 #[.nilFunc] := ⟨by kernel_rfl⟩
instance : IfaceT Try.prog 81 := ⟨by kernel_rfl⟩
instance : OneT Try.prog 82 := ⟨by kernel_rfl, by kernel_rfl⟩
instance : ElT Try.prog 82 4 := ⟨by kernel_rfl⟩
instance : SlT Try.prog 82 83 4 4 := ⟨by kernel_rfl⟩
instance : ZeroT Try.prog 82 #[.slice none 0 0] := ⟨by kernel_rfl⟩
instance : IfaceT Try.prog 82 := ⟨by kernel_rfl⟩
instance : RowT Try.prog 83 4 := ⟨by kernel_rfl, by kernel_rfl⟩
instance : ArT Try.prog 83 4 1 := ⟨by kernel_rfl⟩
instance : ZeroT Try.prog 83 (bvs (zs 4)) := ⟨by kernel_rfl⟩
instance : IfaceT Try.prog 83 := ⟨by kernel_rfl⟩
instance : OneT Try.prog 84 := ⟨by kernel_rfl, by kernel_rfl⟩
instance : ZeroT Try.prog 84 #[.nilFunc] := ⟨by kernel_rfl⟩
instance : IfaceT Try.prog 84 := ⟨by kernel_rfl⟩
instance : OneT Try.prog 85 := ⟨by kernel_rfl, by kernel_rfl⟩
instance : ZeroT Try.prog 85 #[.nilFunc] := ⟨by kernel_rfl⟩
instance : IfaceT Try.prog 85 := ⟨by kernel_rfl⟩
instance : OneT Try.prog 86 := ⟨by kernel_rfl, by kernel_rfl⟩
instance : ZeroT Try.prog 86 #[.nilFunc] := ⟨by kernel_rfl⟩
instance : IfaceT Try.prog 86 := ⟨by kernel_rfl⟩
instance : OneT Try.prog 87 := ⟨by kernel_rfl, by kernel_rfl⟩
instance : ZeroT Try.prog 87 #[.nilFunc] := ⟨by kernel_rfl⟩
instance : IfaceT Try.prog 87 := ⟨by kernel_rfl⟩
instance : OneT Try.prog 88 := ⟨by kernel_rfl, by kernel_rfl⟩
instance : ZeroT Try.prog 88 #[.nilFunc] := ⟨by kernel_rfl⟩
instance : IfaceT Try.prog 88 := ⟨by kernel_rfl⟩
instance : OneT Try.prog 89 := ⟨by kernel_rfl, by kernel_rfl⟩
instance : ZeroT Try.prog 89 #[.nilFunc] := ⟨by kernel_rfl⟩
instance : IfaceT Try.prog 89 := ⟨by kernel_rfl⟩
instance : RowT Try.prog 90 256 := ⟨by kernel_rfl, by kernel_rfl⟩
instance : ArT Try.prog 90 256 1 := ⟨by kernel_rfl⟩
instance : ZeroT Try.prog 90 (bvs (zs 256)) := ⟨by kernel_rfl⟩
instance : IfaceT Try.prog 90 := ⟨by kernel_rfl⟩
instance : OneT Try.prog 91 := ⟨by kernel_rfl, by kernel_rfl⟩
instance : ZeroT Try.prog 91 #[.nilFunc] := ⟨by kernel_rfl⟩
instance : IfaceT Try.prog 91 := ⟨by kernel_rfl⟩
instance : OneT Try.prog 92 := ⟨by kernel_rfl, by kernel_rfl⟩
instance : ZeroT Try.prog 92 #[.nilFunc] := ⟨by kernel_rfl⟩
instance : IfaceT Try.prog 92 := ⟨by kernel_rfl⟩
instance : RowT Try.prog 93 18 := ⟨by kernel_rfl, by kernel_rfl⟩
instance : IfaceT Try.prog 93 := ⟨by kernel_rfl⟩
instance : FldT Try.prog 93 0 0 1 := ⟨54, by kernel_rfl⟩
instance : FldV Try.prog 93 0 0 1 true := ⟨54, by kernel_rfl, by rw [if_pos rfl]; exact ⟨by kernel_rfl, rfl⟩⟩
instance : FldT Try.prog 93 1 1 1 := ⟨63, by kernel_rfl⟩
instance : FldV Try.prog 93 1 1 1 true := ⟨63, by kernel_rfl, by rw [if_pos rfl]; exact ⟨by kernel_rfl, rfl⟩⟩
instance : FldT Try.prog 93 2 2 16 := ⟨61, by kernel_rfl⟩
instance : FldV Try.prog 93 2 2 16 false := ⟨61, by kernel_rfl, by rw [if_neg (by decide)]; exact by kernel_rfl⟩
instance : RowT Try.prog 94 18 := ⟨by kernel_rfl, by kernel_rfl⟩
instance : IfaceT Try.prog 94 := ⟨by kernel_rfl⟩
instance : FldT Try.prog 94 0 0 1 := ⟨54, by kernel_rfl⟩
instance : FldV Try.prog 94 0 0 1 true := ⟨54, by kernel_rfl, by rw [if_pos rfl]; exact ⟨by kernel_rfl, rfl⟩⟩
instance : FldT Try.prog 94 1 1 1 := ⟨63, by kernel_rfl⟩
instance : FldV Try.prog 94 1 1 1 true := ⟨63, by kernel_rfl, by rw [if_pos rfl]; exact ⟨by kernel_rfl, rfl⟩⟩
instance : FldT Try.prog 94 2 2 16 := ⟨61, by kernel_rfl⟩
instance : FldV Try.prog 94 2 2 16 false := ⟨61, by kernel_rfl, by rw [if_neg (by decide)]; exact by kernel_rfl⟩
instance : RowT Try.prog 95 32 := ⟨by kernel_rfl, by kernel_rfl⟩
instance : ArT Try.prog 95 2 16 := ⟨by kernel_rfl⟩
instance : IfaceT Try.prog 95 := ⟨by kernel_rfl⟩
instance : OneT Try.prog 96 := ⟨by kernel_rfl, by kernel_rfl⟩
instance : ZeroT Try.prog 96 #[.nilFunc] := ⟨by kernel_rfl⟩
instance : IfaceT Try.prog 96 := ⟨by kernel_rfl⟩
instance : OneT Try.prog 97 := ⟨by kernel_rfl, by kernel_rfl⟩
instance : ZeroT Try.prog 97 #[.nilFunc] := ⟨by kernel_rfl⟩
instance : IfaceT Try.prog 97 := ⟨by kernel_rfl⟩
instance : OneT Try.prog 98 := ⟨by kernel_rfl, by kernel_rfl⟩
instance : ZeroT Try.prog 98 #[.nilFunc] := ⟨by kernel_rfl⟩
instance : IfaceT Try.prog 98 := ⟨by kernel_rfl⟩
instance : OneT Try.prog 99 := ⟨by kernel_rfl, by kernel_rfl⟩
instance : ZeroT Try.prog 99 #[.nilFunc] := ⟨by kernel_rfl⟩
instance : IfaceT Try.prog 99 := ⟨by kernel_rfl⟩
instance : OneT Try.prog 100 := ⟨by kernel_rfl, by kernel_rfl⟩
instance : ZeroT Try.prog 100 #[.nilFunc] := ⟨by kernel_rfl⟩
instance : IfaceT Try.prog 100 := ⟨by kernel_rfl⟩
instance : OneT Try.prog 101 := ⟨by kernel_rfl, by kernel_rfl⟩
instance : ZeroT Try.prog 101 #[.nilFunc] := ⟨by kernel_rfl⟩
instance : IfaceT Try.prog 101 := ⟨by kernel_rfl⟩
instance : OneT Try.prog 102 := ⟨by kernel_rfl, by kernel_rfl⟩
instance : ZeroT Try.prog 102 #[.nilFunc] := ⟨by kernel_rfl⟩
instance : IfaceT Try.prog 102 := ⟨by kernel_rfl⟩
instance : OneT Try.prog 103 := ⟨by kernel_rfl, by kernel_rfl⟩
instance : ZeroT Try.prog 103 #[.nilFunc] := ⟨by kernel_rfl⟩
instance : IfaceT Try.prog 103 := ⟨by kernel_rfl⟩
instance : RowT Try.prog 104 16 := ⟨by kernel_rfl, by kernel_rfl⟩
instance : ArT Try.prog 104 4 4 := ⟨by kernel_rfl⟩
instance : IfaceT Try.prog 104 := ⟨by kernel_rfl⟩
instance : OneT Try.prog 105 := ⟨by kernel_rfl, by kernel_rfl⟩
instance : ZeroT Try.prog 105 #[.nilFunc] := ⟨by kernel_rfl⟩
instance : IfaceT Try.prog 105 := ⟨by kernel_rfl⟩
instance : OneT Try.prog 106 := ⟨by kernel_rfl, by kernel_rfl⟩
instance : ZeroT Try.prog 106 #[.nilFunc] := ⟨by kernel_rfl⟩
instance : IfaceT Try.prog 106 := ⟨by kernel_rfl⟩
instance : RowT Try.prog 107 129 := ⟨by kernel_rfl, by kernel_rfl⟩
instance : ArT Try.prog 107 129 1 := ⟨by kernel_rfl⟩
instance : IfaceT Try.prog 107 := ⟨by kernel_rfl⟩
instance : OneT Try.prog 108 := ⟨by kernel_rfl, by kernel_rfl⟩
instance : ZeroT Try.prog 108 #[.nilFunc] := ⟨by kernel_rfl⟩
instance : IfaceT Try.prog 108 := ⟨by kernel_rfl⟩
instance : OneT Try.prog 109 := ⟨by kernel_rfl, by kernel_rfl⟩
instance : ElT Try.prog 109 1 := ⟨by kernel_rfl⟩
instance : SlT Try.prog 109 3 1 8 := ⟨by kernel_rfl⟩
instance : ZeroT Try.prog 109 #[.slice none 0 0] := ⟨by kernel_rfl⟩
instance : IfaceT Try.prog 109 := ⟨by kernel_rfl⟩
instance : OneT Try.prog 110 := ⟨by kernel_rfl, by kernel_rfl⟩
instance : OneT Try.prog 111 := ⟨by kernel_rfl, by kernel_rfl⟩
instance : ZeroT Try.prog 111 #[.nilFunc] := ⟨by kernel_rfl⟩
instance : IfaceT Try.prog 111 := ⟨by kernel_rfl⟩
instance : OneT Try.prog 112 := ⟨by kernel_rfl, by kernel_rfl⟩
instance : ZeroT Try.prog 112 #[.nilFunc] := ⟨by kernel_rfl⟩
instance : IfaceT Try.prog 112 := ⟨by kernel_rfl⟩
instance : OneT Try.prog 113 := ⟨by kernel_rfl, by kernel_rfl⟩
instance : ZeroT Try.prog 113 #[.nilFunc] := ⟨by kernel_rfl⟩
instance : IfaceT Try.prog 113 := ⟨by kernel_rfl⟩
instance : RowT Try.prog 114 15 := ⟨by kernel_rfl, by kernel_rfl⟩
instance : ArT Try.prog 114 15 1 := ⟨by kernel_rfl⟩
instance : IfaceT Try.prog 114 := ⟨by kernel_rfl⟩
instance : OneT Try.prog 115 := ⟨by kernel_rfl, by kernel_rfl⟩
instance : ZeroT Try.prog 115 #[.nilFunc] := ⟨by kernel_rfl⟩
instance : IfaceT Try.prog 115 := ⟨by kernel_rfl⟩
instance : OneT Try.prog 116 := ⟨by kernel_rfl, by kernel_rfl⟩
instance : ZeroT Try.prog 116 #[.nilFunc] := ⟨by kernel_rfl⟩
instance : IfaceT Try.prog 116 := ⟨by kernel_rfl⟩
instance : RowT Try.prog 117 4 := ⟨by kernel_rfl, by kernel_rfl⟩
instance : IfaceT Try.prog 117 := ⟨by kernel_rfl⟩
instance : FldT Try.prog 117 0 0 1 := ⟨17, by kernel_rfl⟩
instance : FldV Try.prog 117 0 0 1 true := ⟨17, by kernel_rfl, by rw [if_pos rfl]; exact ⟨by kernel_rfl, rfl⟩⟩
instance : FldT Try.prog 117 1 1 1 := ⟨17, by kernel_rfl⟩
instance : FldV Try.prog 117 1 1 1 true := ⟨17, by kernel_rfl, by rw [if_pos rfl]; exact ⟨by kernel_rfl, rfl⟩⟩
instance : FldT Try.prog 117 2 2 1 := ⟨17, by kernel_rfl⟩
instance : FldV Try.prog 117 2 2 1 true := ⟨17, by kernel_rfl, by rw [if_pos rfl]; exact ⟨by kernel_rfl, rfl⟩⟩
instance : FldT Try.prog 117 3 3 1 := ⟨9, by kernel_rfl⟩
instance : FldV Try.prog 117 3 3 1 true := ⟨9, by kernel_rfl, by rw [if_pos rfl]; exact ⟨by kernel_rfl, rfl⟩⟩
instance : RowT Try.prog 118 4 := ⟨by kernel_rfl, by kernel_rfl⟩
instance : IfaceT Try.prog 118 := ⟨by kernel_rfl⟩
instance : FldT Try.prog 118 0 0 1 := ⟨17, by kernel_rfl⟩
instance : FldV Try.prog 118 0 0 1 true := ⟨17, by kernel_rfl, by rw [if_pos rfl]; exact ⟨by kernel_rfl, rfl⟩⟩
instance : FldT Try.prog 118 1 1 1 := ⟨17, by kernel_rfl⟩
instance : FldV Try.prog 118 1 1 1 true := ⟨17, by kernel_rfl, by rw [if_pos rfl]; exact ⟨by kernel_rfl, rfl⟩⟩
instance : FldT Try.prog 118 2 2 1 := ⟨17, by kernel_rfl⟩
instance : FldV Try.prog 118 2 2 1 true := ⟨17, by kernel_rfl, by rw [if_pos rfl]; exact ⟨by kernel_rfl, rfl⟩⟩
instance : FldT Try.prog 118 3 3 1 := ⟨9, by kernel_rfl⟩
instance : FldV Try.prog 118 3 3 1 true := ⟨9, by kernel_rfl, by rw [if_pos rfl]; exact ⟨by kernel_rfl, rfl⟩⟩
instance : IfaceT Try.prog 119 := ⟨by kernel_rfl⟩
instance : IfaceT Try.prog 120 := ⟨by kernel_rfl⟩
instance : IfaceT Try.prog 121 := ⟨by kernel_rfl⟩
instance : OneT Try.prog 122 := ⟨by kernel_rfl, by kernel_rfl⟩
instance : ZeroT Try.prog 122 #[.nilFunc] := ⟨by kernel_rfl⟩
instance : IfaceT Try.prog 122 := ⟨by kernel_rfl⟩
instance : OneT Try.prog 123 := ⟨by kernel_rfl, by kernel_rfl⟩
instance : ZeroT Try.prog 123 #[.int .u32 0] := ⟨by kernel_rfl⟩
instance : IntT Try.prog 123 .u32 := ⟨by kernel_rfl⟩
instance : IfaceT Try.prog 123 := ⟨by kernel_rfl⟩
instance : OneT Try.prog 124 := ⟨by kernel_rfl, by kernel_rfl⟩
instance : ZeroT Try.prog 124 #[.int .u8 0] := ⟨by kernel_rfl⟩
instance : IntT Try.prog 124 .u8 := ⟨by kernel_rfl⟩
instance : IfaceT Try.prog 124 := ⟨by kernel_rfl⟩
instance : OneT Try.prog 125 := ⟨by kernel_rfl, by kernel_rfl⟩
instance : ZeroT Try.prog 125 #[.int .u8 0] := ⟨by kernel_rfl⟩
instance : IntT Try.prog 125 .u8 := ⟨by kernel_rfl⟩
instance : IfaceT Try.prog 125 := ⟨by kernel_rfl⟩
instance : OneT Try.prog 126 := ⟨by kernel_rfl, by kernel_rfl⟩
instance : ZeroT Try.prog 126 #[.nilFunc] := ⟨by kernel_rfl⟩
instance : IfaceT Try.prog 126 := ⟨by kernel_rfl⟩
instance : OneT Try.prog 127 := ⟨by kernel_rfl, by kernel_rfl⟩
instance : ZeroT Try.prog 127 #[.pointer none] := ⟨by kernel_rfl⟩
instance : IfaceT Try.prog 127 := ⟨by kernel_rfl⟩
instance : OneT Try.prog 128 := ⟨by kernel_rfl, by kernel_rfl⟩
instance : ZeroT Try.prog 128 #[.int .i32 0] := ⟨by kernel_rfl⟩
instance : IntT Try.prog 128 .i32 := ⟨by kernel_rfl⟩
instance : IfaceT Try.prog 128 := ⟨by kernel_rfl⟩
instance : OneT Try.prog 129 := ⟨by kernel_rfl, by kernel_rfl⟩
instance : ZeroT Try.prog 129 #[.int .i32 0] := ⟨by kernel_rfl⟩
instance : IntT Try.prog 129 .i32 := ⟨by kernel_rfl⟩
instance : IfaceT Try.prog 129 := ⟨by kernel_rfl⟩
instance : RowT Try.prog 130 11 := ⟨by kernel_rfl, by kernel_rfl⟩
instance : IfaceT Try.prog 130 := ⟨by kernel_rfl⟩
instance : FldT Try.prog 130 0 0 1 := ⟨12, by kernel_rfl⟩
instance : FldV Try.prog 130 0 0 1 true := ⟨12, by kernel_rfl, by rw [if_pos rfl]; exact ⟨by kernel_rfl, rfl⟩⟩
instance : FldT Try.prog 130 1 1 1 := ⟨12, by kernel_rfl⟩
instance : FldV Try.prog 130 1 1 1 true := ⟨12, by kernel_rfl, by rw [if_pos rfl]; exact ⟨by kernel_rfl, rfl⟩⟩
instance : FldT Try.prog 130 2 2 1 := ⟨123, by kernel_rfl⟩
instance : FldV Try.prog 130 2 2 1 true := ⟨123, by kernel_rfl, by rw [if_pos rfl]; exact ⟨by kernel_rfl, rfl⟩⟩
instance : FldT Try.prog 130 3 3 1 := ⟨124, by kernel_rfl⟩
instance : FldV Try.prog 130 3 3 1 true := ⟨124, by kernel_rfl, by rw [if_pos rfl]; exact ⟨by kernel_rfl, rfl⟩⟩
instance : FldT Try.prog 130 4 4 1 := ⟨5, by kernel_rfl⟩
instance : FldV Try.prog 130 4 4 1 true := ⟨5, by kernel_rfl, by rw [if_pos rfl]; exact ⟨by kernel_rfl, rfl⟩⟩
instance : FldT Try.prog 130 5 5 1 := ⟨5, by kernel_rfl⟩
instance : FldV Try.prog 130 5 5 1 true := ⟨5, by kernel_rfl, by rw [if_pos rfl]; exact ⟨by kernel_rfl, rfl⟩⟩
instance : FldT Try.prog 130 6 6 1 := ⟨125, by kernel_rfl⟩
instance : FldV Try.prog 130 6 6 1 true := ⟨125, by kernel_rfl, by rw [if_pos rfl]; exact ⟨by kernel_rfl, rfl⟩⟩
instance : FldT Try.prog 130 7 7 1 := ⟨126, by kernel_rfl⟩
instance : FldV Try.prog 130 7 7 1 true := ⟨126, by kernel_rfl, by rw [if_pos rfl]; exact ⟨by kernel_rfl, rfl⟩⟩
instance : FldT Try.prog 130 8 8 1 := ⟨127, by kernel_rfl⟩
instance : FldV Try.prog 130 8 8 1 true := ⟨127, by kernel_rfl, by rw [if_pos rfl]; exact ⟨by kernel_rfl, rfl⟩⟩
instance : FldT Try.prog 130 9 9 1 := ⟨128, by kernel_rfl⟩
instance : FldV Try.prog 130 9 9 1 true := ⟨128, by kernel_rfl, by rw [if_pos rfl]; exact ⟨by kernel_rfl, rfl⟩⟩
instance : FldT Try.prog 130 10 10 1 := ⟨129, by kernel_rfl⟩
instance : FldV Try.prog 130 10 10 1 true := ⟨129, by kernel_rfl, by rw [if_pos rfl]; exact ⟨by kernel_rfl, rfl⟩⟩
instance : RowT Try.prog 131 11 := ⟨by kernel_rfl, by kernel_rfl⟩
instance : IfaceT Try.prog 131 := ⟨by kernel_rfl⟩
instance : FldT Try.prog 131 0 0 1 := ⟨12, by kernel_rfl⟩
instance : FldV Try.prog 131 0 0 1 true := ⟨12, by kernel_rfl, by rw [if_pos rfl]; exact ⟨by kernel_rfl, rfl⟩⟩
instance : FldT Try.prog 131 1 1 1 := ⟨12, by kernel_rfl⟩
instance : FldV Try.prog 131 1 1 1 true := ⟨12, by kernel_rfl, by rw [if_pos rfl]; exact ⟨by kernel_rfl, rfl⟩⟩
instance : FldT Try.prog 131 2 2 1 := ⟨123, by kernel_rfl⟩
instance : FldV Try.prog 131 2 2 1 true := ⟨123, by kernel_rfl, by rw [if_pos rfl]; exact ⟨by kernel_rfl, rfl⟩⟩
instance : FldT Try.prog 131 3 3 1 := ⟨124, by kernel_rfl⟩
instance : FldV Try.prog 131 3 3 1 true := ⟨124, by kernel_rfl, by rw [if_pos rfl]; exact ⟨by kernel_rfl, rfl⟩⟩
instance : FldT Try.prog 131 4 4 1 := ⟨5, by kernel_rfl⟩
instance : FldV Try.prog 131 4 4 1 true := ⟨5, by kernel_rfl, by rw [if_pos rfl]; exact ⟨by kernel_rfl, rfl⟩⟩
instance : FldT Try.prog 131 5 5 1 := ⟨5, by kernel_rfl⟩
instance : FldV Try.prog 131 5 5 1 true := ⟨5, by kernel_rfl, by rw [if_pos rfl]; exact ⟨by kernel_rfl, rfl⟩⟩
instance : FldT Try.prog 131 6 6 1 := ⟨125, by kernel_rfl⟩
instance : FldV Try.prog 131 6 6 1 true := ⟨125, by kernel_rfl, by rw [if_pos rfl]; exact ⟨by kernel_rfl, rfl⟩⟩
instance : FldT Try.prog 131 7 7 1 := ⟨126, by kernel_rfl⟩
instance : FldV Try.prog 131 7 7 1 true := ⟨126, by kernel_rfl, by rw [if_pos rfl]; exact ⟨by kernel_rfl, rfl⟩⟩
instance : FldT Try.prog 131 8 8 1 := ⟨127, by kernel_rfl⟩
instance : FldV Try.prog 131 8 8 1 true := ⟨127, by kernel_rfl, by rw [if_pos rfl]; exact ⟨by kernel_rfl, rfl⟩⟩
instance : FldT Try.prog 131 9 9 1 := ⟨128, by kernel_rfl⟩
instance : FldV Try.prog 131 9 9 1 true := ⟨128, by kernel_rfl, by rw [if_pos rfl]; exact ⟨by kernel_rfl, rfl⟩⟩
instance : FldT Try.prog 131 10 10 1 := ⟨129, by kernel_rfl⟩
instance : FldV Try.prog 131 10 10 1 true := ⟨129, by kernel_rfl, by rw [if_pos rfl]; exact ⟨by kernel_rfl, rfl⟩⟩
instance : OneT Try.prog 132 := ⟨by kernel_rfl, by kernel_rfl⟩
instance : IfaceT Try.prog 132 := ⟨by kernel_rfl⟩
instance : GoF Try.prog 3 := ⟨by kernel_rfl⟩
instance : GoF Try.prog 4 := ⟨by kernel_rfl⟩
instance : GoF Try.prog 5 := ⟨by kernel_rfl⟩
instance : GoF Try.prog 6 := ⟨by kernel_rfl⟩
instance : GoF Try.prog 7 := ⟨by kernel_rfl⟩
instance : GoF Try.prog 8 := ⟨by kernel_rfl⟩
instance : GoF Try.prog 9 := ⟨by kernel_rfl⟩
instance : GoF Try.prog 10 := ⟨by kernel_rfl⟩
instance : GoF Try.prog 11 := ⟨by kernel_rfl⟩
instance : GoF Try.prog 12 := ⟨by kernel_rfl⟩
instance : GoF Try.prog 13 := ⟨by kernel_rfl⟩
instance : GoF Try.prog 14 := ⟨by kernel_rfl⟩
instance : GoF Try.prog 15 := ⟨by kernel_rfl⟩
instance : GoF Try.prog 16 := ⟨by kernel_rfl⟩
instance : GoF Try.prog 17 := ⟨by kernel_rfl⟩
instance : GoF Try.prog 18 := ⟨by kernel_rfl⟩
instance : GoF Try.prog 19 := ⟨by kernel_rfl⟩
instance : GoF Try.prog 20 := ⟨by kernel_rfl⟩
instance : GoF Try.prog 21 := ⟨by kernel_rfl⟩
instance : GoF Try.prog 22 := ⟨by kernel_rfl⟩
instance : GoF Try.prog 23 := ⟨by kernel_rfl⟩
instance : GoF Try.prog 24 := ⟨by kernel_rfl⟩
instance : GoF Try.prog 25 := ⟨by kernel_rfl⟩
instance : GoF Try.prog 26 := ⟨by kernel_rfl⟩
instance : GoF Try.prog 27 := ⟨by kernel_rfl⟩
instance : GoF Try.prog 28 := ⟨by kernel_rfl⟩
instance : GoF Try.prog 29 := ⟨by kernel_rfl⟩
instance : GoF Try.prog 30 := ⟨by kernel_rfl⟩
instance : GoF Try.prog 31 := ⟨by kernel_rfl⟩
instance : GoF Try.prog 32 := ⟨by kernel_rfl⟩
instance : GoF Try.prog 33 := ⟨by kernel_rfl⟩
instance : GoF Try.prog 34 := ⟨by kernel_rfl⟩
instance : GoF Try.prog 35 := ⟨by kernel_rfl⟩
instance : GoF Try.prog 36 := ⟨by kernel_rfl⟩
instance : GoF Try.prog 37 := ⟨by kernel_rfl⟩
instance : GoF Try.prog 38 := ⟨by kernel_rfl⟩
instance : GoF Try.prog 39 := ⟨by kernel_rfl⟩
instance : GoF Try.prog 40 := ⟨by kernel_rfl⟩
instance : GoF Try.prog 41 := ⟨by kernel_rfl⟩
instance : GoF Try.prog 42 := ⟨by kernel_rfl⟩
instance : GoF Try.prog 43 := ⟨by kernel_rfl⟩
instance : GoF Try.prog 44 := ⟨by kernel_rfl⟩
instance : GoF Try.prog 45 := ⟨by kernel_rfl⟩
instance : GoF Try.prog 46 := ⟨by kernel_rfl⟩
instance : GoF Try.prog 47 := ⟨by kernel_rfl⟩
instance : GoF Try.prog 48 := ⟨by kernel_rfl⟩
instance : GoF Try.prog 49 := ⟨by kernel_rfl⟩
instance : GoF Try.prog 50 := ⟨by kernel_rfl⟩
instance : GoF Try.prog 51 := ⟨by kernel_rfl⟩
instance : GoF Try.prog 52 := ⟨by kernel_rfl⟩
instance : GoF Try.prog 53 := ⟨by kernel_rfl⟩
instance : GoF Try.prog 54 := ⟨by kernel_rfl⟩
instance : GoF Try.prog 55 := ⟨by kernel_rfl⟩
instance : GoF Try.prog 56 := ⟨by kernel_rfl⟩
instance : GoF Try.prog 57 := ⟨by kernel_rfl⟩
instance : GoF Try.prog 58 := ⟨by kernel_rfl⟩
instance : GoF Try.prog 59 := ⟨by kernel_rfl⟩
instance : GoF Try.prog 60 := ⟨by kernel_rfl⟩
instance : GoF Try.prog 61 := ⟨by kernel_rfl⟩
instance : GoF Try.prog 62 := ⟨by kernel_rfl⟩
instance : GoF Try.prog 63 := ⟨by kernel_rfl⟩
instance : GoF Try.prog 64 := ⟨by kernel_rfl⟩
instance : GoF Try.prog 65 := ⟨by kernel_rfl⟩
instance : GoF Try.prog 66 := ⟨by kernel_rfl⟩
instance : GoF Try.prog 67 := ⟨by kernel_rfl⟩
instance : GoF Try.prog 68 := ⟨by kernel_rfl⟩
instance : GoF Try.prog 69 := ⟨by kernel_rfl⟩
instance : GoF Try.prog 70 := ⟨by kernel_rfl⟩
instance : GoF Try.prog 71 := ⟨by kernel_rfl⟩
instance : GoF Try.prog 72 := ⟨by kernel_rfl⟩
instance : GoF Try.prog 73 := ⟨by kernel_rfl⟩
instance : GoF Try.prog 74 := ⟨by kernel_rfl⟩
instance : GoF Try.prog 75 := ⟨by kernel_rfl⟩
instance : GoF Try.prog 76 := ⟨by kernel_rfl⟩
instance : GoF Try.prog 77 := ⟨by kernel_rfl⟩
instance : GoF Try.prog 78 := ⟨by kernel_rfl⟩
instance : GoF Try.prog 79 := ⟨by kernel_rfl⟩
instance : GoF Try.prog 80 := ⟨by kernel_rfl⟩
instance : GoF Try.prog 81 := ⟨by kernel_rfl⟩
instance : GoF Try.prog 82 := ⟨by kernel_rfl⟩
instance : GoF Try.prog 83 := ⟨by kernel_rfl⟩
instance : GoF Try.prog 84 := ⟨by kernel_rfl⟩
instance : GoF Try.prog 85 := ⟨by kernel_rfl⟩
instance : GoF Try.prog 87 := ⟨by kernel_rfl⟩

end Go.Proofs.Ytknkkcbihaojhaa

namespace Go.Proofs.Ytknkkcbihaojhaa
open Go.ChangeShapes Go.WideShapes Go.ChangeAt Go.RowKit
/-- What a copy's block holds. -/
def Kp (l : List UInt8) (cap : Nat) (cur : Array Value) : Prop := l.length + 2 ≤ cap ∧ cap ≤ maxLen ∧ cur.size = cap ∧ cur.toList.take (l.length + 2) = (l ++ [165, 90]).map bv
theorem Kp.bytes {l : List UInt8} {cap : Nat} {cur : Array Value} (h : Kp l cap cur) {w : World} {g : Nat} {t : TypeId} {fr : Nat × Nat} (hg : blk w g = some (.cells cur t fr)) : BytesAt w (.slice (some ⟨g, 0, none⟩) l.length cap) l := by
  obtain ⟨h1, h2, h3, h4⟩ := h
  refine ⟨_, cap, rfl, by omega, (fun h => by cases h), fun _ => ⟨g, 0, cur, _, _, rfl, hg, fun i x hi => ?_⟩⟩
  have h5 := congrArg (·[i]?) h4
  have hil : i < l.length := (List.getElem?_eq_some_iff.1 hi).1
  simp only [List.getElem?_take, List.getElem?_map] at h5
  rw [if_pos (by omega), List.getElem?_append_left hil, hi] at h5
  rw [Nat.zero_add]; simpa using h5
theorem copy_g (l : List UInt8) (v : Value) (w : World) (hv : BytesAt w v l) (hn : l.length ≤ 1000000000) : Calls Try.prog 12 #[v] w fun e w' =>
    ∃ ga gb cap cur, e = .returned (.slice (some ⟨w.heap.size + ga.n, 0, none⟩) l.length cap) ∧ Kp l cap cur ∧ w' = grow ((grow w ga).alloc (.cells cur 5)) gb := by
  refine (copy_any l v w hv hn).mono ?_
  rintro e w' ⟨g, cap, cur, rfl, h1, h2, h3, h4, h5, h6, h7⟩
  obtain ⟨gg, rfl⟩ := grow_of h7
  obtain ⟨ga, gb, he, rfl⟩ := grow_split h1 h4
  exact ⟨ga, gb, cap, cur, rfl, ⟨h2, h3, h5, h6⟩, he⟩
theorem kept_g (l : List UInt8) (cap : Nat) (cur : Array Value) (hK : Kp l cap cur) (g : Nat) (v : Value) (w : World) (hg : blk w g = some (.cells cur 5 (0, 0))) (hv : BytesAt w v l) (hn : l.length ≤ 1000000000) :
    Calls Try.prog 16 #[.slice (some ⟨g, 0, none⟩) l.length cap, v] w fun e w' => e = .returned (.bool true) ∧ Below w.heap.size w w' :=
  kept_any l g cap cur v w hg hK.2.2.1 hK.1 hK.2.2.2 hv hn hK.2.1
end Go.Proofs.Ytknkkcbihaojhaa

namespace Go.Proofs.Ytknkkcbihaojhaa
open Go.ChangeShapes Go.WideShapes Go.ChangeAt Go.RowKit
attribute [local irreducible] wpList wpListIn
section
variable {P : Program} {ops : Array Oper} {W : List Oper → Act → World → Prop} {o : Oper} {rest : List Oper} {a : Act} {w : World} {v : Value} {B : Nat} {H : World → List Blk → Prop} {L : List Blk}
theorem s_appendR {x y : Operand} {t e size bytes b n c m c2 i nm : Nat} {q : Addr} {cs : Array Value} {olds spare xs : List Value} (hs : Stp P ops W) (hH : Own B H) (hS : H w L) (hw : Region.wanted o (yielded ops a.tmps) = true)
    (hop : o.op = .call { callee := .builtin .append, args := #[x, y], argTypes := #[t, t] }) (hx : evO a x = some (.slice (some ⟨b, 0, none⟩) n c)) (hy : evO a y = some (.slice (some q) m c2)) (hT : SlT P t e size bytes)
    (hi : L[i]? = some (b, cs, e)) (hcs : cs.toList = olds ++ spare) (ho : olds.length = n * size) (hsp : spare.length = (c - n) * size) (hsrc : ∀ j v, xs[j]? = some v → w.cell? (q.add j) = some v) (hxs : xs.length = m * size) (hone : ∀ v ∈ xs, v.oneCell' = true)
    (hroom : n + m ≤ c) (hnm : n + m = nm)
    (hk : ∀ w', H w' (L.set i (b, (olds ++ xs ++ spare.drop xs.length).toArray, e)) → W rest (a.put o.dst (.slice (some ⟨b, 0, none⟩) nm c)) w') : W (o :: rest) a w := by
  subst hnm
  obtain ⟨ht, inf, z, hie, hz, hsz, hby, hzs, hpos⟩ := elemB_iff hT.is
  have hd : isDefer o = false := by unfold isDefer; rw [hop]
  have hb := hH.blk i hS hi
  have hcsz : cs.size = olds.length + spare.length := by rw [← Array.length_toList, hcs, List.length_append]
  have hfit : n * inf.size + xs.length ≤ cs.size := by
    rw [hcsz, hsz, ho, hsp, hxs]
    have : m * size ≤ (c - n) * size := Nat.mul_le_mul_right _ (by omega)
    omega
  have hr := run_append_room (P := P) w t o.type e inf ht hie b n c cs hb q m c2 xs (by rw [hsz]; exact hxs) hsrc hone hroom hfit
  refine hs.go hw hd (run_app hop hx hy hr) ?_
  have hrow : (cs.toList.take (n * inf.size) ++ xs ++ cs.toList.drop (n * inf.size + xs.length)).toArray = (olds ++ xs ++ spare.drop xs.length).toArray := by
    rw [hcs, hsz, ← ho, List.take_left, List.drop_append, Nat.add_sub_cancel_left, List.drop_of_length_le (by omega), List.nil_append]
  rw [hrow]
  exact hk _ (hH.setRow i (olds ++ xs ++ spare.drop xs.length).toArray hS hi)
theorem s_appendG {x y : Operand} {t e size bytes b n c m c2 i nm : Nat} {q : Addr} {cs : Array Value} {olds spare xs : List Value} (hs : Stp P ops W) (hH : Own B H) (hS : H w L) (hw : Region.wanted o (yielded ops a.tmps) = true)
    (hop : o.op = .call { callee := .builtin .append, args := #[x, y], argTypes := #[t, t] }) (hx : evO a x = some (.slice (some ⟨b, 0, none⟩) n c)) (hy : evO a y = some (.slice (some q) m c2)) (hT : SlT P t e size bytes)
    (hi : L[i]? = some (b, cs, e)) (hcs : cs.toList = olds ++ spare) (ho : olds.length = n * size) (_hnc : n ≤ c) (hsrc : ∀ j v, xs[j]? = some v → w.cell? (q.add j) = some v) (hxs : xs.length = m * size)
    (hmax : n + m ≤ maxLen ∧ (n + m) * bytes ≤ 140737488355328) (hroom : c < n + m) (hnm : n + m = nm)
    (hk : ∀ (b' c' : Nat) (spare' : List Value) (w' : World), nm ≤ c' → c' ≤ maxLen → spare'.length = (c' - nm) * size → H w' ((b', (olds ++ xs ++ spare').toArray, e) :: L) → W rest (a.put o.dst (.slice (some ⟨b', 0, none⟩) nm c')) w') : W (o :: rest) a w := by
  subst hnm
  obtain ⟨ht, inf, z, hie, hz, hsz, hby, hzs, hpos⟩ := elemB_iff hT.is
  have hd : isDefer o = false := by unfold isDefer; rw [hop]
  have hb := hH.blk i hS hi
  have hr := run_append_grow (P := P) (w := w) t o.type e inf z ht hie hz ⟨b, 0, none⟩ n c olds (by rw [hsz]; exact ho) (fun j u hu => by
    rw [addr_add, Nat.zero_add]
    refine (cell_of_row w b j cs e _ hb).trans ?_
    rw [← Array.getElem?_toList, hcs, List.getElem?_append_left (List.getElem?_eq_some_iff.1 hu).1, hu]) q m c2 xs (by rw [hsz]; exact hxs) hsrc (by omega) (by have := hmax.1; unfold maxLen at this; omega) (growslice_fits (by omega) (by rw [hby]; exact hmax.2))
  have hcap := grownCap_ge w (n + m) c e
  have hcm := grownCap_le_maxLen w (n + m) c e hmax.1
  refine hs.go hw hd (run_app hop hx hy hr) ?_
  generalize grownCap w (n + m) c e = c' at *
  have hcell : olds.toArray ++ xs.toArray ++ Builtin.zeroCells z.cells (c' - (n + m)) = (olds ++ xs ++ (Builtin.zeroCells z.cells (c' - (n + m))).toList).toArray := by
    apply Array.ext'; simp
  rw [hcell]
  have hS1 : H w.drew L := hH.call hS ⟨rfl, rfl, rfl, Nat.le_refl _, fun _ _ => rfl⟩
  have h2 := hH.alloc (olds ++ xs ++ (Builtin.zeroCells z.cells (c' - (n + m))).toList).toArray e hS1
  refine hk _ c' _ _ hcap hcm ?_ h2
  rw [Array.length_toList, size_zeroCells, hzs]
theorem r_appendN {x y : Operand} {t e size bytes n c : Nat} {p : Addr} (hop : o.op = .call { callee := .builtin .append, args := #[x, y], argTypes := #[t, t] }) (hx : evO a x = some (.slice (some p) n c)) (hy : evO a y = some (.slice none 0 0)) (hT : SlT P t e size bytes) (hnc : n ≤ c) : (execOp a.eval o).run P w = .ok (.value (.slice (some p) n c)) w := by
  obtain ⟨ht, inf, z, hie, hz, hsz, hby, hzs, hpos⟩ := elemB_iff hT.is
  exact run_app hop hx hy (by simp [Builtin.append_, run_underlying ht, sizeOf, typeInfo, hie, Builtin.lenOf, Builtin.firstCells, hnc, storeCells])
theorem r_convB {s t : TypeId} {x : Operand} {k ks : IntKind} {n : Int} (N : Nat) (hop : o.op = .convert s t x) (hx : evO a x = some (.int k n)) (hs : IntT P s ks) (ht : IntT P t .u8) (hn : n = (N : Int)) : (execOp a.eval o).run P w = .ok (.value (.int .u8 (((UInt8.ofNat N).toNat : Nat) : Int))) w := by
  have e : IntKind.u8.wrap n = (((UInt8.ofNat N).toNat : Nat) : Int) := by
    subst hn
    have h2 : (UInt8.ofNat N).toNat = N % 256 := by simp
    rw [h2, IntKind.wrap_u8]; omega
  unfold execOp; rw [hop]
  simp only [evO_eval hx, convert, Sem.run_bind, run_underlying hs.is, run_underlying ht.is, Result.andThen_ok, Conv.intToInt, e]
  rfl
end
set_option maxRecDepth 100000 in
set_option maxHeartbeats 1000000 in
theorem copy_x (l : List UInt8) (v : Value) (w0 : World) (hv : BytesAt w0 v l) (hn : l.length ≤ 140737488351232) : Calls Try.prog 12 #[v] w0 fun e w' =>
    ∃ g, e = .returned (.slice (some ⟨g, 0, none⟩) l.length (l.length + 2)) ∧ w0.heap.size ≤ g ∧ blk w' g = some (.cells (bvs (l ++ [165, 90])) 5 (0, 0)) ∧ Below w0.heap.size w0 w' := by
  obtain ⟨p, c, rfl, hc, hp0, hcell⟩ := id hv
  have hS := St.start w0
  go_enter Try.func12, Try.ntmps12
  repeat' (first | ((with_reducible refine cons_list ?_); first | ((first | refine g_skip stp_list ?_ | refine g_move stp_list ?_ | refine g_assign stp_list ?_ | refine g_load1 stp_list own_st hS ?_ | refine g_loadR stp_list own_st hS ?_ | refine g_indexAddr stp_list ?_ | refine g_indexAddrA stp_list ?_ | refine g_len stp_list ?_ | refine g_cap stp_list ?_ | refine g_extract stp_list ?_ | refine g_add stp_list ?_ | refine g_sub stp_list ?_ | refine g_mul stp_list ?_ | refine g_quo stp_list ?_ | refine g_rem stp_list ?_ | refine g_cmp_t stp_list ?_ | refine g_cmp_f stp_list ?_ | refine g_cmp stp_list (fun hc => ?_) (fun hc => ?_) | refine g_neqNil stp_list ?_ | refine g_neqNil0 stp_list ?_ | refine g_eqlNil stp_list ?_ | refine g_eqlNil0 stp_list ?_ | refine g_fieldAddr stp_list ?_ | refine g_field1 stp_list ?_ | refine g_fieldR stp_list ?_ | refine g_eqlSlNil stp_list ?_ | refine g_neqSlNil stp_list ?_ | refine g_makeInterface stp_list ?_ | refine g_makeFunc stp_list ?_ | refine g_conv stp_list ?_ | refine g_pick stp_list ?_ | refine g_not stp_list ?_ | refine g_slice stp_list ?_ | refine g_sliceA stp_list ?_ | refine g_sliceNil stp_list ?_) <;> refine put_in ?_) | ((first | refine g_alloc stp_list own_st hS ?_ | refine g_box stp_list own_st hS ?_ | refine g_build0 stp_list own_st hS ?_ | refine g_build stp_list own_st hS ?_ | refine g_make stp_list own_st hS ?_); clear hS; intro b w hS; refine put_in ?_) | ((first | refine g_store1 stp_list own_st hS ?_ | refine g_storeR stp_list own_st hS ?_); clear hS; intro w hS; refine put_in ?_)) | ((fail_if_success (with_reducible refine cons_list ?_)); first | go_step | go_step3 | rw [Exit.noGoto_normal] | rw [Exit.noGoto_ret] | rw [Exit.noGoto_exit]))
  rcases p with _ | q
  · have hc0 := hp0 rfl
    have hl : l = [] := List.eq_nil_of_length_eq_zero (by omega)
    subst hl
    subst hc0
    refine Stp.go stp_list (by rfl) (by rfl) (r_appendN (by rfl) (by rfl) (by rfl) (by infer_instance) (by omega)) ?_
    refine put_in ?_
    repeat' (first | ((with_reducible refine cons_list ?_); first | ((first | refine g_skip stp_list ?_ | refine g_move stp_list ?_ | refine g_assign stp_list ?_ | refine g_load1 stp_list own_st hS ?_ | refine g_loadR stp_list own_st hS ?_ | refine g_indexAddr stp_list ?_ | refine g_indexAddrA stp_list ?_ | refine g_len stp_list ?_ | refine g_cap stp_list ?_ | refine g_extract stp_list ?_ | refine g_add stp_list ?_ | refine g_sub stp_list ?_ | refine g_mul stp_list ?_ | refine g_quo stp_list ?_ | refine g_rem stp_list ?_ | refine g_cmp_t stp_list ?_ | refine g_cmp_f stp_list ?_ | refine g_cmp stp_list (fun hc => ?_) (fun hc => ?_) | refine g_neqNil stp_list ?_ | refine g_neqNil0 stp_list ?_ | refine g_eqlNil stp_list ?_ | refine g_eqlNil0 stp_list ?_ | refine g_fieldAddr stp_list ?_ | refine g_field1 stp_list ?_ | refine g_fieldR stp_list ?_ | refine g_eqlSlNil stp_list ?_ | refine g_neqSlNil stp_list ?_ | refine g_makeInterface stp_list ?_ | refine g_makeFunc stp_list ?_ | refine g_conv stp_list ?_ | refine g_pick stp_list ?_ | refine g_not stp_list ?_ | refine g_slice stp_list ?_ | refine g_sliceA stp_list ?_ | refine g_sliceNil stp_list ?_) <;> refine put_in ?_) | ((first | refine g_alloc stp_list own_st hS ?_ | refine g_box stp_list own_st hS ?_ | refine g_build0 stp_list own_st hS ?_ | refine g_build stp_list own_st hS ?_ | refine g_make stp_list own_st hS ?_); clear hS; intro b w hS; refine put_in ?_) | ((first | refine g_store1 stp_list own_st hS ?_ | refine g_storeR stp_list own_st hS ?_); clear hS; intro w hS; refine put_in ?_)) | ((fail_if_success (with_reducible refine cons_list ?_)); first | go_step | go_step3 | rw [Exit.noGoto_normal] | rw [Exit.noGoto_ret] | rw [Exit.noGoto_exit]))
    refine s_appendR (i := 1) stp_list own_st hS (by rfl) (by rfl) (by rfl) (by rfl) (by infer_instance) (by exact at_ 1 rfl) (olds := []) (spare := (zs 2).map bv) (by rfl) (by rfl) (by simp [zs_len]) (xs := [.int .u8 165, .int .u8 90]) (src_blk (hS.blk 0 rfl) (fun j v h => by rw [Nat.zero_add]; exact h)) (by rfl) (by intro v hv; simp only [List.mem_cons, List.not_mem_nil, or_false] at hv; rcases hv with rfl | rfl <;> rfl) (by simp) rfl ?_
    clear hS
    intro w hS
    refine put_in ?_
    repeat' (first | ((with_reducible refine cons_list ?_); first | ((first | refine g_skip stp_list ?_ | refine g_move stp_list ?_ | refine g_assign stp_list ?_ | refine g_load1 stp_list own_st hS ?_ | refine g_loadR stp_list own_st hS ?_ | refine g_indexAddr stp_list ?_ | refine g_indexAddrA stp_list ?_ | refine g_len stp_list ?_ | refine g_cap stp_list ?_ | refine g_extract stp_list ?_ | refine g_add stp_list ?_ | refine g_sub stp_list ?_ | refine g_mul stp_list ?_ | refine g_quo stp_list ?_ | refine g_rem stp_list ?_ | refine g_cmp_t stp_list ?_ | refine g_cmp_f stp_list ?_ | refine g_cmp stp_list (fun hc => ?_) (fun hc => ?_) | refine g_neqNil stp_list ?_ | refine g_neqNil0 stp_list ?_ | refine g_eqlNil stp_list ?_ | refine g_eqlNil0 stp_list ?_ | refine g_fieldAddr stp_list ?_ | refine g_field1 stp_list ?_ | refine g_fieldR stp_list ?_ | refine g_eqlSlNil stp_list ?_ | refine g_neqSlNil stp_list ?_ | refine g_makeInterface stp_list ?_ | refine g_makeFunc stp_list ?_ | refine g_conv stp_list ?_ | refine g_pick stp_list ?_ | refine g_not stp_list ?_ | refine g_slice stp_list ?_ | refine g_sliceA stp_list ?_ | refine g_sliceNil stp_list ?_) <;> refine put_in ?_) | ((first | refine g_alloc stp_list own_st hS ?_ | refine g_box stp_list own_st hS ?_ | refine g_build0 stp_list own_st hS ?_ | refine g_build stp_list own_st hS ?_ | refine g_make stp_list own_st hS ?_); clear hS; intro b w hS; refine put_in ?_) | ((first | refine g_store1 stp_list own_st hS ?_ | refine g_storeR stp_list own_st hS ?_); clear hS; intro w hS; refine put_in ?_)) | ((fail_if_success (with_reducible refine cons_list ?_)); first | go_step | go_step3 | rw [Exit.noGoto_normal] | rw [Exit.noGoto_ret] | rw [Exit.noGoto_exit]))
    go_ret
    refine ⟨_, rfl, hS.low 1 rfl, ?_, hS.below⟩
    have hb := hS.blk 1 rfl
    have e3 : ([] ++ [Value.int .u8 165, Value.int .u8 90] ++ List.drop [Value.int .u8 165, Value.int .u8 90].length ((zs 2).map bv)).toArray = bvs ([] ++ [165, 90]) := by
      unfold bvs zs
      simp
      exact ⟨rfl, rfl⟩
    rw [← e3]
    exact hb
  · refine s_appendR (i := 0) stp_list own_st hS (by rfl) (by rfl) (by rfl) (by rfl) (by infer_instance) (by exact at_ 0 rfl) (olds := []) (spare := (zs (l.length + 2)).map bv) (by rfl) (by rfl) (by rw [List.length_map, zs_len]; omega) (hv.below hS.below).srcs (by rw [List.length_map, Nat.mul_one]) (bv_one l) (by omega) (by (try conv => lhs; simp only [Int.toNat_natCast, Int.toNat_zero, Int.toNat_one, Int.reduceToNat, Int.toNat_natCast_add_one, Int.ofNat_eq_natCast, Nat.mul_one, Nat.one_mul, Nat.zero_add, Nat.add_zero, Nat.sub_zero, Nat.zero_mul, Nat.reduceAdd, Nat.reduceMul, Nat.reduceSub]); first | done | rfl) ?_
    clear hS
    intro w hS
    refine put_in ?_
    have e1 : List.drop (l.map bv).length ((zs (l.length + 2)).map bv) = (zs 2).map bv := by
      rw [List.length_map, ← List.map_drop]
      congr 1
      unfold zs
      rw [List.drop_replicate, Nat.add_sub_cancel_left]
    rw [e1] at hS
    have hS : St w0 w [(b, (l.map bv ++ (zs 2).map bv).toArray, 5)] := hS
    repeat' (first | ((with_reducible refine cons_list ?_); first | ((first | refine g_skip stp_list ?_ | refine g_move stp_list ?_ | refine g_assign stp_list ?_ | refine g_load1 stp_list own_st hS ?_ | refine g_loadR stp_list own_st hS ?_ | refine g_indexAddr stp_list ?_ | refine g_indexAddrA stp_list ?_ | refine g_len stp_list ?_ | refine g_cap stp_list ?_ | refine g_extract stp_list ?_ | refine g_add stp_list ?_ | refine g_sub stp_list ?_ | refine g_mul stp_list ?_ | refine g_quo stp_list ?_ | refine g_rem stp_list ?_ | refine g_cmp_t stp_list ?_ | refine g_cmp_f stp_list ?_ | refine g_cmp stp_list (fun hc => ?_) (fun hc => ?_) | refine g_neqNil stp_list ?_ | refine g_neqNil0 stp_list ?_ | refine g_eqlNil stp_list ?_ | refine g_eqlNil0 stp_list ?_ | refine g_fieldAddr stp_list ?_ | refine g_field1 stp_list ?_ | refine g_fieldR stp_list ?_ | refine g_eqlSlNil stp_list ?_ | refine g_neqSlNil stp_list ?_ | refine g_makeInterface stp_list ?_ | refine g_makeFunc stp_list ?_ | refine g_conv stp_list ?_ | refine g_pick stp_list ?_ | refine g_not stp_list ?_ | refine g_slice stp_list ?_ | refine g_sliceA stp_list ?_ | refine g_sliceNil stp_list ?_) <;> refine put_in ?_) | ((first | refine g_alloc stp_list own_st hS ?_ | refine g_box stp_list own_st hS ?_ | refine g_build0 stp_list own_st hS ?_ | refine g_build stp_list own_st hS ?_ | refine g_make stp_list own_st hS ?_); clear hS; intro b w hS; refine put_in ?_) | ((first | refine g_store1 stp_list own_st hS ?_ | refine g_storeR stp_list own_st hS ?_); clear hS; intro w hS; refine put_in ?_)) | ((fail_if_success (with_reducible refine cons_list ?_)); first | go_step | go_step3 | rw [Exit.noGoto_normal] | rw [Exit.noGoto_ret] | rw [Exit.noGoto_exit]))
    refine s_appendR (i := 1) stp_list own_st hS (by rfl) (by rfl) (by rfl) (by rfl) (by infer_instance) (by exact at_ 1 rfl) (olds := l.map bv) (spare := (zs 2).map bv) (by rfl) (by rw [List.length_map, Nat.mul_one]) (by rw [List.length_map, zs_len]; omega) (xs := [.int .u8 165, .int .u8 90]) (src_blk (hS.blk 0 rfl) (fun j v h => by rw [Nat.zero_add]; exact h)) (by rfl) (by intro v hv; simp only [List.mem_cons, List.not_mem_nil, or_false] at hv; rcases hv with rfl | rfl <;> rfl) (by omega) rfl ?_
    clear hS
    intro w hS
    refine put_in ?_
    repeat' (first | ((with_reducible refine cons_list ?_); first | ((first | refine g_skip stp_list ?_ | refine g_move stp_list ?_ | refine g_assign stp_list ?_ | refine g_load1 stp_list own_st hS ?_ | refine g_loadR stp_list own_st hS ?_ | refine g_indexAddr stp_list ?_ | refine g_indexAddrA stp_list ?_ | refine g_len stp_list ?_ | refine g_cap stp_list ?_ | refine g_extract stp_list ?_ | refine g_add stp_list ?_ | refine g_sub stp_list ?_ | refine g_mul stp_list ?_ | refine g_quo stp_list ?_ | refine g_rem stp_list ?_ | refine g_cmp_t stp_list ?_ | refine g_cmp_f stp_list ?_ | refine g_cmp stp_list (fun hc => ?_) (fun hc => ?_) | refine g_neqNil stp_list ?_ | refine g_neqNil0 stp_list ?_ | refine g_eqlNil stp_list ?_ | refine g_eqlNil0 stp_list ?_ | refine g_fieldAddr stp_list ?_ | refine g_field1 stp_list ?_ | refine g_fieldR stp_list ?_ | refine g_eqlSlNil stp_list ?_ | refine g_neqSlNil stp_list ?_ | refine g_makeInterface stp_list ?_ | refine g_makeFunc stp_list ?_ | refine g_conv stp_list ?_ | refine g_pick stp_list ?_ | refine g_not stp_list ?_ | refine g_slice stp_list ?_ | refine g_sliceA stp_list ?_ | refine g_sliceNil stp_list ?_) <;> refine put_in ?_) | ((first | refine g_alloc stp_list own_st hS ?_ | refine g_box stp_list own_st hS ?_ | refine g_build0 stp_list own_st hS ?_ | refine g_build stp_list own_st hS ?_ | refine g_make stp_list own_st hS ?_); clear hS; intro b w hS; refine put_in ?_) | ((first | refine g_store1 stp_list own_st hS ?_ | refine g_storeR stp_list own_st hS ?_); clear hS; intro w hS; refine put_in ?_)) | ((fail_if_success (with_reducible refine cons_list ?_)); first | go_step | go_step3 | rw [Exit.noGoto_normal] | rw [Exit.noGoto_ret] | rw [Exit.noGoto_exit]))
    go_ret
    refine ⟨_, rfl, hS.low 1 rfl, ?_, hS.below⟩
    have hb := hS.blk 1 rfl
    have e3 : (l.map bv ++ [Value.int .u8 165, Value.int .u8 90] ++ List.drop [Value.int .u8 165, Value.int .u8 90].length ((zs 2).map bv)).toArray = bvs (l ++ [165, 90]) := by
      unfold bvs zs
      simp
      exact ⟨rfl, rfl⟩
    rw [← e3]
    exact hb
/-- The bytes of a pattern. -/
def pb (k j : Nat) : UInt8 := UInt8.ofNat (29 * k + 5 * j + 3)
theorem r_convP {P : Program} {o : Oper} {a : Act} {w : World} {s t : TypeId} {x : Operand} {k ks : IntKind} {n : Int} (K J : Nat) (hop : o.op = .convert s t x) (hx : evO a x = some (.int k n)) (hs : IntT P s ks) (ht : IntT P t .u8) (hn : n = ((29 * K + 5 * J + 3 : Nat) : Int)) : (execOp a.eval o).run P w = .ok (.value (.int .u8 (((pb K J).toNat : Nat) : Int))) w := r_convB _ hop hx hs ht hn
def pat (k n : Nat) : List UInt8 := (List.range n).map (pb k)
theorem pat_len (k n : Nat) : (pat k n).length = n := by simp [pat]
theorem pat_zero (k : Nat) : pat k 0 = [] := rfl
theorem pat_succ (k n : Nat) : pat k (n + 1) = pat k n ++ [pb k n] := by simp [pat, List.range_succ]
theorem pat_get (k n j : Nat) (h : j < n) : (pat k n).getD j 0 = pb k j := by
  rw [List.getD_eq_getElem?_getD, List.getElem?_eq_getElem (by rw [pat_len]; exact h)]
  simp [pat]
theorem pat_mark (k j : Nat) (d : Value) (D : List Value) : ((pat k j).map bv ++ d :: D).set j (.int .u8 (((pb k j).toNat : Nat) : Int)) = (pat k (j + 1)).map bv ++ D := by
  rw [pat_succ, List.map_append, List.set_append_right _ _ (by rw [List.length_map, pat_len]; omega), List.length_map, pat_len, Nat.sub_self, List.set_cons_zero, List.append_assoc]
  rfl
def slLen : Value → Nat
  | .slice _ n _ => n
  | _ => 0
attribute [irreducible] pat pb
end Go.Proofs.Ytknkkcbihaojhaa

namespace Go.Proofs.Ytknkkcbihaojhaa
open Go.ChangeShapes Go.WideShapes Go.ChangeAt Go.RowKit
/-- So many bits as cells. -/
def bitsC (n P : Nat) : Array Value := ((List.range n).map fun j => Value.int .i64 (tb P j)).toArray
theorem bitsC_size (n P : Nat) : csz (bitsC n P) = n := by simp [csz, bitsC]
theorem bitsC_any (n P j : Nat) : (bitsC n P)[j]? = if j < n then some (.int .i64 (tb P j)) else none := by
  by_cases h : j < n <;> simp [bitsC, h]
theorem bitsC_get {n j : Nat} (P : Nat) (hj : j < n) : (bitsC n P)[j]? = some (.int .i64 (tb P j)) := by rw [bitsC_any, if_pos hj]
theorem bitsC_put {n : Nat} (P Q j : Nat) (x : Int) (hx : x = tb Q j) (h : ∀ k, k < n → k ≠ j → tb P k = tb Q k) : (bitsC n P).setIfInBounds j (.int .i64 x) = bitsC n Q := by
  apply Array.ext_getElem?
  intro k
  rw [Array.getElem?_setIfInBounds, bitsC_any, bitsC_any]
  by_cases hj : j = k
  · subst hj
    rw [if_pos rfl, hx, show (bitsC n P).size = n by simp [bitsC]]
  · rw [if_neg hj]
    by_cases hk : k < n
    · rw [if_pos hk, if_pos hk, h k hk (fun e => hj e.symm)]
    · rw [if_neg hk, if_neg hk]
theorem bitsC_flip {n : Nat} (P j : Nat) : (bitsC n P).setIfInBounds j (.int .i64 ((1 : Int) - (tb P j : Int))) = bitsC n (P ^^^ (1 <<< j)) := bitsC_put P _ j _ (tb_flip P j) (fun k _ h => tb_flip' P j k h)
theorem tb_two_succ (x j : Nat) : tb (2 * x) (j + 1) = tb x j := by
  unfold tb
  rw [Nat.pow_succ, Nat.mul_comm (2 ^ j) 2, Nat.mul_div_mul_left _ _ (by decide)]
theorem tb_two_zero (x : Nat) : tb (2 * x) 0 = 0 := by unfold tb; simp
theorem tb_mod (x i j : Nat) : tb (x % 2 ^ i) j = if j < i then tb x j else 0 := by
  rw [tb_is, tb_is, Nat.testBit_mod_two_pow]
  by_cases h : j < i <;> simp [h]
theorem dblP_step {n : Nat} (N i : Nat) : (bitsC n (2 * (N % 2 ^ i))).setIfInBounds (i + 1) (.int .i64 (tb N i)) = bitsC n (2 * (N % 2 ^ (i + 1))) := by
  refine bitsC_put _ _ (i + 1) _ ?_ (fun k _ hk => ?_)
  · rw [tb_two_succ, tb_mod, if_pos (by omega)]
  · cases k with
    | zero => rw [tb_two_zero, tb_two_zero]
    | succ k =>
      rw [tb_two_succ, tb_two_succ, tb_mod, tb_mod]
      by_cases h : k < i
      · rw [if_pos h, if_pos (by omega)]
      · rw [if_neg h, if_neg (by omega)]
theorem tb_leN : ∀ (l : List UInt8) (i : Nat), tb (leN l) i = tb (l.getD (i / 8) 0).toNat (i % 8)
  | [], i => by simp [leN_nil, tb]
  | b :: l, i => by
    have hb := b.toNat_lt
    rw [leN_cons]
    by_cases h : i < 8
    · rw [show i / 8 = 0 by omega, show i % 8 = i by omega, List.getD_cons_zero]
      have e := tb_mod (b.toNat + 256 * leN l) 8 i
      rw [if_pos h] at e
      rw [← e]
      congr 1
      omega
    · obtain ⟨i', rfl⟩ : ∃ i', i = i' + 8 := ⟨i - 8, by omega⟩
      rw [show (i' + 8) / 8 = i' / 8 + 1 by omega, show (i' + 8) % 8 = i' % 8 by omega, List.getD_cons_succ, ← tb_leN l i']
      unfold tb
      rw [Nat.pow_add, Nat.mul_comm (2 ^ i') (2 ^ 8), ← Nat.div_div_eq_div_mul]
      congr 2
      omega
/-- The bytes while they are put together, from the highest bit on. -/
def outQ (M i q : Nat) : UInt8 := UInt8.ofNat (M / 2 ^ (max i (8 * q)) % 2 ^ (8 * (q + 1) - max i (8 * q)))
def outS (M i : Nat) : List UInt8 := (List.range 16).map (outQ M i)
theorem outS_len (M i : Nat) : (outS M i).length = 16 := by simp [outS]
theorem outS_get (M i : Nat) {q : Nat} (hq : q < 16) : (outS M i).getD q 0 = outQ M i q := by
  simp [outS, List.getD_eq_getElem?_getD, hq]
theorem outS_start (M : Nat) : outS M 128 = zs 16 := by
  apply List.ext_getElem?
  intro q
  by_cases hq : q < 16
  · rw [show zs 16 = (List.range 16).map (fun _ => (0 : UInt8)) by decide +kernel]
    simp only [outS, List.getElem?_map, List.getElem?_range hq, Option.map_some]
    unfold outQ
    rw [show 8 * (q + 1) - max 128 (8 * q) = 0 by omega, Nat.pow_zero, Nat.mod_one]
    rfl
  · rw [List.getElem?_eq_none (by rw [outS_len]; omega), List.getElem?_eq_none (by rw [zs_len]; omega)]
theorem outS_step (M i : Nat) (hi : i < 128) : (outS M (i + 1)).set (i / 8) (outQ M (i + 1) (i / 8) * 2 + UInt8.ofNat (tb M i)) = outS M i := by
  apply List.ext_getElem?
  intro q
  rw [List.getElem?_set, outS_len]
  by_cases hq : q < 16
  · simp only [outS, List.getElem?_map, List.getElem?_range hq, Option.map_some]
    by_cases e : i / 8 = q
    · subst e
      rw [if_pos rfl, if_pos (by omega)]
      congr 1
      unfold outQ tb
      have m1 : max i (8 * (i / 8)) = i := by omega
      have m2 : max (i + 1) (8 * (i / 8)) = i + 1 := by omega
      rw [m1, m2, Nat.pow_succ, ← Nat.div_div_eq_div_mul]
      obtain ⟨r, hr⟩ : ∃ r, 8 * (i / 8 + 1) - (i + 1) = r := ⟨_, rfl⟩
      rw [hr, show 8 * (i / 8 + 1) - i = r + 1 by omega]
      have hr8 : r ≤ 7 := by omega
      generalize M / 2 ^ i = x
      apply UInt8.toNat_inj.1
      rw [UInt8.toNat_add, UInt8.toNat_mul, UInt8.toNat_ofNat', UInt8.toNat_ofNat', UInt8.toNat_ofNat', show (2 : Nat) ^ (r + 1) = 2 * 2 ^ r by rw [Nat.pow_succ, Nat.mul_comm], Nat.mod_mul]
      have h1 : x / 2 % 2 ^ r < 2 ^ r := Nat.mod_lt _ (Nat.two_pow_pos r)
      have h2 : 2 ^ r ≤ 2 ^ 7 := Nat.pow_le_pow_right (by decide) hr8
      have h3 : UInt8.toNat 2 = 2 := rfl
      rw [h3]
      omega
    · rw [if_neg e]
      congr 1
      unfold outQ
      by_cases h : i < 8 * q
      · rw [show max i (8 * q) = 8 * q by omega, show max (i + 1) (8 * q) = 8 * q by omega]
      · rw [show 8 * (q + 1) - max i (8 * q) = 0 by omega, show 8 * (q + 1) - max (i + 1) (8 * q) = 0 by omega]
        simp [Nat.mod_one]
  · rw [if_neg (by omega), List.getElem?_eq_none (by rw [outS_len]; omega), List.getElem?_eq_none (by rw [outS_len]; omega)]
theorem leB_get : ∀ (k : Nat) (n q : Nat), q < k → (leB n k)[q]? = some (UInt8.ofNat (n / 256 ^ q))
  | k + 1, n, q, h => by
    rw [leB_succ]
    by_cases e : q < k
    · rw [List.getElem?_append_left (by rw [leB_len]; exact e)]
      exact leB_get k n q e
    · obtain rfl : q = k := by omega
      rw [List.getElem?_append_right (by rw [leB_len]; exact Nat.le_refl _), leB_len, Nat.sub_self]
      rfl
theorem outS_end (M : Nat) : outS M 0 = leB M 16 := by
  apply List.ext_getElem?
  intro q
  by_cases hq : q < 16
  · rw [leB_get 16 M q hq]
    simp only [outS, List.getElem?_map, List.getElem?_range hq, Option.map_some]
    congr 1
    unfold outQ
    rw [show max 0 (8 * q) = 8 * q by omega, show 8 * (q + 1) - 8 * q = 8 by omega, Nat.pow_mul]
    apply UInt8.toNat_inj.1
    rw [UInt8.toNat_ofNat', UInt8.toNat_ofNat', show (2 : Nat) ^ 8 = 256 from rfl]
    omega
  · rw [List.getElem?_eq_none (by rw [outS_len]; omega), List.getElem?_eq_none (by rw [leB_len]; omega)]
/-- The doubled number's bits, of which the highest is left out. -/
theorem dblN_tb (N j : Nat) (hj : j < 128) : tb (if 2 ^ 127 ≤ N then 2 * N ^^^ 0x87 else 2 * N) j = tb (dblN N) j := by
  unfold dblN
  by_cases h : 2 ^ 127 ≤ N
  · rw [if_pos h, if_pos h, tb_xor, tb_xor, tb_mod, if_pos hj]
  · rw [if_neg h, if_neg h, Nat.xor_zero, tb_mod, if_pos hj]
theorem dbl_top (N : Nat) (hN : N < 2 ^ 128) : tb (2 * N) 128 = if 2 ^ 127 ≤ N then 1 else 0 := by
  unfold tb
  by_cases h : 2 ^ 127 ≤ N
  · rw [if_pos h]; omega
  · rw [if_neg h]; omega
attribute [irreducible] bitsC outS outQ
end Go.Proofs.Ytknkkcbihaojhaa

namespace Go.Proofs.Ytknkkcbihaojhaa
open Go.ChangeShapes Go.WideShapes Go.ChangeAt Go.RowKit
theorem byte_step (x k : Nat) : UInt8.ofNat (x / 2 ^ (k + 1)) * 2 + UInt8.ofNat (tb x k) = UInt8.ofNat (x / 2 ^ k) := by
  unfold tb
  rw [Nat.pow_succ, ← Nat.div_div_eq_div_mul]
  generalize x / 2 ^ k = y
  apply UInt8.toNat_inj.1
  rw [UInt8.toNat_add, UInt8.toNat_mul, UInt8.toNat_ofNat', UInt8.toNat_ofNat', UInt8.toNat_ofNat', show UInt8.toNat 2 = 2 from rfl]
  omega
/-- The sum so far: i bytes, and of the next one the bits from k on. -/
def xrS (X : List UInt8) (i k : Nat) : List UInt8 := (fillN (zs 16) X i).set i (UInt8.ofNat ((X.getD i 0).toNat / 2 ^ k))
theorem xrS_len {X : List UInt8} (hX : X.length = 16) (i k : Nat) : (xrS X i k).length = 16 := by
  unfold xrS; rw [List.length_set, fillN_len (by rw [zs_len, hX]), zs_len]
theorem xrS_first {X : List UInt8} (hX : X.length = 16) {i : Nat} (hi : i < 16) : xrS X i 8 = fillN (zs 16) X i := by
  have h0 : UInt8.ofNat ((X.getD i 0).toNat / 2 ^ 8) = 0 := by
    have := (X.getD i 0).toNat_lt
    rw [Nat.div_eq_of_lt (by omega)]; rfl
  unfold xrS
  rw [h0]
  apply List.ext_getElem?
  intro j
  rw [List.getElem?_set]
  by_cases e : i = j
  · subst e
    rw [if_pos rfl, fillN_len (by rw [zs_len, hX]), zs_len, if_pos hi]
    unfold fillN
    rw [List.getElem?_append_right (by simp; omega)]
    simp only [List.length_take, List.getElem?_drop]
    rw [show i + (i - min i X.length) = i by omega, show zs 16 = (List.range 16).map (fun _ => (0 : UInt8)) by decide +kernel]
    simp [hi]
  · rw [if_neg e]
theorem xrS_get {X : List UInt8} (hX : X.length = 16) {i : Nat} (hi : i < 16) (k : Nat) : (xrS X i k).getD i 0 = UInt8.ofNat ((X.getD i 0).toNat / 2 ^ k) := by
  unfold xrS
  rw [List.getD_eq_getElem?_getD, List.getElem?_set_self (by rw [fillN_len (by rw [zs_len, hX]), zs_len]; exact hi)]
  rfl
theorem xrS_step (X : List UInt8) (i k : Nat) : (xrS X i (k + 1)).set i (UInt8.ofNat ((X.getD i 0).toNat / 2 ^ (k + 1)) * 2 + UInt8.ofNat (tb (X.getD i 0).toNat k)) = xrS X i k := by
  unfold xrS
  rw [List.set_set, byte_step]
theorem xrS_last {X : List UInt8} (hX : X.length = 16) {i : Nat} (hi : i < 16) : xrS X i 0 = fillN (zs 16) X (i + 1) := by
  unfold xrS
  rw [Nat.pow_zero, Nat.div_one, ← fillN_set (by rw [zs_len, hX]) (by rw [hX]; exact hi)]
  congr 1
  apply UInt8.toNat_inj.1
  rw [UInt8.toNat_ofNat']
  have := (X.getD i 0).toNat_lt
  omega
theorem xor_bits (a b : UInt8) (k : Nat) : (tb a.toNat k + tb b.toNat k) % 2 = tb (a ^^^ b).toNat k := by
  rw [UInt8.toNat_xor, tb_xor]
attribute [irreducible] xrS
end Go.Proofs.Ytknkkcbihaojhaa

namespace Go.Proofs.Ytknkkcbihaojhaa
open Go.ChangeShapes Go.WideShapes Go.ChangeAt Go.RowKit
theorem z129 : Try.zeroCells107 = bitsC 129 0 := by unfold bitsC; rfl
/-- The bits behind so many of the four changes. -/
def flD (M : Nat) : Nat → Nat
  | 0 => M
  | 1 => M ^^^ (1 <<< 0)
  | 2 => M ^^^ (1 <<< 0) ^^^ (1 <<< 1)
  | 3 => M ^^^ (1 <<< 0) ^^^ (1 <<< 1) ^^^ (1 <<< 2)
  | _ => M ^^^ (1 <<< 0) ^^^ (1 <<< 1) ^^^ (1 <<< 2) ^^^ (1 <<< 7)
theorem flD_all (M : Nat) : flD M 4 = M ^^^ 0x87 := by
  show M ^^^ (1 <<< 0) ^^^ (1 <<< 1) ^^^ (1 <<< 2) ^^^ (1 <<< 7) = _
  rw [Nat.xor_assoc, Nat.xor_assoc, Nat.xor_assoc]
  rfl
def litD : Array Value := #[.int .i64 0, .int .i64 1, .int .i64 2, .int .i64 7]
theorem litD_is : #[Value.int .i64 0, .int .i64 1, .int .i64 2, .int .i64 7] = litD := rfl
def atD : Nat → Nat | 0 => 0 | 1 => 1 | 2 => 2 | _ => 7
theorem litD_get {j : Nat} (h : j < 4) : litD[j]? = some (.int .i64 (atD j : Int)) := by
  match j, h with
  | 0, _ => rfl
  | 1, _ => rfl
  | 2, _ => rfl
  | 3, _ => rfl
theorem atD_lt (j : Nat) : atD j < 8 := by unfold atD; split <;> omega
theorem flD_step {M j : Nat} (h : j < 4) : (bitsC 129 (flD M j)).setIfInBounds (atD j) (.int .i64 ((1 : Int) - (tb (flD M j) (atD j) : Int))) = bitsC 129 (flD M (j + 1)) := by
  match j, h with
  | 0, _ => exact bitsC_flip _ 0
  | 1, _ => exact bitsC_flip _ 1
  | 2, _ => exact bitsC_flip _ 2
  | 3, _ => exact bitsC_flip _ 7
attribute [irreducible] litD atD flD
theorem bitsC_same {n : Nat} {P Q : Nat} (h : ∀ j, j < n → tb P j = tb Q j) : bitsC n P = bitsC n Q := by
  apply Array.ext_getElem?
  intro k
  rw [bitsC_any, bitsC_any]
  by_cases hk : k < n
  · rw [if_pos hk, if_pos hk, h k hk]
  · rw [if_neg hk, if_neg hk]
theorem out_byte (b : UInt8) (c : Nat) (h : c ≤ 1) : ((b.toNat : Int) * 2 % 256 + (c : Int)) = (((b * 2 + UInt8.ofNat c).toNat : Nat) : Int) := by
  have := b.toNat_lt
  rw [UInt8.toNat_add, UInt8.toNat_mul, UInt8.toNat_ofNat']
  simp
  omega
theorem tb_two (x i : Nat) : tb x i ≤ 1 := tb_le x i
set_option maxRecDepth 100000 in
set_option maxHeartbeats 4000000 in
theorem refDouble_any (k : List UInt8) (hk : k.length = 16) (w : World) :
    Calls Try.prog 62 #[.agg (bvs k)] w fun e w' => e = .returned (.agg (bvs (dblB k))) ∧ Below w.heap.size w w' := by
  have s1 : csz (bvs (zs 16)) = 16 := by rw [csz_bvs, zs_len]
  have s2 : csz (bvs k) = 16 := by rw [csz_bvs, hk]
  have s3 : csz (bvs (dblB k)) = 16 := by rw [csz_bvs, dblB_len]
  have HK := hid hk
  have z := zs16
  have z2 := z129
  have z3 := litD_is
  obtain ⟨N, hN⟩ : ∃ N, N = leN k := ⟨_, rfl⟩
  have hN2 : N < 2 ^ 128 := by have := leN_lt k; rw [hk] at this; rw [hN]; exact this
  have HD := hid (show dblB k = outS (dblN N) 0 by rw [outS_end, hN]; unfold dblB; rfl)
  have HN := hid hN
  have HT := hid (dbl_top N hN2)
  have HM := hid (Nat.mod_eq_of_lt hN2)
  have HQ := hid (dblN_tb N)
  clear hk hN hN2
  go_enter Try.func62, Try.ntmps62
  go_wp2_with fail
  go_loopw [4] (fun u4 wr => ∃ i : Nat, i ≤ 128 ∧ u4 = .int .i64 i ∧ St w wr [(w.heap.size + 1 + 1, bitsC 129 (2 * (N % 2 ^ i)), 107), (w.heap.size + 1, bvs (zs 16), 61), (w.heap.size, bvs k, 61)])
    (fun u4 _ => 128 - (intOf u4).toNat)
  case atStart => exact ⟨0, by omega, rfl, by simp only [Nat.pow_zero, Nat.mod_one, Nat.mul_zero]; rw [← z129]; exact (St.alloc' (St.alloc' (St.alloc' (St.start w) (by first | rfl | simp)) (by first | rfl | simp)) (by first | rfl | simp))⟩
  case round =>
    obtain ⟨i, hi, rfl, hS⟩ := hrel
    obtain ⟨x, rfl, hS, l1, l2, l3, n1, n2, n3, n4, n5, n6⟩ := hS.open3
    by_cases hlt : i < 128
    · have hb := bvs_get (l := k) (k := i / 8) (by rw [HK.out]; omega)
      have q1 : (i : Int) / 8 < 16 := by omega
      have hm := bitsC_get (n := 129) (2 * (N % 2 ^ i)) (j := i + 1) (by omega)
      have E1 := hid (show (i : Int) % 8 = ((i % 8 : Nat) : Int) by omega)
      have E2 := hid (tb_leN k i)
      rw [← HN.out] at E2
      generalize k.getD (i / 8) 0 = b at *
      go_wp2_with fail
      rw [E1.out]
      (with_reducible refine (bit_any b (i % 8) (by omega) _).mono ?_)
      rintro e w1 ⟨rfl, rfl⟩
      go_wp2
      go_roundw
      case rel => exact ⟨i + 1, by omega, by go_num, by rw [← E2.out, dblP_step]; exact hS.put3 _ _ _⟩
      case measure => simp [intOf]; omega
    · obtain rfl : i = 128 := by omega
      rw [HM.out]
      have hm := bitsC_get (n := 129) (2 * N) (j := 128) (by omega)
      rw [HT.out] at hm
      rw [HM.out] at hS
      by_cases hbig : 2 ^ 127 ≤ N
      · rw [if_pos hbig] at hm HQ
        obtain ⟨Q, hQ⟩ : ∃ Q, 2 * N ^^^ 135 = Q := ⟨_, rfl⟩
        rw [hQ] at HQ
        have H4 := hid ((flD_all (2 * N)).trans hQ)
        have H0 := hid (show flD (2 * N) 0 = 2 * N by unfold flD; rfl)
        clear hbig hQ
        generalize dblN N = M at *
        go_wp2_with fail
        go_loopw [6, 28] (fun u6 u28 wr => ∃ j : Nat, j ≤ 4 ∧ u28 = .int .i64 j ∧ St w wr [(x.heap.size, litD, 3), (w.heap.size + 1 + 1, bitsC 129 (flD (2 * N) j), 107), (w.heap.size + 1, bvs (zs 16), 61)])
          (fun _ u28 _ => 4 - (intOf u28).toNat)
        case atStart => exact ⟨0, by omega, rfl, by rw [H0.out]; exact (St.alloc' (n := x.heap.size) (hS.put3 _ _ _) (by simp [go_sem])).take 3⟩
        case round =>
          obtain ⟨j, hj, rfl, hS2⟩ := hrel
          obtain ⟨y, rfl, hS2, l1, l2, l3, n1, n2, n3, n4, n5, n6⟩ := hS2.open3
          by_cases hlt : j < 4
          · have hg := litD_get hlt
            have ha := atD_lt j
            have hm := bitsC_get (n := 129) (flD (2 * N) j) (j := atD j) (by omega)
            have E2 := hid (flD_step (M := 2 * N) hlt)
            have ht := tb_two (flD (2 * N) j) (atD j)
            generalize atD j = q at *
            generalize tb (flD (2 * N) j) q = c at *
            have q1 : (q : Int) < 129 := by omega
            have q2 : (0 : Int) ≤ (c : Int) := by omega
            have q3 : (c : Int) ≤ 1 := by omega
            go_wp2
            go_roundw
            case rel => exact ⟨j + 1, by omega, by go_num, by rw [← E2.out]; exact hS2.put3 _ _ _⟩
            case measure => simp [intOf]; omega
          · obtain rfl : j = 4 := by omega
            rw [H4.out] at *
            go_wp2_with fail
            go_loopw [8] (fun u8 wr => ∃ i : Nat, i ≤ 128 ∧ u8 = .int .i64 ((i : Int) - 1) ∧ St w wr [(y.heap.size, bvs (outS M i), 61), (w.heap.size + 1 + 1, bitsC 129 Q, 107), (w.heap.size + 1, bvs (zs 16), 61)])
              (fun u8 _ => (intOf u8 + 1).toNat)
            case atStart => exact ⟨128, by omega, rfl, by rw [outS_start]; exact ((St.alloc' (n := y.heap.size) (hS2.put3 _ _ _) (by simp [go_sem])).erase 1)⟩
            case round =>
              obtain ⟨i, hi, rfl, hS⟩ := hrel
              obtain ⟨y, rfl, hS, l1, l2, l3, n1, n2, n3, n4, n5, n6⟩ := hS.open3
              have s4 : csz (bvs (outS M i)) = 16 := by rw [csz_bvs, outS_len]
              by_cases h0 : 0 < i
              · obtain ⟨m, rfl⟩ : ∃ m, i = m + 1 := ⟨i - 1, by omega⟩
                rw [show ((m + 1 : Nat) : Int) - 1 = (m : Int) by omega]
                have hb := bvs_get (l := outS M (m + 1)) (k := m / 8) (by rw [outS_len]; omega)
                rw [outS_get M (m + 1) (by omega)] at hb
                have q1 : (m : Int) / 8 < 16 := by omega
                have q0 : (0 : Int) ≤ (m : Int) / 8 := by omega
                have q3 : ((m : Int) / 8).toNat = m / 8 := by omega
                have q2 : (m : Int) < 129 := by omega
                have hm := bitsC_get (n := 129) Q (j := m) (by omega)
                rw [HQ.out m (by omega)] at hm
                have ht := tb_two M m
                have E2 := hid (outS_step M m (by omega))
                have E3 := hid (out_byte (outQ M (m + 1) (m / 8)) (tb M m) ht)
                generalize outQ M (m + 1) (m / 8) = b at *
                generalize tb M m = c at *
                have hbl := b.toNat_lt
                go_wp2_with fail
                refine region_tail_lit (by kernel_rfl) (by kernel_rfl) ?_
                dsimp only [List.dropLast, List.getLast?, List.getLast, Option.getD]
                repeat (first | (refine BigFrame.wpQuiet_skip rfl ?_; simp only [Act.put, List.setIfInBounds_toArray, List.set_cons_zero, List.set_cons_succ]) | (refine BigFrame.wpQuiet_want rfl (fun K hK => ?_); apply Exists.intro; refine ⟨fun w' hw' => ?_, hK _ ?_⟩; (focus (have zw := hw'; obtain ⟨zg, rfl⟩ := grow_of hw'; go_simp; (try (go_bits; go_simp)); first | done | rfl | (fail))); clear hK K; simp only [Act.put, List.setIfInBounds_toArray, List.set_cons_zero, List.set_cons_succ]))
                refine wpQuiet_nil ?_
                intro wq hcq
                obtain ⟨gq, rfl⟩ := grow_of hcq
                clear hcq
                go_wp2
                go_roundw
                case rel => exact ⟨m, by omega, rfl, by rw [E3.out, bvs_set, E2.out]; exact (hS.put3 _ _ _).grow _⟩
                case measure => simp [intOf]
              · obtain rfl : i = 0 := by omega
                rw [← HD.out] at *
                go_wp2
                exact post_cell (n := 16) Try.results62 (by kernel_rfl) (.inl rfl) _ _ _ _ rfl rfl (by go_simp; first | done | rfl | exact ⟨rfl, rfl⟩) (by first | (rw [← csz_is]; assumption) | rfl) ⟨rfl, (by repeat (first | (with_reducible exact Below.refl _ _) | (with_reducible assumption) | (with_reducible exact grow_below _ _) | (with_reducible exact St.below (by assumption)) | (with_reducible refine below_grow ?_ _) | (with_reducible refine Below.alloc ?_ (by first | omega | (simp; done) | (simp [go_sem]; done) | (simp [go_sem]; omega)) _) | (with_reducible exact (St.put1 (by assumption) _).below) | (with_reducible exact (St.put2 (by assumption) _ _).below) | (with_reducible exact (St.put3 (by assumption) _ _ _).below) | (with_reducible exact (St.put4 (by assumption) _ _ _ _).below) | (with_reducible refine below_put ?_ (by first | omega | (simp [go_sem]; omega)) _ _) | (with_reducible refine Below.drew ?_) | (with_reducible refine Below.setCell ?_ (by first | omega | (simp [go_sem]; omega)) _) | (with_reducible refine below_setRow' ?_ (by first | omega | (simp [go_sem]; omega)) _) | (with_reducible refine below_drewN' ?_ _)))⟩
      · rw [if_neg hbig] at hm HQ
        generalize 2 * N = Q at *
        clear hbig
        generalize dblN N = M at *
        replace hm : (bitsC 129 Q)[128]? = some (.int .i64 0) := hm
        go_wp2_with fail
        go_loopw [8] (fun u8 wr => ∃ i : Nat, i ≤ 128 ∧ u8 = .int .i64 ((i : Int) - 1) ∧ St w wr [(x.heap.size, bvs (outS M i), 61), (w.heap.size + 1 + 1, bitsC 129 Q, 107), (w.heap.size + 1, bvs (zs 16), 61)])
          (fun u8 _ => (intOf u8 + 1).toNat)
        case atStart => exact ⟨128, by omega, rfl, by rw [outS_start]; exact (St.alloc' (n := x.heap.size) (hS.put3 _ _ _) (by simp [go_sem])).take 3⟩
        case round =>
          obtain ⟨i, hi, rfl, hS⟩ := hrel
          obtain ⟨y, rfl, hS, l1, l2, l3, n1, n2, n3, n4, n5, n6⟩ := hS.open3
          have s4 : csz (bvs (outS M i)) = 16 := by rw [csz_bvs, outS_len]
          by_cases h0 : 0 < i
          · obtain ⟨m, rfl⟩ : ∃ m, i = m + 1 := ⟨i - 1, by omega⟩
            rw [show ((m + 1 : Nat) : Int) - 1 = (m : Int) by omega]
            have hb := bvs_get (l := outS M (m + 1)) (k := m / 8) (by rw [outS_len]; omega)
            rw [outS_get M (m + 1) (by omega)] at hb
            have q1 : (m : Int) / 8 < 16 := by omega
            have q0 : (0 : Int) ≤ (m : Int) / 8 := by omega
            have q3 : ((m : Int) / 8).toNat = m / 8 := by omega
            have q2 : (m : Int) < 129 := by omega
            have hm := bitsC_get (n := 129) Q (j := m) (by omega)
            rw [HQ.out m (by omega)] at hm
            have ht := tb_two M m
            have E2 := hid (outS_step M m (by omega))
            have E3 := hid (out_byte (outQ M (m + 1) (m / 8)) (tb M m) ht)
            generalize outQ M (m + 1) (m / 8) = b at *
            generalize tb M m = c at *
            have hbl := b.toNat_lt
            go_wp2_with fail
            refine region_tail_lit (by kernel_rfl) (by kernel_rfl) ?_
            dsimp only [List.dropLast, List.getLast?, List.getLast, Option.getD]
            repeat (first | (refine BigFrame.wpQuiet_skip rfl ?_; simp only [Act.put, List.setIfInBounds_toArray, List.set_cons_zero, List.set_cons_succ]) | (refine BigFrame.wpQuiet_want rfl (fun K hK => ?_); apply Exists.intro; refine ⟨fun w' hw' => ?_, hK _ ?_⟩; (focus (have zw := hw'; obtain ⟨zg, rfl⟩ := grow_of hw'; go_simp; (try (go_bits; go_simp)); first | done | rfl | (fail))); clear hK K; simp only [Act.put, List.setIfInBounds_toArray, List.set_cons_zero, List.set_cons_succ]))
            refine wpQuiet_nil ?_
            intro wq hcq
            obtain ⟨gq, rfl⟩ := grow_of hcq
            clear hcq
            go_wp2
            go_roundw
            case rel => exact ⟨m, by omega, rfl, by rw [E3.out, bvs_set, E2.out]; exact (hS.put3 _ _ _).grow _⟩
            case measure => simp [intOf]
          · obtain rfl : i = 0 := by omega
            rw [← HD.out] at *
            go_wp2
            exact post_cell (n := 16) Try.results62 (by kernel_rfl) (.inl rfl) _ _ _ _ rfl rfl (by go_simp; first | done | rfl | exact ⟨rfl, rfl⟩) (by first | (rw [← csz_is]; assumption) | rfl) ⟨rfl, (by repeat (first | (with_reducible exact Below.refl _ _) | (with_reducible assumption) | (with_reducible exact grow_below _ _) | (with_reducible exact St.below (by assumption)) | (with_reducible refine below_grow ?_ _) | (with_reducible refine Below.alloc ?_ (by first | omega | (simp; done) | (simp [go_sem]; done) | (simp [go_sem]; omega)) _) | (with_reducible exact (St.put1 (by assumption) _).below) | (with_reducible exact (St.put2 (by assumption) _ _).below) | (with_reducible exact (St.put3 (by assumption) _ _ _).below) | (with_reducible exact (St.put4 (by assumption) _ _ _ _).below) | (with_reducible refine below_put ?_ (by first | omega | (simp [go_sem]; omega)) _ _) | (with_reducible refine Below.drew ?_) | (with_reducible refine Below.setCell ?_ (by first | omega | (simp [go_sem]; omega)) _) | (with_reducible refine below_setRow' ?_ (by first | omega | (simp [go_sem]; omega)) _) | (with_reducible refine below_drewN' ?_ _)))⟩
theorem xorL_at {a b : List UInt8} {i : Nat} (ha : i < a.length) (hb : i < b.length) : (xorL a b).getD i 0 = a.getD i 0 ^^^ b.getD i 0 := by
  simp [xorL, List.getD_eq_getElem?_getD, ha, hb, List.getElem?_zipWith]
set_option maxRecDepth 100000 in
set_option maxHeartbeats 4000000 in
theorem refXor_any (a b : List UInt8) (ha : a.length = 16) (hb : b.length = 16) (w : World) :
    Calls Try.prog 63 #[.agg (bvs a), .agg (bvs b)] w fun e w' => e = .returned (.agg (bvs (xorL a b))) ∧ Below w.heap.size w w' := by
  have s1 : csz (bvs (zs 16)) = 16 := by rw [csz_bvs, zs_len]
  have s2 : csz (bvs a) = 16 := by rw [csz_bvs, ha]
  have s3 : csz (bvs b) = 16 := by rw [csz_bvs, hb]
  have hX := xorL_len a b 16 ha hb
  have HA := hid ha; have HB := hid hb; have HX := hid hX
  have HG := hid (fun i (hi : i < 16) => xorL_at (a := a) (b := b) (i := i) (by rw [ha]; exact hi) (by rw [hb]; exact hi))
  generalize xorL a b = X at *
  have s4 : csz (bvs X) = 16 := by rw [csz_bvs, hX]
  have z := zs16
  clear ha hb hX
  go_enter Try.func63, Try.ntmps63
  go_wp2_with fail
  go_loopw [6, 7] (fun u6 u7 wr => ∃ i : Nat, i ≤ 16 ∧ u6 = .int .i64 i ∧ St w wr [(w.heap.size + 1 + 1 + 1, bvs (fillN (zs 16) X i), 61), (w.heap.size + 1 + 1, bvs (zs 16), 61), (w.heap.size + 1, bvs b, 61), (w.heap.size, bvs a, 61)])
    (fun u6 _ _ => 16 - (intOf u6).toNat)
  case atStart => exact ⟨0, by omega, rfl, by rw [fillN_zero]; exact (St.alloc' (St.alloc' (St.alloc' (St.alloc' (St.start w) (by first | rfl | simp)) (by first | rfl | simp)) (by first | rfl | simp)) (by first | rfl | simp))⟩
  case round =>
    obtain ⟨i, hi, rfl, hS⟩ := hrel
    by_cases hlt : i < 16
    · have ha := bvs_get (l := a) (k := i) (by rw [HA.out]; exact hlt)
      have hb := bvs_get (l := b) (k := i) (by rw [HB.out]; exact hlt)
      have hx := HG.out i hlt
      have H1 := hid (xrS_first HX.out hlt)
      have H2 := hid (xrS_last HX.out hlt)
      have q1 : (i : Int) < 16 := by omega
      go_wp2_with fail
      go_loopw [7] (fun u7 wr => ∃ k : Nat, k ≤ 8 ∧ u7 = .int .i64 ((k : Int) - 1) ∧ St w wr [(w.heap.size + 1 + 1 + 1, bvs (xrS X i k), 61), (w.heap.size + 1 + 1, bvs (zs 16), 61), (w.heap.size + 1, bvs b, 61), (w.heap.size, bvs a, 61)])
        (fun u7 _ => (intOf u7 + 1).toNat)
      case atStart => exact ⟨8, by omega, rfl, by rw [H1.out]; exact hS⟩
      case round =>
        obtain ⟨k, hk, rfl, hS2⟩ := hrel
        obtain ⟨y, rfl, hS2, l1, l2, l3, l4, n1, n2, n3, n4, n5, n6, n7, n8, n9, n10, n11, n12⟩ := hS2.open4
        by_cases h0 : 0 < k
        · obtain ⟨m, rfl⟩ : ∃ m, k = m + 1 := ⟨k - 1, by omega⟩
          rw [show ((m + 1 : Nat) : Int) - 1 = (m : Int) by omega]
          have hg := bvs_get (l := xrS X i (m + 1)) (k := i) (by rw [xrS_len HX.out]; exact hlt)
          rw [xrS_get HX.out hlt] at hg
          have E2 := hid (xrS_step X i m)
          have hbit := hid (xor_bits (a.getD i 0) (b.getD i 0) m)
          rw [← hx] at hbit
          have E3 := hid (out_byte (UInt8.ofNat ((X.getD i 0).toNat / 2 ^ (m + 1))) (tb (X.getD i 0).toNat m) (tb_two _ _))
          clear hx
          generalize UInt8.ofNat ((X.getD i 0).toNat / 2 ^ (m + 1)) = o at *
          generalize tb (X.getD i 0).toNat m = c at *
          generalize a.getD i 0 = a1 at *
          generalize b.getD i 0 = b1 at *
          have hol := o.toNat_lt
          have t1 := tb_two a1.toNat m
          have t2 := tb_two b1.toNat m
          go_wp2_with fail
          refine region_tail_lit (by kernel_rfl) (by kernel_rfl) ?_
          dsimp only [List.dropLast, List.getLast?, List.getLast, Option.getD]
          repeat (first | (refine BigFrame.wpQuiet_skip rfl ?_; simp only [Act.put, List.setIfInBounds_toArray, List.set_cons_zero, List.set_cons_succ]) | (refine BigFrame.wpQuiet_want rfl (fun K hK => ?_); apply Exists.intro; refine ⟨fun w' hw' => ?_, hK _ ?_⟩; (focus (have zw := hw'; obtain ⟨zg, rfl⟩ := grow_of hw'; go_simp; (try (go_bits; go_simp)); first | done | rfl | (go_at_call 78; refine (bit_any _ _ (by omega) _).mono ?_; exact fun e w' ⟨he, hw⟩ => ⟨he, hw ▸ zw⟩))); clear hK K; simp only [Act.put, List.setIfInBounds_toArray, List.set_cons_zero, List.set_cons_succ]))
          refine wpQuiet_nil ?_
          intro wq hcq
          obtain ⟨gq, rfl⟩ := grow_of hcq
          clear hcq
          go_wp2
          go_roundw
          case rel => exact ⟨m, by omega, rfl, by rw [show ((tb a1.toNat m : Nat) : Int) + ((tb b1.toNat m : Nat) : Int) = ((tb a1.toNat m + tb b1.toNat m : Nat) : Int) by omega, show (((tb a1.toNat m + tb b1.toNat m : Nat) : Int) % 2) = (((tb a1.toNat m + tb b1.toNat m) % 2 : Nat) : Int) by omega, hbit.out, E3.out, bvs_set, E2.out]; exact (hS2.put4 _ _ _ _).grow _⟩
          case measure => simp [intOf]
        · obtain rfl : k = 0 := by omega
          rw [H2.out] at *
          go_wp2
          go_roundw
          case rel => exact ⟨i + 1, by omega, by go_num, hS2.put4 _ _ _ _⟩
          case measure => simp [intOf]; omega
    · obtain rfl : i = 16 := by omega
      have e := fillN_all (x := zs 16) (k := 16) (by rw [HX.out, zs_len]) HX.out
      rw [e] at hS
      clear e
      obtain ⟨y, rfl, hS2, l1, l2, l3, l4, n1, n2, n3, n4, n5, n6, n7, n8, n9, n10, n11, n12⟩ := hS.open4
      go_wp2
      exact post_cell (n := 16) Try.results63 (by kernel_rfl) (.inl rfl) _ _ _ _ rfl rfl (by go_simp; first | done | rfl | exact ⟨rfl, rfl⟩) (by first | (rw [← csz_is]; assumption) | rfl) ⟨rfl, (by repeat (first | (with_reducible exact Below.refl _ _) | (with_reducible assumption) | (with_reducible exact grow_below _ _) | (with_reducible exact St.below (by assumption)) | (with_reducible refine below_grow ?_ _) | (with_reducible refine Below.alloc ?_ (by first | omega | (simp; done) | (simp [go_sem]; done) | (simp [go_sem]; omega)) _) | (with_reducible exact (St.put1 (by assumption) _).below) | (with_reducible exact (St.put2 (by assumption) _ _).below) | (with_reducible exact (St.put3 (by assumption) _ _ _).below) | (with_reducible exact (St.put4 (by assumption) _ _ _ _).below) | (with_reducible refine below_put ?_ (by first | omega | (simp [go_sem]; omega)) _ _) | (with_reducible refine Below.drew ?_) | (with_reducible refine Below.setCell ?_ (by first | omega | (simp [go_sem]; omega)) _) | (with_reducible refine below_setRow' ?_ (by first | omega | (simp [go_sem]; omega)) _) | (with_reducible refine below_drewN' ?_ _)))⟩
end Go.Proofs.Ytknkkcbihaojhaa

namespace Go.Proofs.Ytknkkcbihaojhaa
open Go.ChangeShapes Go.WideShapes Go.ChangeAt Go.RowKit
def blockAt (l : List UInt8) (j : Nat) : List UInt8 := (l.drop (16 * j)).take 16
theorem blockAt_len {l : List UInt8} {j : Nat} (h : 16 * j + 16 ≤ l.length) : (blockAt l j).length = 16 := by unfold blockAt; simp; omega
/-- So many blocks, turned each by itself. -/
def headL (f : List UInt8 → List UInt8 → List UInt8) (T : Nat → List UInt8) (l : List UInt8) : Nat → List UInt8
  | 0 => []
  | k + 1 => headL f T l k ++ f (T k) (blockAt l k)
/-- A text turned. -/
def turnL (f : List UInt8 → List UInt8 → List UInt8) (T : Nat → List UInt8) (back : Bool) (l : List UInt8) : List UInt8 :=
  if l.length % 16 = 0 then headL f T l (l.length / 16)
  else
    headL f T l (l.length / 16 - 1) ++
      (f (T (if back then l.length / 16 - 1 else l.length / 16)) (l.drop (16 * (l.length / 16)) ++ (f (T (if back then l.length / 16 else l.length / 16 - 1)) (blockAt l (l.length / 16 - 1))).drop (l.length % 16)) ++
        (f (T (if back then l.length / 16 else l.length / 16 - 1)) (blockAt l (l.length / 16 - 1))).take (l.length % 16))
/-- It keeps a block's length. -/
def Wide (f : List UInt8 → List UInt8 → List UInt8) (T : Nat → List UInt8) : Prop := ∀ j x, x.length = 16 → (f (T j) x).length = 16
theorem headL_len {f : List UInt8 → List UInt8 → List UInt8} {T : Nat → List UInt8} (hf : Wide f T) {l : List UInt8} : ∀ k, 16 * k ≤ l.length → (headL f T l k).length = 16 * k
  | 0, _ => rfl
  | k + 1, h => by
    have ih := headL_len hf (l := l) k (by omega)
    simp only [headL, List.length_append]
    rw [ih, hf k _ (blockAt_len (by omega))]
    omega
theorem headL_block {f : List UInt8 → List UInt8 → List UInt8} {T : Nat → List UInt8} (hf : Wide f T) {l : List UInt8} : ∀ (k : Nat) (rest : List UInt8), 16 * k ≤ l.length → ∀ j, j < k → blockAt (headL f T l k ++ rest) j = f (T j) (blockAt l j)
  | k + 1, rest, h, j, hj => by
    have h1 := headL_len hf (l := l) k (by omega)
    have h2 := hf k (blockAt l k) (blockAt_len (by omega))
    rw [headL, List.append_assoc]
    by_cases e : j < k
    · exact headL_block hf k _ (by omega) j e
    · obtain rfl : j = k := by omega
      unfold blockAt at h2 ⊢
      rw [List.drop_append_of_le_length (by omega), List.drop_of_length_le (by omega), List.nil_append]
      exact (List.take_append_of_le_length (by omega)).trans (List.take_of_length_le (by omega))
theorem take_block {l : List UInt8} {k : Nat} : l.take (16 * k) ++ blockAt l k = l.take (16 * (k + 1)) := by
  unfold blockAt
  rw [show 16 * (k + 1) = 16 * k + 16 by omega, List.take_add]
/-- What is turned and turned back, block by block. -/
theorem headL_back {f g : List UInt8 → List UInt8 → List UInt8} {T : Nat → List UInt8} (hf : Wide f T) (hg : ∀ j x, x.length = 16 → g (T j) (f (T j) x) = x) {l : List UInt8} {k : Nat} (rest : List UInt8) (hk : 16 * k ≤ l.length) :
    ∀ n, n ≤ k → headL g T (headL f T l k ++ rest) n = l.take (16 * n)
  | 0, _ => by simp [headL]
  | n + 1, h => by
    rw [headL, headL_back hf hg rest hk n (by omega), headL_block hf k rest hk n (by omega), hg n _ (blockAt_len (by omega)), take_block]
theorem turnL_len {f : List UInt8 → List UInt8 → List UInt8} {T : Nat → List UInt8} (hf : Wide f T) (back : Bool) {l : List UInt8} (h16 : 16 ≤ l.length) : (turnL f T back l).length = l.length := by
  unfold turnL
  split
  · rw [headL_len hf _ (by omega)]; omega
  · obtain ⟨a, ha⟩ : ∃ a, a = (if back then l.length / 16 else l.length / 16 - 1) := ⟨_, rfl⟩
    obtain ⟨b, hb⟩ : ∃ b, b = (if back then l.length / 16 - 1 else l.length / 16) := ⟨_, rfl⟩
    rw [← ha, ← hb]
    have h1 := hf a _ (blockAt_len (l := l) (j := l.length / 16 - 1) (by omega))
    generalize f (T a) (blockAt l (l.length / 16 - 1)) = c at *
    have h2 := hf b (l.drop (16 * (l.length / 16)) ++ c.drop (l.length % 16)) (by simp; omega)
    rw [List.length_append, List.length_append, headL_len hf _ (by omega), h2, List.length_take]
    omega
theorem turnL_back {f g : List UInt8 → List UInt8 → List UInt8} {T : Nat → List UInt8} (hf : Wide f T) (hg : ∀ j x, x.length = 16 → g (T j) (f (T j) x) = x) (back : Bool) {l : List UInt8} (h16 : 16 ≤ l.length) :
    turnL g T (!back) (turnL f T back l) = l := by
  have hlen := turnL_len hf back h16
  obtain ⟨out, ho⟩ : ∃ out, out = turnL f T back l := ⟨_, rfl⟩
  rw [← ho] at hlen ⊢
  obtain ⟨m, hm⟩ : ∃ m, m = l.length / 16 := ⟨_, rfl⟩
  obtain ⟨r, hr⟩ : ∃ r, r = l.length % 16 := ⟨_, rfl⟩
  have hl : l.length = 16 * m + r := by omega
  unfold turnL at ho ⊢
  rw [hlen, ← hm, ← hr]
  rw [← hm, ← hr] at ho
  by_cases h0 : r = 0
  · rw [if_pos h0] at ho ⊢
    have h1 := headL_back (l := l) hf hg (k := m) [] (by omega) m (Nat.le_refl _)
    rw [List.append_nil] at h1
    rw [ho, h1, List.take_of_length_le (by omega)]
  · rw [if_neg h0] at ho ⊢
    obtain ⟨a, ha⟩ : ∃ a, a = (if back then m else m - 1) := ⟨_, rfl⟩
    obtain ⟨b, hb⟩ : ∃ b, b = (if back then m - 1 else m) := ⟨_, rfl⟩
    have ha' : (if (!back) = true then m - 1 else m) = a := by cases back <;> simp [ha]
    have hb' : (if (!back) = true then m else m - 1) = b := by cases back <;> simp [hb]
    rw [← ha, ← hb] at ho
    rw [ha', hb']
    have hB := blockAt_len (l := l) (j := m - 1) (by omega)
    have hga := hg a _ hB
    have h1 := hf a _ hB
    obtain ⟨c, hc⟩ : ∃ c, c = f (T a) (blockAt l (m - 1)) := ⟨_, rfl⟩
    rw [← hc] at h1 hga ho
    have hxl : (l.drop (16 * m) ++ c.drop r).length = 16 := by simp; omega
    have h2 := hf b _ hxl
    have hgb := hg b _ hxl
    obtain ⟨d, hd⟩ : ∃ d, d = f (T b) (l.drop (16 * m) ++ c.drop r) := ⟨_, rfl⟩
    rw [← hd] at h2 hgb ho
    have hH := headL_len hf (l := l) (m - 1) (by omega)
    -- what the turned text's parts are
    have o1 : headL g T out (m - 1) = l.take (16 * (m - 1)) := by rw [ho]; exact headL_back hf hg _ (by omega) _ (Nat.le_refl _)
    have o2 : blockAt out (m - 1) = d := by
      rw [ho]; unfold blockAt
      rw [List.drop_append_of_le_length (by omega), List.drop_of_length_le (by omega), List.nil_append]
      exact (List.take_append_of_le_length (by omega)).trans (List.take_of_length_le (by omega))
    have o3 : out.drop (16 * m) = c.take r := by
      rw [ho, ← List.append_assoc, List.drop_append_of_le_length (by rw [List.length_append]; omega), List.drop_of_length_le (by rw [List.length_append]; omega), List.nil_append]
    rw [o1, o2, o3, hgb]
    have hdl : (l.drop (16 * m)).length = r := by simp; omega
    have e1 : (l.drop (16 * m) ++ c.drop r).drop r = c.drop r := by
      rw [List.drop_append_of_le_length (by omega), List.drop_of_length_le (by omega), List.nil_append]
    have e2 : (l.drop (16 * m) ++ c.drop r).take r = l.drop (16 * m) := by
      rw [List.take_append_of_le_length (by omega), List.take_of_length_le (by omega)]
    rw [e1, e2, List.take_append_drop, hga, ← List.append_assoc, take_block, show m - 1 + 1 = m by omega, List.take_append_drop]
/-- Each block is turned by itself. -/
theorem headL_same {f g : List UInt8 → List UInt8 → List UInt8} {T : Nat → List UInt8} (hf : Wide f T) (hg : ∀ j x, x.length = 16 → g (T j) (f (T j) x) = x) {l l' : List UInt8} {m i : Nat} (hl : 16 * m ≤ l.length) (hl' : 16 * m ≤ l'.length) (hi : i < m) :
    blockAt (headL f T l m) i = blockAt (headL f T l' m) i ↔ blockAt l i = blockAt l' i := by
  have h1 := headL_block hf m [] hl i hi
  have h2 := headL_block hf m [] hl' i hi
  rw [List.append_nil] at h1 h2
  rw [h1, h2]
  refine ⟨fun h => ?_, fun h => by rw [h]⟩
  have := congrArg (g (T i)) h
  rwa [hg i _ (blockAt_len (by omega)), hg i _ (blockAt_len (by omega))] at this
theorem block_set {l : List UInt8} {k : Nat} {b : UInt8} (hk : k < l.length) (hb : b ≠ l.getD k 0) {i : Nat} : blockAt (l.set k b) i = blockAt l i ↔ k / 16 ≠ i := by
  unfold blockAt
  constructor
  · rintro h rfl
    have h1 := congrArg (·[k % 16]?) h
    simp only [List.getElem?_take, if_pos (Nat.mod_lt k (by decide : 0 < 16)), List.getElem?_drop] at h1
    rw [Nat.div_add_mod, List.getElem?_set_self hk, List.getElem?_eq_getElem hk, Option.some.injEq] at h1
    apply hb
    rw [List.getD_eq_getElem?_getD, List.getElem?_eq_getElem hk]
    exact h1
  · intro h
    apply List.ext_getElem?
    intro j
    simp only [List.getElem?_take, List.getElem?_drop]
    split
    · rw [List.getElem?_set_ne (by omega)]
    · rfl
end Go.Proofs.Ytknkkcbihaojhaa

namespace Go.Proofs.Ytknkkcbihaojhaa
open Go.ChangeShapes Go.WideShapes Go.ChangeAt Go.RowKit
/-- A block doubled so many times. -/
def dblIt (x : List UInt8) : Nat → List UInt8
  | 0 => x
  | j + 1 => dblB (dblIt x j)
theorem dblIt_zero (x : List UInt8) : dblIt x 0 = x := rfl
theorem dblIt_succ (x : List UInt8) (j : Nat) : dblIt x (j + 1) = dblB (dblIt x j) := rfl
theorem dblIt_len {x : List UInt8} (h : x.length = 16) : ∀ j, (dblIt x j).length = 16
  | 0 => h
  | _ + 1 => dblB_len _
/-- The tweak of block j of a sector. -/
def tweakV (key : List UInt8) (n j : Nat) : List UInt8 := dblIt (sealV key (leB n 8 ++ zs 8)) j
theorem tweakV_zero (key : List UInt8) (n : Nat) : tweakV key n 0 = sealV key (leB n 8 ++ zs 8) := rfl
theorem tweakV_succ (key : List UInt8) (n j : Nat) : tweakV key n (j + 1) = dblB (tweakV key n j) := rfl
theorem tweakV_it (key : List UInt8) (n j : Nat) : tweakV key n j = dblIt (tweakV key n 0) j := rfl
theorem num_len (n : Nat) : (leB n 8 ++ zs 8).length = 16 := by rw [List.length_append, leB_len, zs_len]
theorem tweakV_len {key : List UInt8} (h : key.length = 16 ∨ key.length = 32) (n j : Nat) : (tweakV key n j).length = 16 := dblIt_len (sealV_len h (num_len n)) j
/-- A block hidden, or shown, with a tweak. -/
def hideB (key t x : List UInt8) : List UInt8 := xorL (sealV key (xorL x t)) t
def showB (key t x : List UInt8) : List UInt8 := xorL (openV key (xorL x t)) t
theorem hideB_len {key t x : List UInt8} (h : key.length = 16 ∨ key.length = 32) (ht : t.length = 16) (hx : x.length = 16) : (hideB key t x).length = 16 := xorL_len _ _ 16 (sealV_len h (xorL_len _ _ 16 hx ht)) ht
theorem showB_len {key t x : List UInt8} (h : key.length = 16 ∨ key.length = 32) (ht : t.length = 16) (hx : x.length = 16) : (showB key t x).length = 16 := xorL_len _ _ 16 (openV_len h (xorL_len _ _ 16 hx ht)) ht
theorem open_seal {key x : List UInt8} (h : key.length = 16 ∨ key.length = 32) (hx : x.length = 16) : openV key (sealV key x) = x := dec_enc_all (rkeys_16 h) hx
theorem seal_open {key x : List UInt8} (h : key.length = 16 ∨ key.length = 32) (hx : x.length = 16) : sealV key (openV key x) = x := enc_dec_all (rkeys_16 h) hx
theorem show_hide {key t x : List UInt8} (h : key.length = 16 ∨ key.length = 32) (ht : t.length = 16) (hx : x.length = 16) : showB key t (hideB key t x) = x := by
  unfold showB hideB
  rw [xorL_twice (by rw [sealV_len h (xorL_len _ _ 16 hx ht), ht]), open_seal h (xorL_len _ _ 16 hx ht), xorL_twice (by rw [hx, ht])]
theorem hide_show {key t x : List UInt8} (h : key.length = 16 ∨ key.length = 32) (ht : t.length = 16) (hx : x.length = 16) : hideB key t (showB key t x) = x := by
  unfold showB hideB
  rw [xorL_twice (by rw [openV_len h (xorL_len _ _ 16 hx ht), ht]), seal_open h (xorL_len _ _ 16 hx ht), xorL_twice (by rw [hx, ht])]
/-- A text hidden, or shown: the key's halves. -/
def hideV (key : List UInt8) (n : Nat) (l : List UInt8) : List UInt8 := turnL (hideB (key.take (key.length / 2))) (tweakV (key.drop (key.length / 2)) n) false l
def showV (key : List UInt8) (n : Nat) (l : List UInt8) : List UInt8 := turnL (showB (key.take (key.length / 2))) (tweakV (key.drop (key.length / 2)) n) true l
theorem halves_len {key : List UInt8} (h : key.length = 32 ∨ key.length = 64) : ((key.take (key.length / 2)).length = 16 ∨ (key.take (key.length / 2)).length = 32) ∧ ((key.drop (key.length / 2)).length = 16 ∨ (key.drop (key.length / 2)).length = 32) := by
  simp; omega
theorem hide_wide {key : List UInt8} (h : key.length = 32 ∨ key.length = 64) (n : Nat) : Wide (hideB (key.take (key.length / 2))) (tweakV (key.drop (key.length / 2)) n) := fun j _ hx => hideB_len (halves_len h).1 (tweakV_len (halves_len h).2 n j) hx
theorem show_wide {key : List UInt8} (h : key.length = 32 ∨ key.length = 64) (n : Nat) : Wide (showB (key.take (key.length / 2))) (tweakV (key.drop (key.length / 2)) n) := fun j _ hx => showB_len (halves_len h).1 (tweakV_len (halves_len h).2 n j) hx
theorem hideV_len {key : List UInt8} (h : key.length = 32 ∨ key.length = 64) (n : Nat) {l : List UInt8} (hl : 16 ≤ l.length) : (hideV key n l).length = l.length := turnL_len (hide_wide h n) false hl
theorem showV_len {key : List UInt8} (h : key.length = 32 ∨ key.length = 64) (n : Nat) {l : List UInt8} (hl : 16 ≤ l.length) : (showV key n l).length = l.length := turnL_len (show_wide h n) true hl
theorem showV_hideV {key : List UInt8} (h : key.length = 32 ∨ key.length = 64) (n : Nat) {l : List UInt8} (hl : 16 ≤ l.length) : showV key n (hideV key n l) = l :=
  turnL_back (hide_wide h n) (fun j _ hx => show_hide (halves_len h).1 (tweakV_len (halves_len h).2 n j) hx) false hl
theorem hideV_showV {key : List UInt8} (h : key.length = 32 ∨ key.length = 64) (n : Nat) {l : List UInt8} (hl : 16 ≤ l.length) : hideV key n (showV key n l) = l :=
  turnL_back (show_wide h n) (fun j _ hx => hide_show (halves_len h).1 (tweakV_len (halves_len h).2 n j) hx) true hl
/-- The fixed fact ahead of all these laws. -/
theorem alive_is : (hideV (zs 32) 0 (zs 32)).getD 0 0 = 0x91 ∧ (hideV (zs 32) 0 (zs 32)).getD 31 0 = 0x2e := by decide +kernel
attribute [irreducible] dblIt tweakV hideB showB hideV showV
end Go.Proofs.Ytknkkcbihaojhaa

namespace Go.Proofs.Ytknkkcbihaojhaa
open Go.ChangeShapes Go.WideShapes Go.ChangeAt Go.RowKit
attribute [local irreducible] xorL sboxL subB sealV openV
/-- A whole number as a number without a sign. -/
def u64N (n : Int) : Nat := (n % 18446744073709551616).toNat
theorem u64N_is (n : Int) : IntKind.u64.wrap n = (u64N n : Int) := by rw [IntKind.wrap_u64]; unfold u64N; omega
theorem u64N_lt (n : Int) : u64N n < 18446744073709551616 := by unfold u64N; omega
theorem u64N_zero : u64N 0 = 0 := by unfold u64N; rfl
attribute [irreducible] u64N
theorem num_ovw (N : Nat) : ovw (bvs (zs 16)) 0 (leB N 8) = bvs (leB N 8 ++ zs 8) := by
  rw [ovw_bvs, leB_len, List.take_zero, List.nil_append]
  congr 2
  unfold zs
  rfl
set_option maxRecDepth 100000 in
set_option maxHeartbeats 1000000 in
theorem tweak_any (key : List UInt8) (n : Int) (v : Value) (w : World) (X : Value) (R : List UInt8) (hR : R.length = 16) (hv : BytesAt w v key)
    (hseal : ∀ w', BytesAt w' v key → Calls Try.prog 65 #[v, .agg (bvs (leB (u64N n) 8 ++ zs 8))] w' fun e w2 => e = .returned (.tuple #[.agg (bvs R), X]) ∧ Below w'.heap.size w' w2) :
    Calls Try.prog 41 #[v, .int .i64 n] w fun e w' => e = .returned (.tuple #[.agg (bvs R), X]) ∧ Below w.heap.size w w' := by
  have s1 : csz (bvs (zs 16)) = 16 := by rw [csz_bvs, zs_len]
  have s2 : csz (bvs (leB (u64N n) 8 ++ zs 8)) = 16 := by rw [csz_bvs, num_len]
  have s3 : csz (bvs R) = 16 := by rw [csz_bvs, hR]
  have z := zs16; have e0 := zs_ne
  have E0 := hid (u64N_is n)
  have E1 := hid (num_ovw (u64N n))
  have HV := hid hv; have HS := hid hseal
  clear hv hseal hR
  generalize u64N n = N at *
  go_enter Try.func41, Try.ntmps41
  go_wp2_with fail
  rw [E0.out]
  (with_reducible refine (putLittle_any _ _ _ _ (bvs (zs 16)) _ _ _ (by go_simp; first | done | rfl | exact ⟨rfl, rfl⟩) (by rw [s1]; omega) (by omega) (by unfold maxLen; omega)).mono ?_)
  rintro e w1 ⟨rfl, rfl⟩
  rw [E1.out]
  go_wp2_with fail
  (with_reducible refine (HS.out _ (HV.out.below (by repeat (first | (with_reducible exact Below.refl _ _) | (with_reducible assumption) | (with_reducible exact grow_below _ _) | (with_reducible exact St.below (by assumption)) | (with_reducible refine below_grow ?_ _) | (with_reducible refine Below.alloc ?_ (by first | omega | (simp; done) | (simp [go_sem]; done) | (simp [go_sem]; omega)) _) | (with_reducible exact (St.put1 (by assumption) _).below) | (with_reducible exact (St.put2 (by assumption) _ _).below) | (with_reducible exact (St.put3 (by assumption) _ _ _).below) | (with_reducible exact (St.put4 (by assumption) _ _ _ _).below) | (with_reducible refine below_put ?_ (by first | omega | (simp [go_sem]; omega)) _ _) | (with_reducible refine Below.drew ?_) | (with_reducible refine Below.setCell ?_ (by first | omega | (simp [go_sem]; omega)) _) | (with_reducible refine below_setRow' ?_ (by first | omega | (simp [go_sem]; omega)) _) | (with_reducible refine below_drewN' ?_ _))))).mono ?_)
  rintro e wg ⟨rfl, hb⟩
  obtain ⟨g1, rfl⟩ := grow_of hb
  clear hb
  go_wp2
  exact post_cell_tmp (n := 16) Try.results41 (by kernel_rfl) (.inl rfl) _ _ _ _ rfl rfl (by go_simp; first | done | rfl | exact ⟨rfl, rfl⟩) (by first | (rw [← csz_is]; assumption) | rfl) ⟨rfl, (by repeat (first | (with_reducible exact Below.refl _ _) | (with_reducible assumption) | (with_reducible exact grow_below _ _) | (with_reducible exact St.below (by assumption)) | (with_reducible refine below_grow ?_ _) | (with_reducible refine Below.alloc ?_ (by first | omega | (simp; done) | (simp [go_sem]; done) | (simp [go_sem]; omega)) _) | (with_reducible exact (St.put1 (by assumption) _).below) | (with_reducible exact (St.put2 (by assumption) _ _).below) | (with_reducible exact (St.put3 (by assumption) _ _ _).below) | (with_reducible exact (St.put4 (by assumption) _ _ _ _).below) | (with_reducible refine below_put ?_ (by first | omega | (simp [go_sem]; omega)) _ _) | (with_reducible refine Below.drew ?_) | (with_reducible refine Below.setCell ?_ (by first | omega | (simp [go_sem]; omega)) _) | (with_reducible refine below_setRow' ?_ (by first | omega | (simp [go_sem]; omega)) _) | (with_reducible refine below_drewN' ?_ _)))⟩
theorem tweak_good (key : List UInt8) (h : key.length = 16 ∨ key.length = 32) (n : Int) (v : Value) (w : World) (hv : BytesAt w v key) :
    Calls Try.prog 41 #[v, .int .i64 n] w fun e w' => e = .returned (.tuple #[.agg (bvs (tweakV key (u64N n) 0)), .nilIface]) ∧ Below w.heap.size w w' := by
  have e : tweakV key (u64N n) 0 = sealV key (leB (u64N n) 8 ++ zs 8) := tweakV_zero _ _
  rw [e]
  exact tweak_any key n v w _ _ (sealV_len h (num_len _)) hv fun w' hv' => seal_good key _ h (num_len _) v w' hv'
theorem tweak_bad (key : List UInt8) (h : ¬ (key.length = 16 ∨ key.length = 32)) (hm : key.length ≤ maxLen) (n : Int) (v : Value) (w : World) (hv : BytesAt w v key) :
    Calls Try.prog 41 #[v, .int .i64 n] w fun e w' => e = .returned (.tuple #[.agg (bvs (zs 16)), .iface 44 (.int .i64 3)]) ∧ Below w.heap.size w w' :=
  tweak_any key n v w _ _ (zs_len 16) hv fun w' hv' => seal_bad key _ h hm (num_len _) v w' hv'
set_option maxRecDepth 100000 in
set_option maxHeartbeats 1000000 in
theorem hideBlock_good (key t x : List UInt8) (h : key.length = 16 ∨ key.length = 32) (ht : t.length = 16) (hx : x.length = 16) (v : Value) (w : World) (hv : BytesAt w v key) :
    Calls Try.prog 43 #[v, .agg (bvs t), .agg (bvs x)] w fun e w' => e = .returned (.tuple #[.agg (bvs (hideB key t x)), .nilIface]) ∧ Below w.heap.size w w' := by
  have hX := xorL_len _ _ 16 hx ht
  have HS := hid (fun w' (hv' : BytesAt w' v key) => seal_good key _ h hX v w' hv')
  have hR : (sealV key (xorL x t)).length = 16 := sealV_len h hX
  have H1 := hid (xor_any x t hx ht)
  have H2 := hid (xor_any _ t hR ht)
  have E := hid (show xorL (sealV key (xorL x t)) t = hideB key t x by unfold hideB; rfl)
  rw [E.out] at H2
  have s1 : csz (bvs (zs 16)) = 16 := by rw [csz_bvs, zs_len]
  have s2 : csz (bvs t) = 16 := by rw [csz_bvs, ht]
  have s3 : csz (bvs x) = 16 := by rw [csz_bvs, hx]
  have s4 : csz (bvs (hideB key t x)) = 16 := by rw [csz_bvs, hideB_len h ht hx]
  have s5 : csz (bvs (sealV key (xorL x t))) = 16 := by rw [csz_bvs, hR]
  have z := zs16; have e0 := zs_ne
  have HV := hid hv
  clear hv hX hR h ht hx E
  go_enter Try.func43, Try.ntmps43
  go_wp2_with fail
  (with_reducible refine (H1.out _).mono ?_)
  rintro e wg ⟨rfl, hb⟩
  obtain ⟨g1, rfl⟩ := grow_of hb
  clear hb
  go_wp2_with fail
  (with_reducible refine (HS.out _ (HV.out.below (by repeat (first | (with_reducible exact Below.refl _ _) | (with_reducible assumption) | (with_reducible exact grow_below _ _) | (with_reducible exact St.below (by assumption)) | (with_reducible refine below_grow ?_ _) | (with_reducible refine Below.alloc ?_ (by first | omega | (simp; done) | (simp [go_sem]; done) | (simp [go_sem]; omega)) _) | (with_reducible exact (St.put1 (by assumption) _).below) | (with_reducible exact (St.put2 (by assumption) _ _).below) | (with_reducible exact (St.put3 (by assumption) _ _ _).below) | (with_reducible exact (St.put4 (by assumption) _ _ _ _).below) | (with_reducible refine below_put ?_ (by first | omega | (simp [go_sem]; omega)) _ _) | (with_reducible refine Below.drew ?_) | (with_reducible refine Below.setCell ?_ (by first | omega | (simp [go_sem]; omega)) _) | (with_reducible refine below_setRow' ?_ (by first | omega | (simp [go_sem]; omega)) _) | (with_reducible refine below_drewN' ?_ _))))).mono ?_)
  rintro e wg ⟨rfl, hb⟩
  obtain ⟨g2, rfl⟩ := grow_of hb
  clear hb
  go_wp2_with fail
  (with_reducible refine (H2.out _).mono ?_)
  rintro e wg ⟨rfl, hb⟩
  obtain ⟨g3, rfl⟩ := grow_of hb
  clear hb
  go_wp2
  exact post_cell_tmp (n := 16) Try.results43 (by kernel_rfl) (.inl rfl) _ _ _ _ rfl rfl (by go_simp; first | done | rfl | exact ⟨rfl, rfl⟩) (by first | (rw [← csz_is]; assumption) | rfl) ⟨rfl, (by repeat (first | (with_reducible exact Below.refl _ _) | (with_reducible assumption) | (with_reducible exact grow_below _ _) | (with_reducible exact St.below (by assumption)) | (with_reducible refine below_grow ?_ _) | (with_reducible refine Below.alloc ?_ (by first | omega | (simp; done) | (simp [go_sem]; done) | (simp [go_sem]; omega)) _) | (with_reducible exact (St.put1 (by assumption) _).below) | (with_reducible exact (St.put2 (by assumption) _ _).below) | (with_reducible exact (St.put3 (by assumption) _ _ _).below) | (with_reducible exact (St.put4 (by assumption) _ _ _ _).below) | (with_reducible refine below_put ?_ (by first | omega | (simp [go_sem]; omega)) _ _) | (with_reducible refine Below.drew ?_) | (with_reducible refine Below.setCell ?_ (by first | omega | (simp [go_sem]; omega)) _) | (with_reducible refine below_setRow' ?_ (by first | omega | (simp [go_sem]; omega)) _) | (with_reducible refine below_drewN' ?_ _)))⟩
set_option maxRecDepth 100000 in
set_option maxHeartbeats 1000000 in
theorem hideBlock_bad (key t x : List UInt8) (h : ¬ (key.length = 16 ∨ key.length = 32)) (hm : key.length ≤ maxLen) (ht : t.length = 16) (hx : x.length = 16) (v : Value) (w : World) (hv : BytesAt w v key) :
    Calls Try.prog 43 #[v, .agg (bvs t), .agg (bvs x)] w fun e w' => e = .returned (.tuple #[.agg (bvs (zs 16)), .iface 44 (.int .i64 3)]) ∧ Below w.heap.size w w' := by
  have hX := xorL_len _ _ 16 hx ht
  have HS := hid (fun w' (hv' : BytesAt w' v key) => seal_bad key _ h hm hX v w' hv')
  have H1 := hid (xor_any x t hx ht)
  have s1 : csz (bvs (zs 16)) = 16 := by rw [csz_bvs, zs_len]
  have s2 : csz (bvs t) = 16 := by rw [csz_bvs, ht]
  have s3 : csz (bvs x) = 16 := by rw [csz_bvs, hx]
  have z := zs16; have e0 := zs_ne
  have HV := hid hv
  clear hv hX h ht hx
  go_enter Try.func43, Try.ntmps43
  go_wp2_with fail
  (with_reducible refine (H1.out _).mono ?_)
  rintro e wg ⟨rfl, hb⟩
  obtain ⟨g1, rfl⟩ := grow_of hb
  clear hb
  go_wp2_with fail
  (with_reducible refine (HS.out _ (HV.out.below (by repeat (first | (with_reducible exact Below.refl _ _) | (with_reducible assumption) | (with_reducible exact grow_below _ _) | (with_reducible exact St.below (by assumption)) | (with_reducible refine below_grow ?_ _) | (with_reducible refine Below.alloc ?_ (by first | omega | (simp; done) | (simp [go_sem]; done) | (simp [go_sem]; omega)) _) | (with_reducible exact (St.put1 (by assumption) _).below) | (with_reducible exact (St.put2 (by assumption) _ _).below) | (with_reducible exact (St.put3 (by assumption) _ _ _).below) | (with_reducible exact (St.put4 (by assumption) _ _ _ _).below) | (with_reducible refine below_put ?_ (by first | omega | (simp [go_sem]; omega)) _ _) | (with_reducible refine Below.drew ?_) | (with_reducible refine Below.setCell ?_ (by first | omega | (simp [go_sem]; omega)) _) | (with_reducible refine below_setRow' ?_ (by first | omega | (simp [go_sem]; omega)) _) | (with_reducible refine below_drewN' ?_ _))))).mono ?_)
  rintro e wg ⟨rfl, hb⟩
  obtain ⟨g2, rfl⟩ := grow_of hb
  clear hb
  go_wp2
  exact post_cell_tmp (n := 16) Try.results43 (by kernel_rfl) (.inl rfl) _ _ _ _ rfl rfl (by go_simp; first | done | rfl | exact ⟨rfl, rfl⟩) (by first | (rw [← csz_is]; assumption) | rfl) ⟨rfl, (by repeat (first | (with_reducible exact Below.refl _ _) | (with_reducible assumption) | (with_reducible exact grow_below _ _) | (with_reducible exact St.below (by assumption)) | (with_reducible refine below_grow ?_ _) | (with_reducible refine Below.alloc ?_ (by first | omega | (simp; done) | (simp [go_sem]; done) | (simp [go_sem]; omega)) _) | (with_reducible exact (St.put1 (by assumption) _).below) | (with_reducible exact (St.put2 (by assumption) _ _).below) | (with_reducible exact (St.put3 (by assumption) _ _ _).below) | (with_reducible exact (St.put4 (by assumption) _ _ _ _).below) | (with_reducible refine below_put ?_ (by first | omega | (simp [go_sem]; omega)) _ _) | (with_reducible refine Below.drew ?_) | (with_reducible refine Below.setCell ?_ (by first | omega | (simp [go_sem]; omega)) _) | (with_reducible refine below_setRow' ?_ (by first | omega | (simp [go_sem]; omega)) _) | (with_reducible refine below_drewN' ?_ _)))⟩
theorem refSeal_any (key x : List UInt8) (_h : key.length = 16 ∨ key.length = 32) (hx : x.length = 16) (hm : key.length ≤ 100000) (v : Value) (w : World) (hr : RowsAt w 16 v (rkeys key)) :
    Calls Try.prog 36 #[v, .agg (bvs x)] w fun e w' => e = .returned (.agg (bvs (sealV key x))) ∧ Below w.heap.size w w' := by
  unfold sealV
  exact refEncrypt_any (rkeys key) x hx v w (keysAt_rows hr) (by rw [rkeys_len]; omega)
set_option maxRecDepth 100000 in
set_option maxHeartbeats 1000000 in
theorem refBlock_any (key t x : List UInt8) (h : key.length = 16 ∨ key.length = 32) (ht : t.length = 16) (hx : x.length = 16) (v : Value) (w : World) (hr : RowsAt w 16 v (rkeys key)) :
    Calls Try.prog 40 #[v, .agg (bvs t), .agg (bvs x)] w fun e w' => e = .returned (.agg (bvs (hideB key t x))) ∧ Below w.heap.size w w' := by
  have hX := xorL_len _ _ 16 hx ht
  have HS := hid (fun w' (hv' : RowsAt w' 16 v (rkeys key)) => refSeal_any key _ h hX (by omega) v w' hv')
  have hR : (sealV key (xorL x t)).length = 16 := sealV_len h hX
  have H1 := hid (refXor_any x t hx ht)
  have H2 := hid (refXor_any _ t hR ht)
  have E := hid (show xorL (sealV key (xorL x t)) t = hideB key t x by unfold hideB; rfl)
  rw [E.out] at H2
  have s1 : csz (bvs (zs 16)) = 16 := by rw [csz_bvs, zs_len]
  have s2 : csz (bvs t) = 16 := by rw [csz_bvs, ht]
  have s3 : csz (bvs x) = 16 := by rw [csz_bvs, hx]
  have s4 : csz (bvs (hideB key t x)) = 16 := by rw [csz_bvs, hideB_len h ht hx]
  have z := zs16; have e0 := zs_ne
  have HV := hid hr
  clear hr hX hR h ht hx E
  go_enter Try.func40, Try.ntmps40
  go_wp2_with fail
  refine region_tail_lit (by kernel_rfl) (by kernel_rfl) ?_
  dsimp only [List.dropLast, List.getLast?, List.getLast, Option.getD]
  repeat (first | (refine BigFrame.wpQuiet_skip rfl ?_; simp only [Act.put, List.setIfInBounds_toArray, List.set_cons_zero, List.set_cons_succ]) | (refine BigFrame.wpQuiet_want rfl (fun K hK => ?_); apply Exists.intro; refine ⟨fun w' hw' => ?_, hK _ ?_⟩; (focus (have zw := hw'; obtain ⟨zg, rfl⟩ := grow_of hw'; go_simp; (try (go_bits; go_simp)); first | done | rfl | (first | ((with_reducible refine (H1.out _).mono fun e w2 h2 => ⟨h2.1, zw.step h2.2⟩)) | ((with_reducible refine (HS.out _ ?_).mono fun e w2 h2 => ⟨h2.1, zw.step h2.2⟩); exact HV.out.below (by repeat (first | (with_reducible exact Below.refl _ _) | (with_reducible assumption) | (with_reducible exact grow_below _ _) | (with_reducible exact St.below (by assumption)) | (with_reducible refine below_grow ?_ _) | (with_reducible refine Below.alloc ?_ (by first | omega | (simp; done) | (simp [go_sem]; done) | (simp [go_sem]; omega)) _) | (with_reducible exact (St.put1 (by assumption) _).below) | (with_reducible exact (St.put2 (by assumption) _ _).below) | (with_reducible exact (St.put3 (by assumption) _ _ _).below) | (with_reducible exact (St.put4 (by assumption) _ _ _ _).below) | (with_reducible refine below_put ?_ (by first | omega | (simp [go_sem]; omega)) _ _) | (with_reducible refine Below.drew ?_) | (with_reducible refine Below.setCell ?_ (by first | omega | (simp [go_sem]; omega)) _) | (with_reducible refine below_setRow' ?_ (by first | omega | (simp [go_sem]; omega)) _) | (with_reducible refine below_drewN' ?_ _)))) | ((with_reducible refine (H2.out _).mono fun e w2 h2 => ⟨h2.1, zw.step h2.2⟩))))); clear hK K; simp only [Act.put, List.setIfInBounds_toArray, List.set_cons_zero, List.set_cons_succ]))
  refine wpQuiet_nil ?_
  intro wq hcq
  obtain ⟨gq, rfl⟩ := grow_of hcq
  clear hcq
  go_wp2
  exact post_cell (n := 16) Try.results40 (by kernel_rfl) (.inl rfl) _ _ _ _ rfl rfl (by go_simp; first | done | rfl | exact ⟨rfl, rfl⟩) (by first | (rw [← csz_is]; assumption) | rfl) ⟨rfl, (by repeat (first | (with_reducible exact Below.refl _ _) | (with_reducible assumption) | (with_reducible exact grow_below _ _) | (with_reducible exact St.below (by assumption)) | (with_reducible refine below_grow ?_ _) | (with_reducible refine Below.alloc ?_ (by first | omega | (simp; done) | (simp [go_sem]; done) | (simp [go_sem]; omega)) _) | (with_reducible exact (St.put1 (by assumption) _).below) | (with_reducible exact (St.put2 (by assumption) _ _).below) | (with_reducible exact (St.put3 (by assumption) _ _ _).below) | (with_reducible exact (St.put4 (by assumption) _ _ _ _).below) | (with_reducible refine below_put ?_ (by first | omega | (simp [go_sem]; omega)) _ _) | (with_reducible refine Below.drew ?_) | (with_reducible refine Below.setCell ?_ (by first | omega | (simp [go_sem]; omega)) _) | (with_reducible refine below_setRow' ?_ (by first | omega | (simp [go_sem]; omega)) _) | (with_reducible refine below_drewN' ?_ _)))⟩
end Go.Proofs.Ytknkkcbihaojhaa
