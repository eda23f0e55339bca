/-
  Laws that the claims of this seat use, of several texts in one: EngA, TyI, Slices7, Xor7, DoubleRefP, XorRefP, RefDouble, TweakP, TweakV, TweakW, TweakI. No condition of their own.
-/
import Derived.Test.YtkfggilildiflabRows
import Derived.Test.YtkfggilildiflabJB0

namespace Go.Proofs.Ytkfggilildiflab
open Go.RowKit
section
variable {P : Program} {ops : Array Oper} {W : List Oper → Act → World → Prop} {o : Oper} {rest : List Oper} {a : Act} {w : World} {v : Value} {B : Nat} {H : World → List Blk → Prop} {L : List Blk} {C : World → Prop}
theorem g_move {x : Operand} (hStp : Stp P ops W) (hk : W rest (a.put o.dst (v)) w) (hop : o.op = .move x := by rfl) (hx : evO a x = some v := by rfl) (hw : Region.wanted o (yielded ops a.tmps) = true := by rfl) (hd : isDefer o = false := by rfl) : W (o :: rest) a w := hStp.go hw hd (r_move hop hx) hk
theorem q_move {x : Operand} (hop : o.op = .move x := by rfl) (hx : evO a x = some v := by rfl) : o.quietAt P a C w (v) := q_val (r_move hop hx)
theorem g_assign {x : Operand} (hStp : Stp P ops W) (hk : W rest (a.put o.dst (v)) w) (hop : o.op = .assign x := by rfl) (hx : evO a x = some v := by rfl) (hw : Region.wanted o (yielded ops a.tmps) = true := by rfl) (hd : isDefer o = false := by rfl) : W (o :: rest) a w := hStp.go hw hd (r_assign hop hx) hk
theorem q_assign {x : Operand} (hop : o.op = .assign x := by rfl) (hx : evO a x = some v := by rfl) : o.quietAt P a C w (v) := q_val (r_assign hop hx)
theorem g_load1 {t : TypeId} {x : Operand} {b off : Nat} {cs : Array Value} {ty : TypeId} {i : Nat} (hStp : Stp P ops W) (hH : Own B H) (hS : H w L) (hk : W rest (a.put o.dst (v)) w) (hop : o.op = .load t x := by rfl) (hx : evO a x = some (.pointer (some ⟨b, off, none⟩)) := by rfl) (h1 : OneT P t := by infer_instance) (hi : L[i]? = some (b, cs, ty) := by first | exact at_ 0 rfl | exact at_ 1 rfl | exact at_ 2 rfl | exact at_ 3 rfl | exact at_ 4 rfl | exact at_ 5 rfl | exact at_ 6 rfl | exact at_ 7 rfl | exact at_ 8 rfl | exact at_ 9 rfl | exact at_ 10 rfl | exact at_ 11 rfl | exact at_ 12 rfl | exact at_ 13 rfl) (hv : cs.toList[off]? = some v := by first | rfl | exact bvs_getL (by (try simp only [List.length_append, List.length_set, zs_len, List.length_take, List.length_drop, List.length_cons, List.length_nil, List.length_map]); omega)) (hw : Region.wanted o (yielded ops a.tmps) = true := by rfl) (hd : isDefer o = false := by rfl) : W (o :: rest) a w := hStp.go hw hd (r_load1 hop hx h1 (hH.blk i hS hi) hv) hk
theorem q_load1 {t : TypeId} {x : Operand} {b off : Nat} {cs : Array Value} {ty : TypeId} {i : Nat} (hH : Own B H) (hS : H w L) (hop : o.op = .load t x := by rfl) (hx : evO a x = some (.pointer (some ⟨b, off, none⟩)) := by rfl) (h1 : OneT P t := by infer_instance) (hi : L[i]? = some (b, cs, ty) := by first | exact at_ 0 rfl | exact at_ 1 rfl | exact at_ 2 rfl | exact at_ 3 rfl | exact at_ 4 rfl | exact at_ 5 rfl | exact at_ 6 rfl | exact at_ 7 rfl | exact at_ 8 rfl | exact at_ 9 rfl | exact at_ 10 rfl | exact at_ 11 rfl | exact at_ 12 rfl | exact at_ 13 rfl) (hv : cs.toList[off]? = some v := by first | rfl | exact bvs_getL (by (try simp only [List.length_append, List.length_set, zs_len, List.length_take, List.length_drop, List.length_cons, List.length_nil, List.length_map]); omega)) : o.quietAt P a C w (v) := q_val (r_load1 hop hx h1 (hH.blk i hS hi) hv)
theorem g_load1F {t : TypeId} {x : Operand} {b off : Nat} {cs : Array Value} {ty : TypeId} {fr : Nat × Nat} (hStp : Stp P ops W) (hb : blk w b = some (.cells cs ty fr)) (hk : W rest (a.put o.dst (v)) w) (hop : o.op = .load t x := by rfl) (hx : evO a x = some (.pointer (some ⟨b, off, none⟩)) := by rfl) (h1 : OneT P t := by infer_instance) (hv : cs.toList[off]? = some v := by first | rfl | exact bvs_getL (by (try simp only [List.length_append, List.length_set, zs_len, List.length_take, List.length_drop, List.length_cons, List.length_nil, List.length_map]); omega)) (hw : Region.wanted o (yielded ops a.tmps) = true := by rfl) (hd : isDefer o = false := by rfl) : W (o :: rest) a w := hStp.go hw hd (r_load1 hop hx h1 hb hv) hk
theorem q_load1F {t : TypeId} {x : Operand} {b off : Nat} {cs : Array Value} {ty : TypeId} {fr : Nat × Nat} (hb : blk w b = some (.cells cs ty fr)) (hop : o.op = .load t x := by rfl) (hx : evO a x = some (.pointer (some ⟨b, off, none⟩)) := by rfl) (h1 : OneT P t := by infer_instance) (hv : cs.toList[off]? = some v := by first | rfl | exact bvs_getL (by (try simp only [List.length_append, List.length_set, zs_len, List.length_take, List.length_drop, List.length_cons, List.length_nil, List.length_map]); omega)) : o.quietAt P a C w (v) := q_val (r_load1 hop hx h1 hb hv)
theorem g_loadR {t : TypeId} {x : Operand} {n b off : Nat} {cs vs : Array Value} {ty : TypeId} {i : Nat} (hStp : Stp P ops W) (hH : Own B H) (hS : H w L) (hk : W rest (a.put o.dst ((.agg vs))) w) (hop : o.op = .load t x := by rfl) (hx : evO a x = some (.pointer (some ⟨b, off, none⟩)) := by rfl) (h1 : RowT P t n := by infer_instance) (hi : L[i]? = some (b, cs, ty) := by first | exact at_ 0 rfl | exact at_ 1 rfl | exact at_ 2 rfl | exact at_ 3 rfl | exact at_ 4 rfl | exact at_ 5 rfl | exact at_ 6 rfl | exact at_ 7 rfl | exact at_ 8 rfl | exact at_ 9 rfl | exact at_ 10 rfl | exact at_ 11 rfl | exact at_ 12 rfl | exact at_ 13 rfl) (hn : off + n ≤ csz cs := by (try simp only [csz_setc, csz_bvs, csz_list, List.length_append, List.length_set, zs_len, List.length_take, List.length_drop, List.length_cons, List.length_nil, List.length_map]); first | done | rfl | omega) (hv : cut cs off n = vs := by first | exact cut_whole _ _ (by (try simp only [csz_setc, csz_bvs, csz_list, List.length_append, List.length_set, zs_len, List.length_take, List.length_drop, List.length_cons, List.length_nil, List.length_map]); first | done | rfl | omega) | rfl) (hw : Region.wanted o (yielded ops a.tmps) = true := by rfl) (hd : isDefer o = false := by rfl) : W (o :: rest) a w := hStp.go hw hd (r_loadR hop hx h1 (hH.blk i hS hi) hn hv) hk
theorem q_loadR {t : TypeId} {x : Operand} {n b off : Nat} {cs vs : Array Value} {ty : TypeId} {i : Nat} (hH : Own B H) (hS : H w L) (hop : o.op = .load t x := by rfl) (hx : evO a x = some (.pointer (some ⟨b, off, none⟩)) := by rfl) (h1 : RowT P t n := by infer_instance) (hi : L[i]? = some (b, cs, ty) := by first | exact at_ 0 rfl | exact at_ 1 rfl | exact at_ 2 rfl | exact at_ 3 rfl | exact at_ 4 rfl | exact at_ 5 rfl | exact at_ 6 rfl | exact at_ 7 rfl | exact at_ 8 rfl | exact at_ 9 rfl | exact at_ 10 rfl | exact at_ 11 rfl | exact at_ 12 rfl | exact at_ 13 rfl) (hn : off + n ≤ csz cs := by (try simp only [csz_setc, csz_bvs, csz_list, List.length_append, List.length_set, zs_len, List.length_take, List.length_drop, List.length_cons, List.length_nil, List.length_map]); first | done | rfl | omega) (hv : cut cs off n = vs := by first | exact cut_whole _ _ (by (try simp only [csz_setc, csz_bvs, csz_list, List.length_append, List.length_set, zs_len, List.length_take, List.length_drop, List.length_cons, List.length_nil, List.length_map]); first | done | rfl | omega) | rfl) : o.quietAt P a C w ((.agg vs)) := q_val (r_loadR hop hx h1 (hH.blk i hS hi) hn hv)
theorem g_loadRF {t : TypeId} {x : Operand} {n b off : Nat} {cs vs : Array Value} {ty : TypeId} {fr : Nat × Nat} (hStp : Stp P ops W) (hb : blk w b = some (.cells cs ty fr)) (hk : W rest (a.put o.dst ((.agg vs))) w) (hop : o.op = .load t x := by rfl) (hx : evO a x = some (.pointer (some ⟨b, off, none⟩)) := by rfl) (h1 : RowT P t n := by infer_instance) (hn : off + n ≤ csz cs := by (try simp only [csz_setc, csz_bvs, csz_list, List.length_append, List.length_set, zs_len, List.length_take, List.length_drop, List.length_cons, List.length_nil, List.length_map]); first | done | rfl | omega) (hv : cut cs off n = vs := by first | exact cut_whole _ _ (by (try simp only [csz_setc, csz_bvs, csz_list, List.length_append, List.length_set, zs_len, List.length_take, List.length_drop, List.length_cons, List.length_nil, List.length_map]); first | done | rfl | omega) | rfl) (hw : Region.wanted o (yielded ops a.tmps) = true := by rfl) (hd : isDefer o = false := by rfl) : W (o :: rest) a w := hStp.go hw hd (r_loadR hop hx h1 hb hn hv) hk
theorem q_loadRF {t : TypeId} {x : Operand} {n b off : Nat} {cs vs : Array Value} {ty : TypeId} {fr : Nat × Nat} (hb : blk w b = some (.cells cs ty fr)) (hop : o.op = .load t x := by rfl) (hx : evO a x = some (.pointer (some ⟨b, off, none⟩)) := by rfl) (h1 : RowT P t n := by infer_instance) (hn : off + n ≤ csz cs := by (try simp only [csz_setc, csz_bvs, csz_list, List.length_append, List.length_set, zs_len, List.length_take, List.length_drop, List.length_cons, List.length_nil, List.length_map]); first | done | rfl | omega) (hv : cut cs off n = vs := by first | exact cut_whole _ _ (by (try simp only [csz_setc, csz_bvs, csz_list, List.length_append, List.length_set, zs_len, List.length_take, List.length_drop, List.length_cons, List.length_nil, List.length_map]); first | done | rfl | omega) | rfl) : o.quietAt P a C w ((.agg vs)) := q_val (r_loadR hop hx h1 hb hn hv)
theorem g_indexAddr {t : TypeId} {x y : Operand} {m b off n c q : Nat} {k : IntKind} {i : Int} (hStp : Stp P ops W) (hk : W rest (a.put o.dst ((.pointer (some ⟨b, q, none⟩)))) w) (hop : o.op = .indexAddr t x y := by rfl) (hx : evO a x = some (.slice (some ⟨b, off, none⟩) n c) := by rfl) (hy : evO a y = some (.int k i) := by rfl) (hm : ElT P t m := by infer_instance) (h0 : 0 ≤ i ∧ i < (n : Int) := by omega) (hq : off + i.toNat * m = q := by (try conv => lhs; simp only [Int.toNat_natCast, Int.toNat_zero, Int.toNat_one, Int.reduceToNat, Int.toNat_natCast_add_one, Int.ofNat_eq_natCast, Nat.mul_one, Nat.one_mul, Nat.zero_add, Nat.add_zero, Nat.sub_zero, Nat.zero_mul, Nat.reduceAdd, Nat.reduceMul, Nat.reduceSub]); first | done | rfl) (hw : Region.wanted o (yielded ops a.tmps) = true := by rfl) (hd : isDefer o = false := by rfl) : W (o :: rest) a w := hStp.go hw hd (r_indexAddr hop hx hy hm h0 hq) hk
theorem q_indexAddr {t : TypeId} {x y : Operand} {m b off n c q : Nat} {k : IntKind} {i : Int} (hop : o.op = .indexAddr t x y := by rfl) (hx : evO a x = some (.slice (some ⟨b, off, none⟩) n c) := by rfl) (hy : evO a y = some (.int k i) := by rfl) (hm : ElT P t m := by infer_instance) (h0 : 0 ≤ i ∧ i < (n : Int) := by omega) (hq : off + i.toNat * m = q := by (try conv => lhs; simp only [Int.toNat_natCast, Int.toNat_zero, Int.toNat_one, Int.reduceToNat, Int.toNat_natCast_add_one, Int.ofNat_eq_natCast, Nat.mul_one, Nat.one_mul, Nat.zero_add, Nat.add_zero, Nat.sub_zero, Nat.zero_mul, Nat.reduceAdd, Nat.reduceMul, Nat.reduceSub]); first | done | rfl) : o.quietAt P a C w ((.pointer (some ⟨b, q, none⟩))) := q_val (r_indexAddr hop hx hy hm h0 hq)
theorem g_indexAddrA {t : TypeId} {x y : Operand} {m b off n q : Nat} {k : IntKind} {i : Int} (hStp : Stp P ops W) (hk : W rest (a.put o.dst ((.pointer (some ⟨b, q, none⟩)))) w) (hop : o.op = .indexAddr t x y := by rfl) (hx : evO a x = some (.pointer (some ⟨b, off, none⟩)) := by rfl) (hy : evO a y = some (.int k i) := by rfl) (hm : ArT P t n m := by infer_instance) (h0 : 0 ≤ i ∧ i < (n : Int) := by omega) (hq : off + i.toNat * m = q := by (try conv => lhs; simp only [Int.toNat_natCast, Int.toNat_zero, Int.toNat_one, Int.reduceToNat, Int.toNat_natCast_add_one, Int.ofNat_eq_natCast, Nat.mul_one, Nat.one_mul, Nat.zero_add, Nat.add_zero, Nat.sub_zero, Nat.zero_mul, Nat.reduceAdd, Nat.reduceMul, Nat.reduceSub]); first | done | rfl) (hw : Region.wanted o (yielded ops a.tmps) = true := by rfl) (hd : isDefer o = false := by rfl) : W (o :: rest) a w := hStp.go hw hd (r_indexAddrA hop hx hy hm h0 hq) hk
theorem q_indexAddrA {t : TypeId} {x y : Operand} {m b off n q : Nat} {k : IntKind} {i : Int} (hop : o.op = .indexAddr t x y := by rfl) (hx : evO a x = some (.pointer (some ⟨b, off, none⟩)) := by rfl) (hy : evO a y = some (.int k i) := by rfl) (hm : ArT P t n m := by infer_instance) (h0 : 0 ≤ i ∧ i < (n : Int) := by omega) (hq : off + i.toNat * m = q := by (try conv => lhs; simp only [Int.toNat_natCast, Int.toNat_zero, Int.toNat_one, Int.reduceToNat, Int.toNat_natCast_add_one, Int.ofNat_eq_natCast, Nat.mul_one, Nat.one_mul, Nat.zero_add, Nat.add_zero, Nat.sub_zero, Nat.zero_mul, Nat.reduceAdd, Nat.reduceMul, Nat.reduceSub]); first | done | rfl) : o.quietAt P a C w ((.pointer (some ⟨b, q, none⟩))) := q_val (r_indexAddrA hop hx hy hm h0 hq)
theorem g_len {x : Operand} {t : TypeId} {p : Option Addr} {n c m : Nat} (hStp : Stp P ops W) (hk : W rest (a.put o.dst ((.int .i64 (n : Int)))) w) (hop : o.op = .call { callee := .builtin .len, args := #[x], argTypes := #[t] } := by rfl) (hx : evO a x = some (.slice p n c) := by rfl) (hm : ElT P t m := by infer_instance) (hw : Region.wanted o (yielded ops a.tmps) = true := by rfl) (hd : isDefer o = false := by rfl) : W (o :: rest) a w := hStp.go hw hd (r_len hop hx hm) hk
theorem q_len {x : Operand} {t : TypeId} {p : Option Addr} {n c m : Nat} (hop : o.op = .call { callee := .builtin .len, args := #[x], argTypes := #[t] } := by rfl) (hx : evO a x = some (.slice p n c) := by rfl) (hm : ElT P t m := by infer_instance) : o.quietAt P a C w ((.int .i64 (n : Int))) := q_val (r_len hop hx hm)
theorem g_cap {x : Operand} {t : TypeId} {p : Option Addr} {n c m : Nat} (hStp : Stp P ops W) (hk : W rest (a.put o.dst ((.int .i64 (c : Int)))) w) (hop : o.op = .call { callee := .builtin .cap, args := #[x], argTypes := #[t] } := by rfl) (hx : evO a x = some (.slice p n c) := by rfl) (hm : ElT P t m := by infer_instance) (hw : Region.wanted o (yielded ops a.tmps) = true := by rfl) (hd : isDefer o = false := by rfl) : W (o :: rest) a w := hStp.go hw hd (r_cap hop hx hm) hk
theorem q_cap {x : Operand} {t : TypeId} {p : Option Addr} {n c m : Nat} (hop : o.op = .call { callee := .builtin .cap, args := #[x], argTypes := #[t] } := by rfl) (hx : evO a x = some (.slice p n c) := by rfl) (hm : ElT P t m := by infer_instance) : o.quietAt P a C w ((.int .i64 (c : Int))) := q_val (r_cap hop hx hm)
theorem g_extract {x : Operand} {k : Nat} {vs : Array Value} (hStp : Stp P ops W) (hk : W rest (a.put o.dst (v)) w) (hop : o.op = .extract x k := by rfl) (hx : evO a x = some (.tuple vs) := by rfl) (hv : vs.toList[k]? = some v := by rfl) (hw : Region.wanted o (yielded ops a.tmps) = true := by rfl) (hd : isDefer o = false := by rfl) : W (o :: rest) a w := hStp.go hw hd (r_extract hop hx hv) hk
theorem q_extract {x : Operand} {k : Nat} {vs : Array Value} (hop : o.op = .extract x k := by rfl) (hx : evO a x = some (.tuple vs) := by rfl) (hv : vs.toList[k]? = some v := by rfl) : o.quietAt P a C w (v) := q_val (r_extract hop hx hv)
theorem g_add {t t' : TypeId} {x y : Operand} {k : IntKind} {m n q : Int} (hStp : Stp P ops W) (hk : W rest (a.put o.dst ((.int k q))) w) (hop : o.op = .binOp .add t x y t' := by rfl) (hx : evO a x = some (.int k m) := by rfl) (hy : evO a y = some (.int k n) := by rfl) (hf : fits k (m + n) := by first | exact fits_i64 (by omega) | exact fits_u8 (by omega) | exact fits_u64 (by omega)) (hq : m + n = q := by (try conv => lhs; simp only [Int.cast_ofNat_Int, Int.add_sub_cancel, Int.sub_add_cancel, Int.zero_add, Int.add_zero, Int.sub_zero, Int.reduceAdd, Int.reduceSub, Int.reduceMul, Int.reduceDiv, Int.reduceMod, Int.natCast_zero]); first | done | rfl) (hw : Region.wanted o (yielded ops a.tmps) = true := by rfl) (hd : isDefer o = false := by rfl) : W (o :: rest) a w := hStp.go hw hd (r_add hop hx hy hf hq) hk
theorem q_add {t t' : TypeId} {x y : Operand} {k : IntKind} {m n q : Int} (hop : o.op = .binOp .add t x y t' := by rfl) (hx : evO a x = some (.int k m) := by rfl) (hy : evO a y = some (.int k n) := by rfl) (hf : fits k (m + n) := by first | exact fits_i64 (by omega) | exact fits_u8 (by omega) | exact fits_u64 (by omega)) (hq : m + n = q := by (try conv => lhs; simp only [Int.cast_ofNat_Int, Int.add_sub_cancel, Int.sub_add_cancel, Int.zero_add, Int.add_zero, Int.sub_zero, Int.reduceAdd, Int.reduceSub, Int.reduceMul, Int.reduceDiv, Int.reduceMod, Int.natCast_zero]); first | done | rfl) : o.quietAt P a C w ((.int k q)) := q_val (r_add hop hx hy hf hq)
theorem g_sub {t t' : TypeId} {x y : Operand} {k : IntKind} {m n q : Int} (hStp : Stp P ops W) (hk : W rest (a.put o.dst ((.int k q))) w) (hop : o.op = .binOp .sub t x y t' := by rfl) (hx : evO a x = some (.int k m) := by rfl) (hy : evO a y = some (.int k n) := by rfl) (hf : fits k (m - n) := by first | exact fits_i64 (by omega) | exact fits_u8 (by omega) | exact fits_u64 (by omega)) (hq : m - n = q := by (try conv => lhs; simp only [Int.cast_ofNat_Int, Int.add_sub_cancel, Int.sub_add_cancel, Int.zero_add, Int.add_zero, Int.sub_zero, Int.reduceAdd, Int.reduceSub, Int.reduceMul, Int.reduceDiv, Int.reduceMod, Int.natCast_zero]); first | done | rfl) (hw : Region.wanted o (yielded ops a.tmps) = true := by rfl) (hd : isDefer o = false := by rfl) : W (o :: rest) a w := hStp.go hw hd (r_sub hop hx hy hf hq) hk
theorem q_sub {t t' : TypeId} {x y : Operand} {k : IntKind} {m n q : Int} (hop : o.op = .binOp .sub t x y t' := by rfl) (hx : evO a x = some (.int k m) := by rfl) (hy : evO a y = some (.int k n) := by rfl) (hf : fits k (m - n) := by first | exact fits_i64 (by omega) | exact fits_u8 (by omega) | exact fits_u64 (by omega)) (hq : m - n = q := by (try conv => lhs; simp only [Int.cast_ofNat_Int, Int.add_sub_cancel, Int.sub_add_cancel, Int.zero_add, Int.add_zero, Int.sub_zero, Int.reduceAdd, Int.reduceSub, Int.reduceMul, Int.reduceDiv, Int.reduceMod, Int.natCast_zero]); first | done | rfl) : o.quietAt P a C w ((.int k q)) := q_val (r_sub hop hx hy hf hq)
theorem g_mul {t t' : TypeId} {x y : Operand} {k : IntKind} {m n q : Int} (hStp : Stp P ops W) (hk : W rest (a.put o.dst ((.int k q))) w) (hop : o.op = .binOp .mul t x y t' := by rfl) (hx : evO a x = some (.int k m) := by rfl) (hy : evO a y = some (.int k n) := by rfl) (hf : fits k (m * n) := by first | exact fits_i64 (by omega) | exact fits_u8 (by omega) | exact fits_u64 (by omega)) (hq : m * n = q := by (try conv => lhs; simp only [Int.cast_ofNat_Int, Int.add_sub_cancel, Int.sub_add_cancel, Int.zero_add, Int.add_zero, Int.sub_zero, Int.reduceAdd, Int.reduceSub, Int.reduceMul, Int.reduceDiv, Int.reduceMod, Int.natCast_zero]); first | done | rfl) (hw : Region.wanted o (yielded ops a.tmps) = true := by rfl) (hd : isDefer o = false := by rfl) : W (o :: rest) a w := hStp.go hw hd (r_mul hop hx hy hf hq) hk
theorem q_mul {t t' : TypeId} {x y : Operand} {k : IntKind} {m n q : Int} (hop : o.op = .binOp .mul t x y t' := by rfl) (hx : evO a x = some (.int k m) := by rfl) (hy : evO a y = some (.int k n) := by rfl) (hf : fits k (m * n) := by first | exact fits_i64 (by omega) | exact fits_u8 (by omega) | exact fits_u64 (by omega)) (hq : m * n = q := by (try conv => lhs; simp only [Int.cast_ofNat_Int, Int.add_sub_cancel, Int.sub_add_cancel, Int.zero_add, Int.add_zero, Int.sub_zero, Int.reduceAdd, Int.reduceSub, Int.reduceMul, Int.reduceDiv, Int.reduceMod, Int.natCast_zero]); first | done | rfl) : o.quietAt P a C w ((.int k q)) := q_val (r_mul hop hx hy hf hq)
theorem g_quo {t t' : TypeId} {x y : Operand} {k : IntKind} {m n q : Int} (hStp : Stp P ops W) (hk : W rest (a.put o.dst ((.int k q))) w) (hop : o.op = .binOp .quo t x y t' := by rfl) (hx : evO a x = some (.int k m) := by rfl) (hy : evO a y = some (.int k n) := by rfl) (h0 : 0 ≤ m ∧ 0 < n := by omega) (hf : fits k (m / n) := by first | exact fits_i64 (by omega) | exact fits_u8 (by omega) | exact fits_u64 (by omega)) (hq : m / n = q := by (try conv => lhs; simp only [Int.cast_ofNat_Int, Int.add_sub_cancel, Int.sub_add_cancel, Int.zero_add, Int.add_zero, Int.sub_zero, Int.reduceAdd, Int.reduceSub, Int.reduceMul, Int.reduceDiv, Int.reduceMod, Int.natCast_zero]); first | done | rfl) (hw : Region.wanted o (yielded ops a.tmps) = true := by rfl) (hd : isDefer o = false := by rfl) : W (o :: rest) a w := hStp.go hw hd (r_quo hop hx hy h0 hf hq) hk
theorem q_quo {t t' : TypeId} {x y : Operand} {k : IntKind} {m n q : Int} (hop : o.op = .binOp .quo t x y t' := by rfl) (hx : evO a x = some (.int k m) := by rfl) (hy : evO a y = some (.int k n) := by rfl) (h0 : 0 ≤ m ∧ 0 < n := by omega) (hf : fits k (m / n) := by first | exact fits_i64 (by omega) | exact fits_u8 (by omega) | exact fits_u64 (by omega)) (hq : m / n = q := by (try conv => lhs; simp only [Int.cast_ofNat_Int, Int.add_sub_cancel, Int.sub_add_cancel, Int.zero_add, Int.add_zero, Int.sub_zero, Int.reduceAdd, Int.reduceSub, Int.reduceMul, Int.reduceDiv, Int.reduceMod, Int.natCast_zero]); first | done | rfl) : o.quietAt P a C w ((.int k q)) := q_val (r_quo hop hx hy h0 hf hq)
theorem g_rem {t t' : TypeId} {x y : Operand} {k : IntKind} {m n q : Int} (hStp : Stp P ops W) (hk : W rest (a.put o.dst ((.int k q))) w) (hop : o.op = .binOp .rem t x y t' := by rfl) (hx : evO a x = some (.int k m) := by rfl) (hy : evO a y = some (.int k n) := by rfl) (h0 : 0 ≤ m ∧ 0 < n := by omega) (hq : m % n = q := by (try conv => lhs; simp only [Int.cast_ofNat_Int, Int.add_sub_cancel, Int.sub_add_cancel, Int.zero_add, Int.add_zero, Int.sub_zero, Int.reduceAdd, Int.reduceSub, Int.reduceMul, Int.reduceDiv, Int.reduceMod, Int.natCast_zero]); first | done | rfl) (hw : Region.wanted o (yielded ops a.tmps) = true := by rfl) (hd : isDefer o = false := by rfl) : W (o :: rest) a w := hStp.go hw hd (r_rem hop hx hy h0 hq) hk
theorem q_rem {t t' : TypeId} {x y : Operand} {k : IntKind} {m n q : Int} (hop : o.op = .binOp .rem t x y t' := by rfl) (hx : evO a x = some (.int k m) := by rfl) (hy : evO a y = some (.int k n) := by rfl) (h0 : 0 ≤ m ∧ 0 < n := by omega) (hq : m % n = q := by (try conv => lhs; simp only [Int.cast_ofNat_Int, Int.add_sub_cancel, Int.sub_add_cancel, Int.zero_add, Int.add_zero, Int.sub_zero, Int.reduceAdd, Int.reduceSub, Int.reduceMul, Int.reduceDiv, Int.reduceMod, Int.natCast_zero]); first | done | rfl) : o.quietAt P a C w ((.int k q)) := q_val (r_rem hop hx hy h0 hq)
theorem g_cmp_t {p : BinOp} {t t' : TypeId} {x y : Operand} {k : IntKind} {m n : Int} {A : Prop} (hStp : Stp P ops W) (hk : W rest (a.put o.dst ((.bool true))) w) (hop : o.op = .binOp p t x y t' := by rfl) (hx : evO a x = some (.int k m) := by rfl) (hy : evO a y = some (.int k n) := by rfl) (hp : cmpP p m n = some A := by rfl) (hA : A := by omega) (hw : Region.wanted o (yielded ops a.tmps) = true := by rfl) (hd : isDefer o = false := by rfl) : W (o :: rest) a w := hStp.go hw hd (r_cmp_t hop hx hy hp hA) hk
theorem q_cmp_t {p : BinOp} {t t' : TypeId} {x y : Operand} {k : IntKind} {m n : Int} {A : Prop} (hop : o.op = .binOp p t x y t' := by rfl) (hx : evO a x = some (.int k m) := by rfl) (hy : evO a y = some (.int k n) := by rfl) (hp : cmpP p m n = some A := by rfl) (hA : A := by omega) : o.quietAt P a C w ((.bool true)) := q_val (r_cmp_t hop hx hy hp hA)
theorem g_cmp_f {p : BinOp} {t t' : TypeId} {x y : Operand} {k : IntKind} {m n : Int} {A : Prop} (hStp : Stp P ops W) (hk : W rest (a.put o.dst ((.bool false))) w) (hop : o.op = .binOp p t x y t' := by rfl) (hx : evO a x = some (.int k m) := by rfl) (hy : evO a y = some (.int k n) := by rfl) (hp : cmpP p m n = some A := by rfl) (hA : ¬ A := by omega) (hw : Region.wanted o (yielded ops a.tmps) = true := by rfl) (hd : isDefer o = false := by rfl) : W (o :: rest) a w := hStp.go hw hd (r_cmp_f hop hx hy hp hA) hk
theorem q_cmp_f {p : BinOp} {t t' : TypeId} {x y : Operand} {k : IntKind} {m n : Int} {A : Prop} (hop : o.op = .binOp p t x y t' := by rfl) (hx : evO a x = some (.int k m) := by rfl) (hy : evO a y = some (.int k n) := by rfl) (hp : cmpP p m n = some A := by rfl) (hA : ¬ A := by omega) : o.quietAt P a C w ((.bool false)) := q_val (r_cmp_f hop hx hy hp hA)
theorem g_neqNil {t t' : TypeId} {x : Operand} {u : TypeId} {y : Value} (hStp : Stp P ops W) (hk : W rest (a.put o.dst ((.bool true))) w) (hop : o.op = .binOp .neq t x (.const .nilIface) t' := by rfl) (hx : evO a x = some (.iface u y) := by rfl) (hi : IfT P t := by infer_instance) (hw : Region.wanted o (yielded ops a.tmps) = true := by rfl) (hd : isDefer o = false := by rfl) : W (o :: rest) a w := hStp.go hw hd (r_neqNil hop hx hi) hk
theorem q_neqNil {t t' : TypeId} {x : Operand} {u : TypeId} {y : Value} (hop : o.op = .binOp .neq t x (.const .nilIface) t' := by rfl) (hx : evO a x = some (.iface u y) := by rfl) (hi : IfT P t := by infer_instance) : o.quietAt P a C w ((.bool true)) := q_val (r_neqNil hop hx hi)
theorem g_neqNil0 {t t' : TypeId} {x : Operand} (hStp : Stp P ops W) (hk : W rest (a.put o.dst ((.bool false))) w) (hop : o.op = .binOp .neq t x (.const .nilIface) t' := by rfl) (hx : evO a x = some .nilIface := by rfl) (hi : IfT P t := by infer_instance) (hw : Region.wanted o (yielded ops a.tmps) = true := by rfl) (hd : isDefer o = false := by rfl) : W (o :: rest) a w := hStp.go hw hd (r_neqNil0 hop hx hi) hk
theorem q_neqNil0 {t t' : TypeId} {x : Operand} (hop : o.op = .binOp .neq t x (.const .nilIface) t' := by rfl) (hx : evO a x = some .nilIface := by rfl) (hi : IfT P t := by infer_instance) : o.quietAt P a C w ((.bool false)) := q_val (r_neqNil0 hop hx hi)
theorem g_eqlNil {t t' : TypeId} {x : Operand} {u : TypeId} {y : Value} (hStp : Stp P ops W) (hk : W rest (a.put o.dst ((.bool false))) w) (hop : o.op = .binOp .eql t x (.const .nilIface) t' := by rfl) (hx : evO a x = some (.iface u y) := by rfl) (hi : IfT P t := by infer_instance) (hw : Region.wanted o (yielded ops a.tmps) = true := by rfl) (hd : isDefer o = false := by rfl) : W (o :: rest) a w := hStp.go hw hd (r_eqlNil hop hx hi) hk
theorem q_eqlNil {t t' : TypeId} {x : Operand} {u : TypeId} {y : Value} (hop : o.op = .binOp .eql t x (.const .nilIface) t' := by rfl) (hx : evO a x = some (.iface u y) := by rfl) (hi : IfT P t := by infer_instance) : o.quietAt P a C w ((.bool false)) := q_val (r_eqlNil hop hx hi)
theorem g_eqlNil0 {t t' : TypeId} {x : Operand} (hStp : Stp P ops W) (hk : W rest (a.put o.dst ((.bool true))) w) (hop : o.op = .binOp .eql t x (.const .nilIface) t' := by rfl) (hx : evO a x = some .nilIface := by rfl) (hi : IfT P t := by infer_instance) (hw : Region.wanted o (yielded ops a.tmps) = true := by rfl) (hd : isDefer o = false := by rfl) : W (o :: rest) a w := hStp.go hw hd (r_eqlNil0 hop hx hi) hk
theorem q_eqlNil0 {t t' : TypeId} {x : Operand} (hop : o.op = .binOp .eql t x (.const .nilIface) t' := by rfl) (hx : evO a x = some .nilIface := by rfl) (hi : IfT P t := by infer_instance) : o.quietAt P a C w ((.bool true)) := q_val (r_eqlNil0 hop hx hi)
theorem g_fieldAddr {s : TypeId} {x : Operand} {k b off fo n q : Nat} (hStp : Stp P ops W) (hk : W rest (a.put o.dst ((.pointer (some ⟨b, q, none⟩)))) w) (hop : o.op = .fieldAddr s x k := by rfl) (hx : evO a x = some (.pointer (some ⟨b, off, none⟩)) := by rfl) (hf : FldT P s k fo n := by infer_instance) (hq : off + fo = q := by (try conv => lhs; simp only [Int.toNat_natCast, Int.toNat_zero, Int.toNat_one, Int.reduceToNat, Int.toNat_natCast_add_one, Int.ofNat_eq_natCast, Nat.mul_one, Nat.one_mul, Nat.zero_add, Nat.add_zero, Nat.sub_zero, Nat.zero_mul, Nat.reduceAdd, Nat.reduceMul, Nat.reduceSub]); first | done | rfl) (hw : Region.wanted o (yielded ops a.tmps) = true := by rfl) (hd : isDefer o = false := by rfl) : W (o :: rest) a w := hStp.go hw hd (r_fieldAddr hop hx hf hq) hk
theorem q_fieldAddr {s : TypeId} {x : Operand} {k b off fo n q : Nat} (hop : o.op = .fieldAddr s x k := by rfl) (hx : evO a x = some (.pointer (some ⟨b, off, none⟩)) := by rfl) (hf : FldT P s k fo n := by infer_instance) (hq : off + fo = q := by (try conv => lhs; simp only [Int.toNat_natCast, Int.toNat_zero, Int.toNat_one, Int.reduceToNat, Int.toNat_natCast_add_one, Int.ofNat_eq_natCast, Nat.mul_one, Nat.one_mul, Nat.zero_add, Nat.add_zero, Nat.sub_zero, Nat.zero_mul, Nat.reduceAdd, Nat.reduceMul, Nat.reduceSub]); first | done | rfl) : o.quietAt P a C w ((.pointer (some ⟨b, q, none⟩))) := q_val (r_fieldAddr hop hx hf hq)
theorem g_field1 {s : TypeId} {x : Operand} {k fo n : Nat} {cs : Array Value} (hStp : Stp P ops W) (hk : W rest (a.put o.dst (v)) w) (hop : o.op = .field s x k := by rfl) (hx : evO a x = some (.agg cs) := by rfl) (hf : FldV P s k fo n true := by infer_instance) (hv' : cs.toList[fo]? = some v := by first | rfl | exact bvs_getL (by (try simp only [List.length_append, List.length_set, zs_len, List.length_take, List.length_drop, List.length_cons, List.length_nil, List.length_map]); omega)) (hw : Region.wanted o (yielded ops a.tmps) = true := by rfl) (hd : isDefer o = false := by rfl) : W (o :: rest) a w := hStp.go hw hd (r_field1 hop hx hf hv') hk
theorem q_field1 {s : TypeId} {x : Operand} {k fo n : Nat} {cs : Array Value} (hop : o.op = .field s x k := by rfl) (hx : evO a x = some (.agg cs) := by rfl) (hf : FldV P s k fo n true := by infer_instance) (hv' : cs.toList[fo]? = some v := by first | rfl | exact bvs_getL (by (try simp only [List.length_append, List.length_set, zs_len, List.length_take, List.length_drop, List.length_cons, List.length_nil, List.length_map]); omega)) : o.quietAt P a C w (v) := q_val (r_field1 hop hx hf hv')
theorem g_fieldR {s : TypeId} {x : Operand} {k fo n : Nat} {cs vs : Array Value} (hStp : Stp P ops W) (hk : W rest (a.put o.dst ((.agg vs))) w) (hop : o.op = .field s x k := by rfl) (hx : evO a x = some (.agg cs) := by rfl) (hf : FldV P s k fo n false := by infer_instance) (hv : cs.extract fo (fo + n) = vs := by rfl) (hw : Region.wanted o (yielded ops a.tmps) = true := by rfl) (hd : isDefer o = false := by rfl) : W (o :: rest) a w := hStp.go hw hd (r_fieldR hop hx hf hv) hk
theorem q_fieldR {s : TypeId} {x : Operand} {k fo n : Nat} {cs vs : Array Value} (hop : o.op = .field s x k := by rfl) (hx : evO a x = some (.agg cs) := by rfl) (hf : FldV P s k fo n false := by infer_instance) (hv : cs.extract fo (fo + n) = vs := by rfl) : o.quietAt P a C w ((.agg vs)) := q_val (r_fieldR hop hx hf hv)
theorem g_eqlSlNil {t t' e size bytes : Nat} {x : Operand} {p : Option Addr} {n c : Nat} (hStp : Stp P ops W) (hk : W rest (a.put o.dst ((.bool p.isNone))) w) (hop : o.op = .binOp .eql t x (.const (.slice none 0 0)) t' := by rfl) (hx : evO a x = some (.slice p n c) := by rfl) (hT : SlT P t e size bytes := by infer_instance) (hw : Region.wanted o (yielded ops a.tmps) = true := by rfl) (hd : isDefer o = false := by rfl) : W (o :: rest) a w := hStp.go hw hd (r_eqlSlNil hop hx hT) hk
theorem q_eqlSlNil {t t' e size bytes : Nat} {x : Operand} {p : Option Addr} {n c : Nat} (hop : o.op = .binOp .eql t x (.const (.slice none 0 0)) t' := by rfl) (hx : evO a x = some (.slice p n c) := by rfl) (hT : SlT P t e size bytes := by infer_instance) : o.quietAt P a C w ((.bool p.isNone)) := q_val (r_eqlSlNil hop hx hT)
theorem g_neqSlNil {t t' e size bytes : Nat} {x : Operand} {p : Option Addr} {n c : Nat} (hStp : Stp P ops W) (hk : W rest (a.put o.dst ((.bool (!p.isNone)))) w) (hop : o.op = .binOp .neq t x (.const (.slice none 0 0)) t' := by rfl) (hx : evO a x = some (.slice p n c) := by rfl) (hT : SlT P t e size bytes := by infer_instance) (hw : Region.wanted o (yielded ops a.tmps) = true := by rfl) (hd : isDefer o = false := by rfl) : W (o :: rest) a w := hStp.go hw hd (r_neqSlNil hop hx hT) hk
theorem q_neqSlNil {t t' e size bytes : Nat} {x : Operand} {p : Option Addr} {n c : Nat} (hop : o.op = .binOp .neq t x (.const (.slice none 0 0)) t' := by rfl) (hx : evO a x = some (.slice p n c) := by rfl) (hT : SlT P t e size bytes := by infer_instance) : o.quietAt P a C w ((.bool (!p.isNone))) := q_val (r_neqSlNil hop hx hT)
theorem g_makeInterface {t : TypeId} {x : Operand} (hStp : Stp P ops W) (hk : W rest (a.put o.dst ((.iface t v))) w) (hop : o.op = .makeInterface t x := by rfl) (hx : evO a x = some v := by rfl) (hi : IfaceT P t := by infer_instance) (hw : Region.wanted o (yielded ops a.tmps) = true := by rfl) (hd : isDefer o = false := by rfl) : W (o :: rest) a w := hStp.go hw hd (r_makeInterface hop hx hi) hk
theorem q_makeInterface {t : TypeId} {x : Operand} (hop : o.op = .makeInterface t x := by rfl) (hx : evO a x = some v := by rfl) (hi : IfaceT P t := by infer_instance) : o.quietAt P a C w ((.iface t v)) := q_val (r_makeInterface hop hx hi)
theorem g_makeFunc {fn : Fn} {first caps : Array Operand} {fs cs : List Value} (hStp : Stp P ops W) (hk : W rest (a.put o.dst ((.func fn fs.toArray cs.toArray))) w) (hop : o.op = .makeFunc fn first caps := by rfl) (hf : evs a first.toList = some fs := by rfl) (hc : evs a caps.toList = some cs := by rfl) (hw : Region.wanted o (yielded ops a.tmps) = true := by rfl) (hd : isDefer o = false := by rfl) : W (o :: rest) a w := hStp.go hw hd (r_makeFunc hop hf hc) hk
theorem q_makeFunc {fn : Fn} {first caps : Array Operand} {fs cs : List Value} (hop : o.op = .makeFunc fn first caps := by rfl) (hf : evs a first.toList = some fs := by rfl) (hc : evs a caps.toList = some cs := by rfl) : o.quietAt P a C w ((.func fn fs.toArray cs.toArray)) := q_val (r_makeFunc hop hf hc)
theorem g_conv {s t : TypeId} {x : Operand} {k k' ks : IntKind} {n q : Int} (hStp : Stp P ops W) (hk : W rest (a.put o.dst ((.int k' q))) w) (hop : o.op = .convert s t x := by rfl) (hx : evO a x = some (.int k n) := by rfl) (hs : IntT P s ks := by infer_instance) (ht : IntT P t k' := by infer_instance) (hf : fits k' n := by first | exact fits_i64 (by omega) | exact fits_u8 (by omega) | exact fits_u64 (by omega)) (hq : n = q := by (try conv => lhs; simp only [Int.cast_ofNat_Int, Int.add_sub_cancel, Int.sub_add_cancel, Int.zero_add, Int.add_zero, Int.sub_zero, Int.reduceAdd, Int.reduceSub, Int.reduceMul, Int.reduceDiv, Int.reduceMod, Int.natCast_zero]); first | done | rfl) (hw : Region.wanted o (yielded ops a.tmps) = true := by rfl) (hd : isDefer o = false := by rfl) : W (o :: rest) a w := hStp.go hw hd (r_conv hop hx hs ht hf hq) hk
theorem q_conv {s t : TypeId} {x : Operand} {k k' ks : IntKind} {n q : Int} (hop : o.op = .convert s t x := by rfl) (hx : evO a x = some (.int k n) := by rfl) (hs : IntT P s ks := by infer_instance) (ht : IntT P t k' := by infer_instance) (hf : fits k' n := by first | exact fits_i64 (by omega) | exact fits_u8 (by omega) | exact fits_u64 (by omega)) (hq : n = q := by (try conv => lhs; simp only [Int.cast_ofNat_Int, Int.add_sub_cancel, Int.sub_add_cancel, Int.zero_add, Int.add_zero, Int.sub_zero, Int.reduceAdd, Int.reduceSub, Int.reduceMul, Int.reduceDiv, Int.reduceMod, Int.natCast_zero]); first | done | rfl) : o.quietAt P a C w ((.int k' q)) := q_val (r_conv hop hx hs ht hf hq)
theorem g_pick {c x y : Operand} {b : Bool} (hStp : Stp P ops W) (hk : W rest (a.put o.dst (v)) w) (hop : o.op = .pick c x y := by rfl) (hc : evO a c = some (.bool b) := by rfl) (hv : (if b then evO a x else evO a y) = some v := by rfl) (hw : Region.wanted o (yielded ops a.tmps) = true := by rfl) (hd : isDefer o = false := by rfl) : W (o :: rest) a w := hStp.go hw hd (r_pick hop hc hv) hk
theorem q_pick {c x y : Operand} {b : Bool} (hop : o.op = .pick c x y := by rfl) (hc : evO a c = some (.bool b) := by rfl) (hv : (if b then evO a x else evO a y) = some v := by rfl) : o.quietAt P a C w (v) := q_val (r_pick hop hc hv)
theorem g_not {t : TypeId} {x : Operand} {b c : Bool} (hStp : Stp P ops W) (hk : W rest (a.put o.dst ((.bool c))) w) (hop : o.op = .unOp .not t x := by rfl) (hx : evO a x = some (.bool b) := by rfl) (hc : (!b) = c := by rfl) (hw : Region.wanted o (yielded ops a.tmps) = true := by rfl) (hd : isDefer o = false := by rfl) : W (o :: rest) a w := hStp.go hw hd (r_not hop hx hc) hk
theorem q_not {t : TypeId} {x : Operand} {b c : Bool} (hop : o.op = .unOp .not t x := by rfl) (hx : evO a x = some (.bool b) := by rfl) (hc : (!b) = c := by rfl) : o.quietAt P a C w ((.bool c)) := q_val (r_not hop hx hc)
theorem g_slice {t : TypeId} {x : Operand} {lo hi : Option Operand} {b off n c m q n' c' : Nat} {l h : Int} (hStp : Stp P ops W) (hk : W rest (a.put o.dst ((.slice (some ⟨b, q, none⟩) n' c'))) w) (hop : o.op = .slice t x lo hi none := by rfl) (hx : evO a x = some (.slice (some ⟨b, off, none⟩) n c) := by rfl) (hm : ElT P t m := by infer_instance) (hl : bnd a 0 lo = some l := by rfl) (hh : bnd a n hi = some h := by rfl) (h0 : 0 ≤ l ∧ l ≤ h ∧ h ≤ (c : Int) ∧ (l < (c : Int) ∨ l = 0) := by omega) (hq : off + l.toNat * m = q := by (try conv => lhs; simp only [Int.toNat_natCast, Int.toNat_zero, Int.toNat_one, Int.reduceToNat, Int.toNat_natCast_add_one, Int.ofNat_eq_natCast, Nat.mul_one, Nat.one_mul, Nat.zero_add, Nat.add_zero, Nat.sub_zero, Nat.zero_mul, Nat.reduceAdd, Nat.reduceMul, Nat.reduceSub]); first | done | rfl) (hn : h.toNat - l.toNat = n' := by (try conv => lhs; simp only [Int.toNat_natCast, Int.toNat_zero, Int.toNat_one, Int.reduceToNat, Int.toNat_natCast_add_one, Int.ofNat_eq_natCast, Nat.mul_one, Nat.one_mul, Nat.zero_add, Nat.add_zero, Nat.sub_zero, Nat.zero_mul, Nat.reduceAdd, Nat.reduceMul, Nat.reduceSub]); first | done | rfl) (hc : c - l.toNat = c' := by (try conv => lhs; simp only [Int.toNat_natCast, Int.toNat_zero, Int.toNat_one, Int.reduceToNat, Int.toNat_natCast_add_one, Int.ofNat_eq_natCast, Nat.mul_one, Nat.one_mul, Nat.zero_add, Nat.add_zero, Nat.sub_zero, Nat.zero_mul, Nat.reduceAdd, Nat.reduceMul, Nat.reduceSub]); first | done | rfl) (hw : Region.wanted o (yielded ops a.tmps) = true := by rfl) (hd : isDefer o = false := by rfl) : W (o :: rest) a w := hStp.go hw hd (r_slice hop hx hm hl hh h0 hq hn hc) hk
theorem q_slice {t : TypeId} {x : Operand} {lo hi : Option Operand} {b off n c m q n' c' : Nat} {l h : Int} (hop : o.op = .slice t x lo hi none := by rfl) (hx : evO a x = some (.slice (some ⟨b, off, none⟩) n c) := by rfl) (hm : ElT P t m := by infer_instance) (hl : bnd a 0 lo = some l := by rfl) (hh : bnd a n hi = some h := by rfl) (h0 : 0 ≤ l ∧ l ≤ h ∧ h ≤ (c : Int) ∧ (l < (c : Int) ∨ l = 0) := by omega) (hq : off + l.toNat * m = q := by (try conv => lhs; simp only [Int.toNat_natCast, Int.toNat_zero, Int.toNat_one, Int.reduceToNat, Int.toNat_natCast_add_one, Int.ofNat_eq_natCast, Nat.mul_one, Nat.one_mul, Nat.zero_add, Nat.add_zero, Nat.sub_zero, Nat.zero_mul, Nat.reduceAdd, Nat.reduceMul, Nat.reduceSub]); first | done | rfl) (hn : h.toNat - l.toNat = n' := by (try conv => lhs; simp only [Int.toNat_natCast, Int.toNat_zero, Int.toNat_one, Int.reduceToNat, Int.toNat_natCast_add_one, Int.ofNat_eq_natCast, Nat.mul_one, Nat.one_mul, Nat.zero_add, Nat.add_zero, Nat.sub_zero, Nat.zero_mul, Nat.reduceAdd, Nat.reduceMul, Nat.reduceSub]); first | done | rfl) (hc : c - l.toNat = c' := by (try conv => lhs; simp only [Int.toNat_natCast, Int.toNat_zero, Int.toNat_one, Int.reduceToNat, Int.toNat_natCast_add_one, Int.ofNat_eq_natCast, Nat.mul_one, Nat.one_mul, Nat.zero_add, Nat.add_zero, Nat.sub_zero, Nat.zero_mul, Nat.reduceAdd, Nat.reduceMul, Nat.reduceSub]); first | done | rfl) : o.quietAt P a C w ((.slice (some ⟨b, q, none⟩) n' c')) := q_val (r_slice hop hx hm hl hh h0 hq hn hc)
theorem g_sliceA {t : TypeId} {x : Operand} {lo hi : Option Operand} {b off n m q n' c' : Nat} {l h : Int} (hStp : Stp P ops W) (hk : W rest (a.put o.dst ((.slice (some ⟨b, q, none⟩) n' c'))) w) (hop : o.op = .slice t x lo hi none := by rfl) (hx : evO a x = some (.pointer (some ⟨b, off, none⟩)) := by rfl) (hm : ArT P t n m := by infer_instance) (hl : bnd a 0 lo = some l := by rfl) (hh : bnd a n hi = some h := by rfl) (h0 : 0 ≤ l ∧ l ≤ h ∧ h ≤ (n : Int) ∧ l < (n : Int) := by omega) (hq : off + l.toNat * m = q := by (try conv => lhs; simp only [Int.toNat_natCast, Int.toNat_zero, Int.toNat_one, Int.reduceToNat, Int.toNat_natCast_add_one, Int.ofNat_eq_natCast, Nat.mul_one, Nat.one_mul, Nat.zero_add, Nat.add_zero, Nat.sub_zero, Nat.zero_mul, Nat.reduceAdd, Nat.reduceMul, Nat.reduceSub]); first | done | rfl) (hn : h.toNat - l.toNat = n' := by (try conv => lhs; simp only [Int.toNat_natCast, Int.toNat_zero, Int.toNat_one, Int.reduceToNat, Int.toNat_natCast_add_one, Int.ofNat_eq_natCast, Nat.mul_one, Nat.one_mul, Nat.zero_add, Nat.add_zero, Nat.sub_zero, Nat.zero_mul, Nat.reduceAdd, Nat.reduceMul, Nat.reduceSub]); first | done | rfl) (hc : n - l.toNat = c' := by (try conv => lhs; simp only [Int.toNat_natCast, Int.toNat_zero, Int.toNat_one, Int.reduceToNat, Int.toNat_natCast_add_one, Int.ofNat_eq_natCast, Nat.mul_one, Nat.one_mul, Nat.zero_add, Nat.add_zero, Nat.sub_zero, Nat.zero_mul, Nat.reduceAdd, Nat.reduceMul, Nat.reduceSub]); first | done | rfl) (hw : Region.wanted o (yielded ops a.tmps) = true := by rfl) (hd : isDefer o = false := by rfl) : W (o :: rest) a w := hStp.go hw hd (r_sliceA hop hx hm hl hh h0 hq hn hc) hk
theorem q_sliceA {t : TypeId} {x : Operand} {lo hi : Option Operand} {b off n m q n' c' : Nat} {l h : Int} (hop : o.op = .slice t x lo hi none := by rfl) (hx : evO a x = some (.pointer (some ⟨b, off, none⟩)) := by rfl) (hm : ArT P t n m := by infer_instance) (hl : bnd a 0 lo = some l := by rfl) (hh : bnd a n hi = some h := by rfl) (h0 : 0 ≤ l ∧ l ≤ h ∧ h ≤ (n : Int) ∧ l < (n : Int) := by omega) (hq : off + l.toNat * m = q := by (try conv => lhs; simp only [Int.toNat_natCast, Int.toNat_zero, Int.toNat_one, Int.reduceToNat, Int.toNat_natCast_add_one, Int.ofNat_eq_natCast, Nat.mul_one, Nat.one_mul, Nat.zero_add, Nat.add_zero, Nat.sub_zero, Nat.zero_mul, Nat.reduceAdd, Nat.reduceMul, Nat.reduceSub]); first | done | rfl) (hn : h.toNat - l.toNat = n' := by (try conv => lhs; simp only [Int.toNat_natCast, Int.toNat_zero, Int.toNat_one, Int.reduceToNat, Int.toNat_natCast_add_one, Int.ofNat_eq_natCast, Nat.mul_one, Nat.one_mul, Nat.zero_add, Nat.add_zero, Nat.sub_zero, Nat.zero_mul, Nat.reduceAdd, Nat.reduceMul, Nat.reduceSub]); first | done | rfl) (hc : n - l.toNat = c' := by (try conv => lhs; simp only [Int.toNat_natCast, Int.toNat_zero, Int.toNat_one, Int.reduceToNat, Int.toNat_natCast_add_one, Int.ofNat_eq_natCast, Nat.mul_one, Nat.one_mul, Nat.zero_add, Nat.add_zero, Nat.sub_zero, Nat.zero_mul, Nat.reduceAdd, Nat.reduceMul, Nat.reduceSub]); first | done | rfl) : o.quietAt P a C w ((.slice (some ⟨b, q, none⟩) n' c')) := q_val (r_sliceA hop hx hm hl hh h0 hq hn hc)
theorem g_sliceNil {t : TypeId} {x : Operand} {lo hi : Option Operand} {m : Nat} (hStp : Stp P ops W) (hk : W rest (a.put o.dst ((.slice none 0 0))) w) (hop : o.op = .slice t x lo hi none := by rfl) (hx : evO a x = some (.slice none 0 0) := by rfl) (hm : ElT P t m := by infer_instance) (hl : bnd a 0 lo = some 0 := by rfl) (hh : bnd a 0 hi = some 0 := by rfl) (hw : Region.wanted o (yielded ops a.tmps) = true := by rfl) (hd : isDefer o = false := by rfl) : W (o :: rest) a w := hStp.go hw hd (r_sliceNil hop hx hm hl hh) hk
theorem q_sliceNil {t : TypeId} {x : Operand} {lo hi : Option Operand} {m : Nat} (hop : o.op = .slice t x lo hi none := by rfl) (hx : evO a x = some (.slice none 0 0) := by rfl) (hm : ElT P t m := by infer_instance) (hl : bnd a 0 lo = some 0 := by rfl) (hh : bnd a 0 hi = some 0 := by rfl) : o.quietAt P a C w ((.slice none 0 0)) := q_val (r_sliceNil hop hx hm hl hh)
theorem g_skip (hStp : Stp P ops W) (hk : W rest (a.put o.dst undef) w) (hw : Region.wanted o (yielded ops a.tmps) = false := by rfl) : W (o :: rest) a w := hStp.skip hw hk
theorem g_cmp {p : BinOp} {t t' : TypeId} {x y : Operand} {k : IntKind} {m n : Int} {A : Prop} (hStp : Stp P ops W) (ht : A → W rest (a.put o.dst (.bool true)) w) (hf : ¬ A → W rest (a.put o.dst (.bool false)) w) (hop : o.op = .binOp p t x y t' := by rfl) (hx : evO a x = some (.int k m) := by rfl) (hy : evO a y = some (.int k n) := by rfl) (hp : cmpP p m n = some A := by rfl) (hw : Region.wanted o (yielded ops a.tmps) = true := by rfl) : W (o :: rest) a w := s_cmp hStp hw hop hx hy hp ht hf
theorem g_alloc {t : TypeId} {cs : Array Value} (hStp : Stp P ops W) (hH : Own B H) (hS : H w L) (hk : ∀ (b : Nat) (w' : World), H w' ((b, cs, t) :: L) → W rest (a.put o.dst (.pointer (some ⟨b, 0, none⟩))) w') (hop : o.op = .alloc t := by rfl) (hz : ZeroT P t cs := by infer_instance) (hw : Region.wanted o (yielded ops a.tmps) = true := by rfl) (hd : isDefer o = false := by rfl) : W (o :: rest) a w := s_newP hStp hH hS hw hd (r_alloc hop hz) hk
theorem g_box {t : TypeId} {x : Operand} {cs : Array Value} (hStp : Stp P ops W) (hH : Own B H) (hS : H w L) (hk : ∀ (b : Nat) (w' : World), H w' ((b, cs, t) :: L) → W rest (a.put o.dst (.pointer (some ⟨b, 0, none⟩))) w') (hop : o.op = .box t x := by rfl) (hx : evO a x = some v := by rfl) (hc : v.cells = cs := by (try conv => lhs; simp only [Value.cells]); first | done | rfl) (hw : Region.wanted o (yielded ops a.tmps) = true := by rfl) (hd : isDefer o = false := by rfl) : W (o :: rest) a w := s_newP hStp hH hS hw hd (r_box hop hx hc) hk
theorem g_build0 {t e size bytes : Nat} (hStp : Stp P ops W) (hH : Own B H) (hS : H w L) (hk : ∀ (b : Nat) (w' : World), H w' ((b, #[], e) :: L) → W rest (a.put o.dst (.slice (some ⟨b, 0, none⟩) 0 0)) w') (hop : o.op = .buildSlice t 0 #[] := by rfl) (hT : SlT P t e size bytes := by infer_instance) (hw : Region.wanted o (yielded ops a.tmps) = true := by rfl) (hd : isDefer o = false := by rfl) : W (o :: rest) a w := s_newS hStp hH hS hw hd (r_buildSlice0 hop hT) rfl rfl rfl hk
theorem g_build {t e size bytes len : Nat} {parts : Array (Nat × Operand)} {vs : List Value} {cells : List Value} (hStp : Stp P ops W) (hH : Own B H) (hS : H w L) (hk : ∀ (b : Nat) (w' : World), H w' ((b, cells.toArray, e) :: L) → W rest (a.put o.dst (.slice (some ⟨b, 0, none⟩) len len)) w') (hop : o.op = .buildSlice t len parts := by rfl) (hp : evi a 0 parts.toList = some vs := by rfl) (hT : SlT P t e size bytes := by infer_instance) (hl : parts.toList.length = len := by rfl) (h1 : ∀ v ∈ vs, v.cells.size = size := by repeat (first | exact (fun _ h => absurd h List.not_mem_nil) | refine List.forall_mem_cons.2 ⟨by first | rfl | (simp only [Value.cells]; first | rfl | omega), ?_⟩)) (hc : (vs.flatMap fun v => v.cells.toList) = cells := by (try conv => lhs; simp only [List.flatMap_cons, List.flatMap_nil, Value.cells, List.append_nil, List.cons_append, List.nil_append]); first | done | rfl) (hlen : len * size ≤ 2 ^ 24 := by decide) (hpos : 0 < len := by decide) (hw : Region.wanted o (yielded ops a.tmps) = true := by rfl) (hd : isDefer o = false := by rfl) : W (o :: rest) a w := s_newS hStp hH hS hw hd (r_buildSlice hop hp hT hl h1 hc hlen hpos) rfl rfl rfl hk
theorem g_make {t e : Nat} {x y : Operand} {k k' : IntKind} {n c : Int} {n' c' : Nat} (hStp : Stp P ops W) (hH : Own B H) (hS : H w L) (hk : ∀ (b : Nat) (w' : World), H w' ((b, bvs (zs c'), e) :: L) → W rest (a.put o.dst (.slice (some ⟨b, 0, none⟩) n' c')) w') (hop : o.op = .makeSlice t x y := by rfl) (hx : evO a x = some (.int k n) := by rfl) (hy : evO a y = some (.int k' c) := by rfl) (hT : SlT P t e 1 1 := by infer_instance) (hz : ZeroT P e #[.int .u8 0] := by infer_instance) (h : 0 ≤ n ∧ n ≤ c ∧ c ≤ 140737488355328 := by omega) (hn : n.toNat = n' := by (try conv => lhs; simp only [Int.toNat_natCast, Int.toNat_zero, Int.toNat_one, Int.reduceToNat, Int.toNat_natCast_add_one, Int.ofNat_eq_natCast, Nat.mul_one, Nat.one_mul, Nat.zero_add, Nat.add_zero, Nat.sub_zero, Nat.zero_mul, Nat.reduceAdd, Nat.reduceMul, Nat.reduceSub]); first | done | rfl) (hc : c.toNat = c' := by (try conv => lhs; simp only [Int.toNat_natCast, Int.toNat_zero, Int.toNat_one, Int.reduceToNat, Int.toNat_natCast_add_one, Int.ofNat_eq_natCast, Nat.mul_one, Nat.one_mul, Nat.zero_add, Nat.add_zero, Nat.sub_zero, Nat.zero_mul, Nat.reduceAdd, Nat.reduceMul, Nat.reduceSub]); first | done | rfl) (hw : Region.wanted o (yielded ops a.tmps) = true := by rfl) (hd : isDefer o = false := by rfl) : W (o :: rest) a w := s_newS hStp hH hS hw hd (r_makeBytes hop hx hy hT hz h) hn hc (by rw [hc]) hk
theorem g_store1 {t : TypeId} {x y : Operand} {b off : Nat} {cs : Array Value} {ty : TypeId} {L' : List Blk} {i : Nat} (hStp : Stp P ops W) (hH : Own B H) (hS : H w L) (hk : ∀ w', H w' L' → W rest (a.put o.dst undef) w') (hop : o.op = .store t x y := by rfl) (hx : evO a x = some (.pointer (some ⟨b, off, none⟩)) := by rfl) (hy : evO a y = some v := by rfl) (h1 : OneT P t := by infer_instance) (hv : v.oneCell' = true := by rfl) (hi : L[i]? = some (b, cs, ty) := by first | exact at_ 0 rfl | exact at_ 1 rfl | exact at_ 2 rfl | exact at_ 3 rfl | exact at_ 4 rfl | exact at_ 5 rfl | exact at_ 6 rfl | exact at_ 7 rfl | exact at_ 8 rfl | exact at_ 9 rfl | exact at_ 10 rfl | exact at_ 11 rfl | exact at_ 12 rfl | exact at_ 13 rfl) (ho : off < csz cs := by (try simp only [csz_setc, csz_bvs, csz_list, List.length_append, List.length_set, zs_len, List.length_take, List.length_drop, List.length_cons, List.length_nil, List.length_map]); first | done | rfl | omega) (hL : L.set i (b, cs.setIfInBounds off v, ty) = L' := by (try conv => lhs; simp only [List.setIfInBounds_toArray, List.set_cons_zero, List.set_cons_succ, List.eraseIdx_cons_zero, List.eraseIdx_cons_succ]); first | done | rfl) (hw : Region.wanted o (yielded ops a.tmps) = true := by rfl) : W (o :: rest) a w := s_store1 hStp hH hS hw hop hx hy h1 hv hi ho hL hk
theorem g_storeR {t : TypeId} {x y : Operand} {n b off : Nat} {cs vs cs' : Array Value} {ty : TypeId} {L' : List Blk} {i : Nat} (hStp : Stp P ops W) (hH : Own B H) (hS : H w L) (hk : ∀ w', H w' L' → W rest (a.put o.dst undef) w') (hop : o.op = .store t x y := by rfl) (hx : evO a x = some (.pointer (some ⟨b, off, none⟩)) := by rfl) (hy : evO a y = some (.agg vs) := by rfl) (h1 : RowT P t n := by infer_instance) (hn : csz vs = n := by (try simp only [csz_setc, csz_bvs, csz_list, List.length_append, List.length_set, zs_len, List.length_take, List.length_drop, List.length_cons, List.length_nil, List.length_map]); first | done | rfl | omega) (hv : ones vs = true := by first | exact ones_bvs _ | rfl) (hi : L[i]? = some (b, cs, ty) := by first | exact at_ 0 rfl | exact at_ 1 rfl | exact at_ 2 rfl | exact at_ 3 rfl | exact at_ 4 rfl | exact at_ 5 rfl | exact at_ 6 rfl | exact at_ 7 rfl | exact at_ 8 rfl | exact at_ 9 rfl | exact at_ 10 rfl | exact at_ 11 rfl | exact at_ 12 rfl | exact at_ 13 rfl) (ho : off + n ≤ csz cs := by (try simp only [csz_setc, csz_bvs, csz_list, List.length_append, List.length_set, zs_len, List.length_take, List.length_drop, List.length_cons, List.length_nil, List.length_map]); first | done | rfl | omega) (hc : paste cs off vs = cs' := by first | exact paste_whole _ _ (by (try simp only [csz_setc, csz_bvs, csz_list, List.length_append, List.length_set, zs_len, List.length_take, List.length_drop, List.length_cons, List.length_nil, List.length_map]); first | done | rfl | omega) | rfl) (hL : L.set i (b, cs', ty) = L' := by (try conv => lhs; simp only [List.setIfInBounds_toArray, List.set_cons_zero, List.set_cons_succ, List.eraseIdx_cons_zero, List.eraseIdx_cons_succ]); first | done | rfl) (hw : Region.wanted o (yielded ops a.tmps) = true := by rfl) : W (o :: rest) a w := s_storeR hStp hH hS hw hop hx hy h1 hn hv hi ho hc hL hk
theorem g_callq {x : Operand} {xs : Array Operand} {ts : Array TypeId} {f : FuncId} {first caps : Array Value} {vs : List Value} {args : Array Value} {v : Value} (hStp : Stp P ops W) (hH : Own B H) (hS : H w L) (hc : Calls P f args w fun e w' => e = .returned v ∧ Below w.heap.size w w') (hk : ∀ w', H w' L → W rest (a.put o.dst v) w') (hop : o.op = .call { callee := .value x, args := xs, argTypes := ts } := by rfl) (hx : evO a x = some (.func (.func f) first caps) := by rfl) (hxs : evs a xs.toList = some vs := by rfl) (hA : (first.toList ++ vs ++ caps.toList).toArray = args := by rfl) (hf : GoF P f := by infer_instance) (hw : Region.wanted o (yielded ops a.tmps) = true := by rfl) : W (o :: rest) a w := s_callq hStp hH hS hw hop hx hxs hA hf hc hk
theorem g_call {x : Operand} {xs : Array Operand} {ts : Array TypeId} {f : FuncId} {first caps : Array Value} {vs : List Value} {args : Array Value} {R0 : Ending → World → Prop} (hStp : Stp P ops W) (hc : Calls P f args w R0) (hk : ∀ e w', R0 e w' → ∃ v, e = .returned v ∧ W rest (a.put o.dst v) w') (hop : o.op = .call { callee := .value x, args := xs, argTypes := ts } := by rfl) (hx : evO a x = some (.func (.func f) first caps) := by rfl) (hxs : evs a xs.toList = some vs := by rfl) (hA : (first.toList ++ vs ++ caps.toList).toArray = args := by rfl) (hf : GoF P f := by infer_instance) (hw : Region.wanted o (yielded ops a.tmps) = true := by rfl) : W (o :: rest) a w := s_call hStp hw hop hx hxs hA hf hc hk
theorem g_qcall {x : Operand} {xs : Array Operand} {ts : Array TypeId} {f : FuncId} {first caps : Array Value} {vs : List Value} {args : Array Value} {v : Value} (hc : Calls P f args w fun e w' => e = .returned v ∧ C w') (hop : o.op = .call { callee := .value x, args := xs, argTypes := ts } := by rfl) (hx : evO a x = some (.func (.func f) first caps) := by rfl) (hxs : evs a xs.toList = some vs := by rfl) (hA : (first.toList ++ vs ++ caps.toList).toArray = args := by rfl) (hf : GoF P f := by infer_instance) : o.quietAt P a C w v := q_call hop hx hxs hA hf hc
theorem put_in {d : Option Nat} {a2 : Act} (h : W rest a2 w) (hput : a.put d v = a2 := by (conv => lhs; simp only [Act.put, List.setIfInBounds_toArray, List.set_cons_zero, List.set_cons_succ]); first | done | rfl) : W rest (a.put d v) w := by rw [hput]; exact h
theorem bvs_getLA {l : List UInt8} {k : Nat} (h : k < l.length := by (try simp only [List.length_append, List.length_set, zs_len, List.length_take, List.length_drop, List.length_cons, List.length_nil, List.length_map]); omega) : (bvs l).toList[k]? = some (.int .u8 ((l.getD k 0).toNat : Int)) := bvs_getL h
end
end Go.Proofs.Ytkfggilildiflab

namespace Go.Proofs.Ytkfggilildiflab
open Go.RowKit
set_option maxRecDepth 100000

instance : OneT Try.prog 0 := ⟨by kernel_rfl, by kernel_rfl⟩
instance : OneT Try.prog 1 := ⟨by kernel_rfl, by kernel_rfl⟩
instance : ZeroT Try.prog 1 #[.nilFunc] := ⟨by kernel_rfl⟩
instance : IfaceT Try.prog 1 := ⟨by kernel_rfl⟩
instance : OneT Try.prog 2 := ⟨by kernel_rfl, by kernel_rfl⟩
instance : ZeroT Try.prog 2 #[.int .i64 0] := ⟨by kernel_rfl⟩
instance : IntT Try.prog 2 .i64 := ⟨by kernel_rfl⟩
instance : IfaceT Try.prog 2 := ⟨by kernel_rfl⟩
instance : OneT Try.prog 3 := ⟨by kernel_rfl, by kernel_rfl⟩
instance : ZeroT Try.prog 3 #[.int .i64 0] := ⟨by kernel_rfl⟩
instance : IntT Try.prog 3 .i64 := ⟨by kernel_rfl⟩
instance : IfaceT Try.prog 3 := ⟨by kernel_rfl⟩
instance : OneT Try.prog 4 := ⟨by kernel_rfl, by kernel_rfl⟩
instance : ZeroT Try.prog 4 #[.bool false] := ⟨by kernel_rfl⟩
instance : IfaceT Try.prog 4 := ⟨by kernel_rfl⟩
instance : OneT Try.prog 5 := ⟨by kernel_rfl, by kernel_rfl⟩
instance : ZeroT Try.prog 5 #[.int .u8 0] := ⟨by kernel_rfl⟩
instance : IntT Try.prog 5 .u8 := ⟨by kernel_rfl⟩
instance : IfaceT Try.prog 5 := ⟨by kernel_rfl⟩
instance : OneT Try.prog 6 := ⟨by kernel_rfl, by kernel_rfl⟩
instance : ZeroT Try.prog 6 #[.int .u8 0] := ⟨by kernel_rfl⟩
instance : IntT Try.prog 6 .u8 := ⟨by kernel_rfl⟩
instance : IfaceT Try.prog 6 := ⟨by kernel_rfl⟩
instance : RowT Try.prog 7 4 := ⟨by kernel_rfl, by kernel_rfl⟩
instance : IfaceT Try.prog 7 := ⟨by kernel_rfl⟩
instance : FldT Try.prog 7 0 0 1 := ⟨2, by kernel_rfl⟩
instance : FldV Try.prog 7 0 0 1 true := ⟨2, by kernel_rfl, by rw [if_pos rfl]; exact ⟨by kernel_rfl, rfl⟩⟩
instance : FldT Try.prog 7 1 1 1 := ⟨3, by kernel_rfl⟩
instance : FldV Try.prog 7 1 1 1 true := ⟨3, by kernel_rfl, by rw [if_pos rfl]; exact ⟨by kernel_rfl, rfl⟩⟩
instance : FldT Try.prog 7 2 2 1 := ⟨4, by kernel_rfl⟩
instance : FldV Try.prog 7 2 2 1 true := ⟨4, by kernel_rfl, by rw [if_pos rfl]; exact ⟨by kernel_rfl, rfl⟩⟩
instance : FldT Try.prog 7 3 3 1 := ⟨6, by kernel_rfl⟩
instance : FldV Try.prog 7 3 3 1 true := ⟨6, by kernel_rfl, by rw [if_pos rfl]; exact ⟨by kernel_rfl, rfl⟩⟩
instance : RowT Try.prog 8 4 := ⟨by kernel_rfl, by kernel_rfl⟩
instance : IfaceT Try.prog 8 := ⟨by kernel_rfl⟩
instance : FldT Try.prog 8 0 0 1 := ⟨2, by kernel_rfl⟩
instance : FldV Try.prog 8 0 0 1 true := ⟨2, by kernel_rfl, by rw [if_pos rfl]; exact ⟨by kernel_rfl, rfl⟩⟩
instance : FldT Try.prog 8 1 1 1 := ⟨3, by kernel_rfl⟩
instance : FldV Try.prog 8 1 1 1 true := ⟨3, by kernel_rfl, by rw [if_pos rfl]; exact ⟨by kernel_rfl, rfl⟩⟩
instance : FldT Try.prog 8 2 2 1 := ⟨4, by kernel_rfl⟩
instance : FldV Try.prog 8 2 2 1 true := ⟨4, by kernel_rfl, by rw [if_pos rfl]; exact ⟨by kernel_rfl, rfl⟩⟩
instance : FldT Try.prog 8 3 3 1 := ⟨6, by kernel_rfl⟩
instance : FldV Try.prog 8 3 3 1 true := ⟨6, by kernel_rfl, by rw [if_pos rfl]; exact ⟨by kernel_rfl, rfl⟩⟩
instance : OneT Try.prog 9 := ⟨by kernel_rfl, by kernel_rfl⟩
instance : ZeroT Try.prog 9 #[.string ⟨#[]⟩] := ⟨by kernel_rfl⟩
instance : IfaceT Try.prog 9 := ⟨by kernel_rfl⟩
instance : OneT Try.prog 10 := ⟨by kernel_rfl, by kernel_rfl⟩
instance : ZeroT Try.prog 10 #[.string ⟨#[]⟩] := ⟨by kernel_rfl⟩
instance : IfaceT Try.prog 10 := ⟨by kernel_rfl⟩
instance : OneT Try.prog 11 := ⟨by kernel_rfl, by kernel_rfl⟩
instance : ZeroT Try.prog 11 #[.string ⟨#[]⟩] := ⟨by kernel_rfl⟩
instance : IfaceT Try.prog 11 := ⟨by kernel_rfl⟩
instance : OneT Try.prog 12 := ⟨by kernel_rfl, by kernel_rfl⟩
instance : ZeroT Try.prog 12 #[.int .u64 0] := ⟨by kernel_rfl⟩
instance : IntT Try.prog 12 .u64 := ⟨by kernel_rfl⟩
instance : IfaceT Try.prog 12 := ⟨by kernel_rfl⟩
instance : RowT Try.prog 13 2 := ⟨by kernel_rfl, by kernel_rfl⟩
instance : IfaceT Try.prog 13 := ⟨by kernel_rfl⟩
instance : FldT Try.prog 13 0 0 1 := ⟨9, by kernel_rfl⟩
instance : FldV Try.prog 13 0 0 1 true := ⟨9, by kernel_rfl, by rw [if_pos rfl]; exact ⟨by kernel_rfl, rfl⟩⟩
instance : FldT Try.prog 13 1 1 1 := ⟨12, by kernel_rfl⟩
instance : FldV Try.prog 13 1 1 1 true := ⟨12, by kernel_rfl, by rw [if_pos rfl]; exact ⟨by kernel_rfl, rfl⟩⟩
instance : RowT Try.prog 14 2 := ⟨by kernel_rfl, by kernel_rfl⟩
instance : IfaceT Try.prog 14 := ⟨by kernel_rfl⟩
instance : FldT Try.prog 14 0 0 1 := ⟨9, by kernel_rfl⟩
instance : FldV Try.prog 14 0 0 1 true := ⟨9, by kernel_rfl, by rw [if_pos rfl]; exact ⟨by kernel_rfl, rfl⟩⟩
instance : FldT Try.prog 14 1 1 1 := ⟨12, by kernel_rfl⟩
instance : FldV Try.prog 14 1 1 1 true := ⟨12, by kernel_rfl, by rw [if_pos rfl]; exact ⟨by kernel_rfl, rfl⟩⟩
instance : OneT Try.prog 15 := ⟨by kernel_rfl, by kernel_rfl⟩
instance : ZeroT Try.prog 15 #[.pointer none] := ⟨by kernel_rfl⟩
instance : IfaceT Try.prog 15 := ⟨by kernel_rfl⟩
instance : OneT Try.prog 16 := ⟨by kernel_rfl, by kernel_rfl⟩
instance : ZeroT Try.prog 16 #[.pointer none] := ⟨by kernel_rfl⟩
instance : IfaceT Try.prog 16 := ⟨by kernel_rfl⟩
instance : OneT Try.prog 17 := ⟨by kernel_rfl, by kernel_rfl⟩
instance : ZeroT Try.prog 17 #[.pointer none] := ⟨by kernel_rfl⟩
instance : IfaceT Try.prog 17 := ⟨by kernel_rfl⟩
instance : RowT Try.prog 18 1 := ⟨by kernel_rfl, by kernel_rfl⟩
instance : IfaceT Try.prog 18 := ⟨by kernel_rfl⟩
instance : FldT Try.prog 18 0 0 1 := ⟨17, by kernel_rfl⟩
instance : FldV Try.prog 18 0 0 1 true := ⟨17, by kernel_rfl, by rw [if_pos rfl]; exact ⟨by kernel_rfl, rfl⟩⟩
instance : RowT Try.prog 19 1 := ⟨by kernel_rfl, by kernel_rfl⟩
instance : IfaceT Try.prog 19 := ⟨by kernel_rfl⟩
instance : FldT Try.prog 19 0 0 1 := ⟨17, by kernel_rfl⟩
instance : FldV Try.prog 19 0 0 1 true := ⟨17, by kernel_rfl, by rw [if_pos rfl]; exact ⟨by kernel_rfl, rfl⟩⟩
instance : OneT Try.prog 20 := ⟨by kernel_rfl, by kernel_rfl⟩
instance : ZeroT Try.prog 20 #[.nilIface] := ⟨by kernel_rfl⟩
instance : IfT Try.prog 20 := ⟨by kernel_rfl⟩
instance : OneT Try.prog 21 := ⟨by kernel_rfl, by kernel_rfl⟩
instance : ZeroT Try.prog 21 #[.int .i32 0] := ⟨by kernel_rfl⟩
instance : IntT Try.prog 21 .i32 := ⟨by kernel_rfl⟩
instance : IfaceT Try.prog 21 := ⟨by kernel_rfl⟩
instance : OneT Try.prog 22 := ⟨by kernel_rfl, by kernel_rfl⟩
instance : ElT Try.prog 22 1 := ⟨by kernel_rfl⟩
instance : SlT Try.prog 22 5 1 1 := ⟨by kernel_rfl⟩
instance : ZeroT Try.prog 22 #[.slice none 0 0] := ⟨by kernel_rfl⟩
instance : IfaceT Try.prog 22 := ⟨by kernel_rfl⟩
instance : OneT Try.prog 23 := ⟨by kernel_rfl, by kernel_rfl⟩
instance : ElT Try.prog 23 2 := ⟨by kernel_rfl⟩
instance : SlT Try.prog 23 95 2 32 := ⟨by kernel_rfl⟩
instance : ZeroT Try.prog 23 #[.slice none 0 0] := ⟨by kernel_rfl⟩
instance : IfaceT Try.prog 23 := ⟨by kernel_rfl⟩
instance : OneT Try.prog 24 := ⟨by kernel_rfl, by kernel_rfl⟩
instance : ZeroT Try.prog 24 #[.nilFunc] := ⟨by kernel_rfl⟩
instance : IfaceT Try.prog 24 := ⟨by kernel_rfl⟩
instance : OneT Try.prog 25 := ⟨by kernel_rfl, by kernel_rfl⟩
instance : ElT Try.prog 25 128 := ⟨by kernel_rfl⟩
instance : SlT Try.prog 25 31 128 128 := ⟨by kernel_rfl⟩
instance : ZeroT Try.prog 25 #[.slice none 0 0] := ⟨by kernel_rfl⟩
instance : IfaceT Try.prog 25 := ⟨by kernel_rfl⟩
instance : OneT Try.prog 26 := ⟨by kernel_rfl, by kernel_rfl⟩
instance : ZeroT Try.prog 26 #[.nilIface] := ⟨by kernel_rfl⟩
instance : IfT Try.prog 26 := ⟨by kernel_rfl⟩
instance : OneT Try.prog 27 := ⟨by kernel_rfl, by kernel_rfl⟩
instance : ZeroT Try.prog 27 #[.nilIface] := ⟨by kernel_rfl⟩
instance : IfT Try.prog 27 := ⟨by kernel_rfl⟩
instance : OneT Try.prog 28 := ⟨by kernel_rfl, by kernel_rfl⟩
instance : OneT Try.prog 29 := ⟨by kernel_rfl, by kernel_rfl⟩
instance : ZeroT Try.prog 29 #[.nilFunc] := ⟨by kernel_rfl⟩
instance : IfaceT Try.prog 29 := ⟨by kernel_rfl⟩
instance : RowT Try.prog 30 128 := ⟨by kernel_rfl, by kernel_rfl⟩
instance : ArT Try.prog 30 128 1 := ⟨by kernel_rfl⟩
instance : ZeroT Try.prog 30 (bvs (zs 128)) := ⟨by kernel_rfl⟩
instance : IfaceT Try.prog 30 := ⟨by kernel_rfl⟩
instance : RowT Try.prog 31 128 := ⟨by kernel_rfl, by kernel_rfl⟩
instance : ArT Try.prog 31 128 1 := ⟨by kernel_rfl⟩
instance : ZeroT Try.prog 31 (bvs (zs 128)) := ⟨by kernel_rfl⟩
instance : IfaceT Try.prog 31 := ⟨by kernel_rfl⟩
instance : OneT Try.prog 32 := ⟨by kernel_rfl, by kernel_rfl⟩
instance : ElT Try.prog 32 129 := ⟨by kernel_rfl⟩
instance : SlT Try.prog 32 57 129 136 := ⟨by kernel_rfl⟩
instance : ZeroT Try.prog 32 #[.slice none 0 0] := ⟨by kernel_rfl⟩
instance : IfaceT Try.prog 32 := ⟨by kernel_rfl⟩
instance : OneT Try.prog 33 := ⟨by kernel_rfl, by kernel_rfl⟩
instance : ZeroT Try.prog 33 #[.nilFunc] := ⟨by kernel_rfl⟩
instance : IfaceT Try.prog 33 := ⟨by kernel_rfl⟩
instance : OneT Try.prog 34 := ⟨by kernel_rfl, by kernel_rfl⟩
instance : ZeroT Try.prog 34 #[.nilFunc] := ⟨by kernel_rfl⟩
instance : IfaceT Try.prog 34 := ⟨by kernel_rfl⟩
instance : OneT Try.prog 35 := ⟨by kernel_rfl, by kernel_rfl⟩
instance : OneT Try.prog 36 := ⟨by kernel_rfl, by kernel_rfl⟩
instance : ZeroT Try.prog 36 #[.nilFunc] := ⟨by kernel_rfl⟩
instance : IfaceT Try.prog 36 := ⟨by kernel_rfl⟩
instance : OneT Try.prog 37 := ⟨by kernel_rfl, by kernel_rfl⟩
instance : ZeroT Try.prog 37 #[.nilFunc] := ⟨by kernel_rfl⟩
instance : IfaceT Try.prog 37 := ⟨by kernel_rfl⟩
instance : OneT Try.prog 38 := ⟨by kernel_rfl, by kernel_rfl⟩
instance : ZeroT Try.prog 38 #[.nilFunc] := ⟨by kernel_rfl⟩
instance : IfaceT Try.prog 38 := ⟨by kernel_rfl⟩
instance : OneT Try.prog 39 := ⟨by kernel_rfl, by kernel_rfl⟩
instance : ZeroT Try.prog 39 #[.int .i64 0] := ⟨by kernel_rfl⟩
instance : IntT Try.prog 39 .i64 := ⟨by kernel_rfl⟩
instance : IfaceT Try.prog 39 := ⟨by kernel_rfl⟩
instance : OneT Try.prog 40 := ⟨by kernel_rfl, by kernel_rfl⟩
instance : ZeroT Try.prog 40 #[.nilFunc] := ⟨by kernel_rfl⟩
instance : IfaceT Try.prog 40 := ⟨by kernel_rfl⟩
instance : OneT Try.prog 41 := ⟨by kernel_rfl, by kernel_rfl⟩
instance : ZeroT Try.prog 41 #[.nilFunc] := ⟨by kernel_rfl⟩
instance : IfaceT Try.prog 41 := ⟨by kernel_rfl⟩
instance : OneT Try.prog 42 := ⟨by kernel_rfl, by kernel_rfl⟩
instance : ZeroT Try.prog 42 #[.nilFunc] := ⟨by kernel_rfl⟩
instance : IfaceT Try.prog 42 := ⟨by kernel_rfl⟩
instance : OneT Try.prog 43 := ⟨by kernel_rfl, by kernel_rfl⟩
instance : ElT Try.prog 43 1 := ⟨by kernel_rfl⟩
instance : SlT Try.prog 43 22 1 24 := ⟨by kernel_rfl⟩
instance : ZeroT Try.prog 43 #[.slice none 0 0] := ⟨by kernel_rfl⟩
instance : IfaceT Try.prog 43 := ⟨by kernel_rfl⟩
instance : OneT Try.prog 44 := ⟨by kernel_rfl, by kernel_rfl⟩
instance : OneT Try.prog 45 := ⟨by kernel_rfl, by kernel_rfl⟩
instance : ZeroT Try.prog 45 #[.nilFunc] := ⟨by kernel_rfl⟩
instance : IfaceT Try.prog 45 := ⟨by kernel_rfl⟩
instance : OneT Try.prog 46 := ⟨by kernel_rfl, by kernel_rfl⟩
instance : ElT Try.prog 46 1 := ⟨by kernel_rfl⟩
instance : SlT Try.prog 46 3 1 8 := ⟨by kernel_rfl⟩
instance : ZeroT Try.prog 46 #[.slice none 0 0] := ⟨by kernel_rfl⟩
instance : IfaceT Try.prog 46 := ⟨by kernel_rfl⟩
instance : OneT Try.prog 47 := ⟨by kernel_rfl, by kernel_rfl⟩
instance : ZeroT Try.prog 47 #[.nilFunc] := ⟨by kernel_rfl⟩
instance : IfaceT Try.prog 47 := ⟨by kernel_rfl⟩
instance : OneT Try.prog 48 := ⟨by kernel_rfl, by kernel_rfl⟩
instance : ZeroT Try.prog 48 #[.nilFunc] := ⟨by kernel_rfl⟩
instance : IfaceT Try.prog 48 := ⟨by kernel_rfl⟩
instance : OneT Try.prog 49 := ⟨by kernel_rfl, by kernel_rfl⟩
instance : ZeroT Try.prog 49 #[.nilFunc] := ⟨by kernel_rfl⟩
instance : IfaceT Try.prog 49 := ⟨by kernel_rfl⟩
instance : OneT Try.prog 50 := ⟨by kernel_rfl, by kernel_rfl⟩
instance : ZeroT Try.prog 50 #[.nilFunc] := ⟨by kernel_rfl⟩
instance : IfaceT Try.prog 50 := ⟨by kernel_rfl⟩
instance : OneT Try.prog 51 := ⟨by kernel_rfl, by kernel_rfl⟩
instance : ZeroT Try.prog 51 #[.nilFunc] := ⟨by kernel_rfl⟩
instance : IfaceT Try.prog 51 := ⟨by kernel_rfl⟩
instance : RowT Try.prog 52 4 := ⟨by kernel_rfl, by kernel_rfl⟩
instance : IfaceT Try.prog 52 := ⟨by kernel_rfl⟩
instance : FldT Try.prog 52 0 0 1 := ⟨22, by kernel_rfl⟩
instance : FldV Try.prog 52 0 0 1 true := ⟨22, by kernel_rfl, by rw [if_pos rfl]; exact ⟨by kernel_rfl, rfl⟩⟩
instance : FldT Try.prog 52 1 1 1 := ⟨3, by kernel_rfl⟩
instance : FldV Try.prog 52 1 1 1 true := ⟨3, by kernel_rfl, by rw [if_pos rfl]; exact ⟨by kernel_rfl, rfl⟩⟩
instance : FldT Try.prog 52 2 2 1 := ⟨23, by kernel_rfl⟩
instance : FldV Try.prog 52 2 2 1 true := ⟨23, by kernel_rfl, by rw [if_pos rfl]; exact ⟨by kernel_rfl, rfl⟩⟩
instance : FldT Try.prog 52 3 3 1 := ⟨3, by kernel_rfl⟩
instance : FldV Try.prog 52 3 3 1 true := ⟨3, by kernel_rfl, by rw [if_pos rfl]; exact ⟨by kernel_rfl, rfl⟩⟩
instance : RowT Try.prog 53 4 := ⟨by kernel_rfl, by kernel_rfl⟩
instance : IfaceT Try.prog 53 := ⟨by kernel_rfl⟩
instance : FldT Try.prog 53 0 0 1 := ⟨22, by kernel_rfl⟩
instance : FldV Try.prog 53 0 0 1 true := ⟨22, by kernel_rfl, by rw [if_pos rfl]; exact ⟨by kernel_rfl, rfl⟩⟩
instance : FldT Try.prog 53 1 1 1 := ⟨3, by kernel_rfl⟩
instance : FldV Try.prog 53 1 1 1 true := ⟨3, by kernel_rfl, by rw [if_pos rfl]; exact ⟨by kernel_rfl, rfl⟩⟩
instance : FldT Try.prog 53 2 2 1 := ⟨23, by kernel_rfl⟩
instance : FldV Try.prog 53 2 2 1 true := ⟨23, by kernel_rfl, by rw [if_pos rfl]; exact ⟨by kernel_rfl, rfl⟩⟩
instance : FldT Try.prog 53 3 3 1 := ⟨3, by kernel_rfl⟩
instance : FldV Try.prog 53 3 3 1 true := ⟨3, by kernel_rfl, by rw [if_pos rfl]; exact ⟨by kernel_rfl, rfl⟩⟩
instance : OneT Try.prog 54 := ⟨by kernel_rfl, by kernel_rfl⟩
instance : ZeroT Try.prog 54 #[.nilFunc] := ⟨by kernel_rfl⟩
instance : IfaceT Try.prog 54 := ⟨by kernel_rfl⟩
instance : OneT Try.prog 55 := ⟨by kernel_rfl, by kernel_rfl⟩
instance : ZeroT Try.prog 55 #[.nilFunc] := ⟨by kernel_rfl⟩
instance : IfaceT Try.prog 55 := ⟨by kernel_rfl⟩
instance : RowT Try.prog 56 129 := ⟨by kernel_rfl, by kernel_rfl⟩
instance : IfaceT Try.prog 56 := ⟨by kernel_rfl⟩
instance : FldT Try.prog 56 0 0 1 := ⟨3, by kernel_rfl⟩
instance : FldV Try.prog 56 0 0 1 true := ⟨3, by kernel_rfl, by rw [if_pos rfl]; exact ⟨by kernel_rfl, rfl⟩⟩
instance : FldT Try.prog 56 1 1 128 := ⟨31, by kernel_rfl⟩
instance : FldV Try.prog 56 1 1 128 false := ⟨31, by kernel_rfl, by rw [if_neg (by decide)]; exact by kernel_rfl⟩
instance : RowT Try.prog 57 129 := ⟨by kernel_rfl, by kernel_rfl⟩
instance : IfaceT Try.prog 57 := ⟨by kernel_rfl⟩
instance : FldT Try.prog 57 0 0 1 := ⟨3, by kernel_rfl⟩
instance : FldV Try.prog 57 0 0 1 true := ⟨3, by kernel_rfl, by rw [if_pos rfl]; exact ⟨by kernel_rfl, rfl⟩⟩
instance : FldT Try.prog 57 1 1 128 := ⟨31, by kernel_rfl⟩
instance : FldV Try.prog 57 1 1 128 false := ⟨31, by kernel_rfl, by rw [if_neg (by decide)]; exact by kernel_rfl⟩
instance : RowT Try.prog 58 32 := ⟨by kernel_rfl, by kernel_rfl⟩
instance : ArT Try.prog 58 32 1 := ⟨by kernel_rfl⟩
instance : ZeroT Try.prog 58 (bvs (zs 32)) := ⟨by kernel_rfl⟩
instance : IfaceT Try.prog 58 := ⟨by kernel_rfl⟩
instance : RowT Try.prog 59 32 := ⟨by kernel_rfl, by kernel_rfl⟩
instance : ArT Try.prog 59 32 1 := ⟨by kernel_rfl⟩
instance : ZeroT Try.prog 59 (bvs (zs 32)) := ⟨by kernel_rfl⟩
instance : IfaceT Try.prog 59 := ⟨by kernel_rfl⟩
instance : OneT Try.prog 60 := ⟨by kernel_rfl, by kernel_rfl⟩
instance : ZeroT Try.prog 60 #[.nilFunc] := ⟨by kernel_rfl⟩
instance : IfaceT Try.prog 60 := ⟨by kernel_rfl⟩
instance : OneT Try.prog 61 := ⟨by kernel_rfl, by kernel_rfl⟩
instance : ZeroT Try.prog 61 #[.nilFunc] := ⟨by kernel_rfl⟩
instance : IfaceT Try.prog 61 := ⟨by kernel_rfl⟩
instance : RowT Try.prog 62 4 := ⟨by kernel_rfl, by kernel_rfl⟩
instance : IfaceT Try.prog 62 := ⟨by kernel_rfl⟩
instance : FldT Try.prog 62 0 0 1 := ⟨22, by kernel_rfl⟩
instance : FldV Try.prog 62 0 0 1 true := ⟨22, by kernel_rfl, by rw [if_pos rfl]; exact ⟨by kernel_rfl, rfl⟩⟩
instance : FldT Try.prog 62 1 1 1 := ⟨22, by kernel_rfl⟩
instance : FldV Try.prog 62 1 1 1 true := ⟨22, by kernel_rfl, by rw [if_pos rfl]; exact ⟨by kernel_rfl, rfl⟩⟩
instance : FldT Try.prog 62 2 2 1 := ⟨3, by kernel_rfl⟩
instance : FldV Try.prog 62 2 2 1 true := ⟨3, by kernel_rfl, by rw [if_pos rfl]; exact ⟨by kernel_rfl, rfl⟩⟩
instance : FldT Try.prog 62 3 3 1 := ⟨23, by kernel_rfl⟩
instance : FldV Try.prog 62 3 3 1 true := ⟨23, by kernel_rfl, by rw [if_pos rfl]; exact ⟨by kernel_rfl, rfl⟩⟩
instance : RowT Try.prog 63 4 := ⟨by kernel_rfl, by kernel_rfl⟩
instance : IfaceT Try.prog 63 := ⟨by kernel_rfl⟩
instance : FldT Try.prog 63 0 0 1 := ⟨22, by kernel_rfl⟩
instance : FldV Try.prog 63 0 0 1 true := ⟨22, by kernel_rfl, by rw [if_pos rfl]; exact ⟨by kernel_rfl, rfl⟩⟩
instance : FldT Try.prog 63 1 1 1 := ⟨22, by kernel_rfl⟩
instance : FldV Try.prog 63 1 1 1 true := ⟨22, by kernel_rfl, by rw [if_pos rfl]; exact ⟨by kernel_rfl, rfl⟩⟩
instance : FldT Try.prog 63 2 2 1 := ⟨3, by kernel_rfl⟩
instance : FldV Try.prog 63 2 2 1 true := ⟨3, by kernel_rfl, by rw [if_pos rfl]; exact ⟨by kernel_rfl, rfl⟩⟩
instance : FldT Try.prog 63 3 3 1 := ⟨23, by kernel_rfl⟩
instance : FldV Try.prog 63 3 3 1 true := ⟨23, by kernel_rfl, by rw [if_pos rfl]; exact ⟨by kernel_rfl, rfl⟩⟩
instance : OneT Try.prog 64 := ⟨by kernel_rfl, by kernel_rfl⟩
instance : ZeroT Try.prog 64 #[.nilFunc] := ⟨by kernel_rfl⟩
instance : IfaceT Try.prog 64 := ⟨by kernel_rfl⟩
instance : OneT Try.prog 65 := ⟨by kernel_rfl, by kernel_rfl⟩
instance : ZeroT Try.prog 65 #[.nilFunc] := ⟨by kernel_rfl⟩
instance : IfaceT Try.prog 65 := ⟨by kernel_rfl⟩
instance : OneT Try.prog 66 := ⟨by kernel_rfl, by kernel_rfl⟩
instance : ZeroT Try.prog 66 #[.nilFunc] := ⟨by kernel_rfl⟩
instance : IfaceT Try.prog 66 := ⟨by kernel_rfl⟩
instance : OneT Try.prog 67 := ⟨by kernel_rfl, by kernel_rfl⟩
instance : ZeroT Try.prog 67 #[.nilFunc] := ⟨by kernel_rfl⟩
instance : IfaceT Try.prog 67 := ⟨by kernel_rfl⟩
instance : OneT Try.prog 68 := ⟨by kernel_rfl, by kernel_rfl⟩
instance : ZeroT Try.prog 68 #[.nilFunc] := ⟨by kernel_rfl⟩
instance : IfaceT Try.prog 68 := ⟨by kernel_rfl⟩
instance : RowT Try.prog 69 64 := ⟨by kernel_rfl, by kernel_rfl⟩
instance : ArT Try.prog 69 2 32 := ⟨by kernel_rfl⟩
instance : IfaceT Try.prog 69 := ⟨by kernel_rfl⟩
instance : RowT Try.prog 70 24 := ⟨by kernel_rfl, by kernel_rfl⟩
instance : ArT Try.prog 70 24 1 := ⟨by kernel_rfl⟩
instance : ZeroT Try.prog 70 (bvs (zs 24)) := ⟨by kernel_rfl⟩
instance : IfaceT Try.prog 70 := ⟨by kernel_rfl⟩
instance : RowT Try.prog 71 89 := ⟨by kernel_rfl, by kernel_rfl⟩
instance : IfaceT Try.prog 71 := ⟨by kernel_rfl⟩
instance : FldT Try.prog 71 0 0 1 := ⟨3, by kernel_rfl⟩
instance : FldV Try.prog 71 0 0 1 true := ⟨3, by kernel_rfl, by rw [if_pos rfl]; exact ⟨by kernel_rfl, rfl⟩⟩
instance : FldT Try.prog 71 1 1 64 := ⟨69, by kernel_rfl⟩
instance : FldV Try.prog 71 1 1 64 false := ⟨69, by kernel_rfl, by rw [if_neg (by decide)]; exact by kernel_rfl⟩
instance : FldT Try.prog 71 2 65 24 := ⟨70, by kernel_rfl⟩
instance : FldV Try.prog 71 2 65 24 false := ⟨70, by kernel_rfl, by rw [if_neg (by decide)]; exact by kernel_rfl⟩
instance : RowT Try.prog 72 89 := ⟨by kernel_rfl, by kernel_rfl⟩
instance : IfaceT Try.prog 72 := ⟨by kernel_rfl⟩
instance : FldT Try.prog 72 0 0 1 := ⟨3, by kernel_rfl⟩
instance : FldV Try.prog 72 0 0 1 true := ⟨3, by kernel_rfl, by rw [if_pos rfl]; exact ⟨by kernel_rfl, rfl⟩⟩
instance : FldT Try.prog 72 1 1 64 := ⟨69, by kernel_rfl⟩
instance : FldV Try.prog 72 1 1 64 false := ⟨69, by kernel_rfl, by rw [if_neg (by decide)]; exact by kernel_rfl⟩
instance : FldT Try.prog 72 2 65 24 := ⟨70, by kernel_rfl⟩
instance : FldV Try.prog 72 2 65 24 false := ⟨70, by kernel_rfl, by rw [if_neg (by decide)]; exact by kernel_rfl⟩
instance : OneT Try.prog 73 := ⟨by kernel_rfl, by kernel_rfl⟩
instance : OneT Try.prog 74 := ⟨by kernel_rfl, by kernel_rfl⟩
instance : ZeroT Try.prog 74 #[.nilFunc] := ⟨by kernel_rfl⟩
instance : IfaceT Try.prog 74 := ⟨by kernel_rfl⟩
instance : OneT Try.prog 75 := ⟨by kernel_rfl, by kernel_rfl⟩
instance : OneT Try.prog 76 := ⟨by kernel_rfl, by kernel_rfl⟩
instance : ZeroT Try.prog 76 #[.nilFunc] := ⟨by kernel_rfl⟩
instance : IfaceT Try.prog 76 := ⟨by kernel_rfl⟩
instance : OneT Try.prog 77 := ⟨by kernel_rfl, by kernel_rfl⟩
instance : OneT Try.prog 78 := ⟨by kernel_rfl, by kernel_rfl⟩
instance : ZeroT Try.prog 78 #[.nilFunc] := ⟨by kernel_rfl⟩
instance : IfaceT Try.prog 78 := ⟨by kernel_rfl⟩
instance : OneT Try.prog 79 := ⟨by kernel_rfl, by kernel_rfl⟩
instance : ZeroT Try.prog 79 #[.nilFunc] := ⟨by kernel_rfl⟩
instance : IfaceT Try.prog 79 := ⟨by kernel_rfl⟩
instance : RowT Try.prog 80 64 := ⟨by kernel_rfl, by kernel_rfl⟩
instance : IfaceT Try.prog 80 := ⟨by kernel_rfl⟩
instance : FldT Try.prog 80 0 0 32 := ⟨58, by kernel_rfl⟩
instance : FldV Try.prog 80 0 0 32 false := ⟨58, by kernel_rfl, by rw [if_neg (by decide)]; exact by kernel_rfl⟩
instance : FldT Try.prog 80 1 32 32 := ⟨58, by kernel_rfl⟩
instance : FldV Try.prog 80 1 32 32 false := ⟨58, by kernel_rfl, by rw [if_neg (by decide)]; exact by kernel_rfl⟩
instance : RowT Try.prog 81 64 := ⟨by kernel_rfl, by kernel_rfl⟩
instance : IfaceT Try.prog 81 := ⟨by kernel_rfl⟩
instance : FldT Try.prog 81 0 0 32 := ⟨58, by kernel_rfl⟩
instance : FldV Try.prog 81 0 0 32 false := ⟨58, by kernel_rfl, by rw [if_neg (by decide)]; exact by kernel_rfl⟩
instance : FldT Try.prog 81 1 32 32 := ⟨58, by kernel_rfl⟩
instance : FldV Try.prog 81 1 32 32 false := ⟨58, by kernel_rfl, by rw [if_neg (by decide)]; exact by kernel_rfl⟩
instance : OneT Try.prog 82 := ⟨by kernel_rfl, by kernel_rfl⟩
instance : OneT Try.prog 83 := ⟨by kernel_rfl, by kernel_rfl⟩
instance : ZeroT Try.prog 83 #[.nilFunc] := ⟨by kernel_rfl⟩
instance : IfaceT Try.prog 83 := ⟨by kernel_rfl⟩
instance : OneT Try.prog 84 := ⟨by kernel_rfl, by kernel_rfl⟩
instance : ZeroT Try.prog 84 #[.nilFunc] := ⟨by kernel_rfl⟩
instance : IfaceT Try.prog 84 := ⟨by kernel_rfl⟩
instance : OneT Try.prog 85 := ⟨by kernel_rfl, by kernel_rfl⟩
instance : OneT Try.prog 86 := ⟨by kernel_rfl, by kernel_rfl⟩
instance : ZeroT Try.prog 86 #[.nilFunc] := ⟨by kernel_rfl⟩
instance : IfaceT Try.prog 86 := ⟨by kernel_rfl⟩
instance : OneT Try.prog 87 := ⟨by kernel_rfl, by kernel_rfl⟩
instance : ZeroT Try.prog 87 #[.nilFunc] := ⟨by kernel_rfl⟩
instance : IfaceT Try.prog 87 := ⟨by kernel_rfl⟩
instance : OneT Try.prog 88 := ⟨by kernel_rfl, by kernel_rfl⟩
instance : OneT Try.prog 89 := ⟨by kernel_rfl, by kernel_rfl⟩
instance : ZeroT Try.prog 89 #[.nilFunc] := ⟨by kernel_rfl⟩
instance : IfaceT Try.prog 89 := ⟨by kernel_rfl⟩
instance : OneT Try.prog 90 := ⟨by kernel_rfl, by kernel_rfl⟩
instance : ZeroT Try.prog 90 #[.nilFunc] := ⟨by kernel_rfl⟩
instance : IfaceT Try.prog 90 := ⟨by kernel_rfl⟩
instance : OneT Try.prog 91 := ⟨by kernel_rfl, by kernel_rfl⟩
instance : ZeroT Try.prog 91 #[.nilFunc] := ⟨by kernel_rfl⟩
instance : IfaceT Try.prog 91 := ⟨by kernel_rfl⟩
instance : OneT Try.prog 92 := ⟨by kernel_rfl, by kernel_rfl⟩
instance : ZeroT Try.prog 92 #[.nilFunc] := ⟨by kernel_rfl⟩
instance : IfaceT Try.prog 92 := ⟨by kernel_rfl⟩
instance : OneT Try.prog 93 := ⟨by kernel_rfl, by kernel_rfl⟩
instance : ZeroT Try.prog 93 #[.nilFunc] := ⟨by kernel_rfl⟩
instance : IfaceT Try.prog 93 := ⟨by kernel_rfl⟩
instance : RowT Try.prog 94 2 := ⟨by kernel_rfl, by kernel_rfl⟩
instance : IfaceT Try.prog 94 := ⟨by kernel_rfl⟩
instance : FldT Try.prog 94 0 0 1 := ⟨3, by kernel_rfl⟩
instance : FldV Try.prog 94 0 0 1 true := ⟨3, by kernel_rfl, by rw [if_pos rfl]; exact ⟨by kernel_rfl, rfl⟩⟩
instance : FldT Try.prog 94 1 1 1 := ⟨22, by kernel_rfl⟩
instance : FldV Try.prog 94 1 1 1 true := ⟨22, by kernel_rfl, by rw [if_pos rfl]; exact ⟨by kernel_rfl, rfl⟩⟩
instance : RowT Try.prog 95 2 := ⟨by kernel_rfl, by kernel_rfl⟩
instance : IfaceT Try.prog 95 := ⟨by kernel_rfl⟩
instance : FldT Try.prog 95 0 0 1 := ⟨3, by kernel_rfl⟩
instance : FldV Try.prog 95 0 0 1 true := ⟨3, by kernel_rfl, by rw [if_pos rfl]; exact ⟨by kernel_rfl, rfl⟩⟩
instance : FldT Try.prog 95 1 1 1 := ⟨22, by kernel_rfl⟩
instance : FldV Try.prog 95 1 1 1 true := ⟨22, by kernel_rfl, by rw [if_pos rfl]; exact ⟨by kernel_rfl, rfl⟩⟩
instance : OneT Try.prog 96 := ⟨by kernel_rfl, by kernel_rfl⟩
instance : ZeroT Try.prog 96 #[.nilFunc] := ⟨by kernel_rfl⟩
instance : IfaceT Try.prog 96 := ⟨by kernel_rfl⟩
instance : OneT Try.prog 97 := ⟨by kernel_rfl, by kernel_rfl⟩
instance : ZeroT Try.prog 97 #[.nilFunc] := ⟨by kernel_rfl⟩
instance : IfaceT Try.prog 97 := ⟨by kernel_rfl⟩
instance : OneT Try.prog 98 := ⟨by kernel_rfl, by kernel_rfl⟩
instance : OneT Try.prog 99 := ⟨by kernel_rfl, by kernel_rfl⟩
instance : ZeroT Try.prog 99 #[.nilFunc] := ⟨by kernel_rfl⟩
instance : IfaceT Try.prog 99 := ⟨by kernel_rfl⟩
instance : OneT Try.prog 100 := ⟨by kernel_rfl, by kernel_rfl⟩
instance : ZeroT Try.prog 100 #[.int .u64 0] := ⟨by kernel_rfl⟩
instance : IntT Try.prog 100 .u64 := ⟨by kernel_rfl⟩
instance : IfaceT Try.prog 100 := ⟨by kernel_rfl⟩
instance : OneT Try.prog 101 := ⟨by kernel_rfl, by kernel_rfl⟩
instance : ZeroT Try.prog 101 #[.nilFunc] := ⟨by kernel_rfl⟩
instance : IfaceT Try.prog 101 := ⟨by kernel_rfl⟩
instance : OneT Try.prog 102 := ⟨by kernel_rfl, by kernel_rfl⟩
instance : OneT Try.prog 103 := ⟨by kernel_rfl, by kernel_rfl⟩
instance : ZeroT Try.prog 103 #[.nilFunc] := ⟨by kernel_rfl⟩
instance : IfaceT Try.prog 103 := ⟨by kernel_rfl⟩
instance : OneT Try.prog 104 := ⟨by kernel_rfl, by kernel_rfl⟩
instance : ZeroT Try.prog 104 #[.nilFunc] := ⟨by kernel_rfl⟩
instance : IfaceT Try.prog 104 := ⟨by kernel_rfl⟩
instance : OneT Try.prog 105 := ⟨by kernel_rfl, by kernel_rfl⟩
instance : ZeroT Try.prog 105 #[.nilFunc] := ⟨by kernel_rfl⟩
instance : IfaceT Try.prog 105 := ⟨by kernel_rfl⟩
instance : OneT Try.prog 106 := ⟨by kernel_rfl, by kernel_rfl⟩
instance : ZeroT Try.prog 106 #[.int .u64 0] := ⟨by kernel_rfl⟩
instance : IntT Try.prog 106 .u64 := ⟨by kernel_rfl⟩
instance : IfaceT Try.prog 106 := ⟨by kernel_rfl⟩
instance : OneT Try.prog 107 := ⟨by kernel_rfl, by kernel_rfl⟩
instance : ZeroT Try.prog 107 #[.nilFunc] := ⟨by kernel_rfl⟩
instance : IfaceT Try.prog 107 := ⟨by kernel_rfl⟩
instance : OneT Try.prog 108 := ⟨by kernel_rfl, by kernel_rfl⟩
instance : ZeroT Try.prog 108 #[.nilFunc] := ⟨by kernel_rfl⟩
instance : IfaceT Try.prog 108 := ⟨by kernel_rfl⟩
instance : OneT Try.prog 109 := ⟨by kernel_rfl, by kernel_rfl⟩
instance : ZeroT Try.prog 109 #[.map none] := ⟨by kernel_rfl⟩
instance : IfaceT Try.prog 109 := ⟨by kernel_rfl⟩
instance : OneT Try.prog 110 := ⟨by kernel_rfl, by kernel_rfl⟩
instance : ZeroT Try.prog 110 #[.nilFunc] := ⟨by kernel_rfl⟩
instance : IfaceT Try.prog 110 := ⟨by kernel_rfl⟩
instance : OneT Try.prog 111 := ⟨by kernel_rfl, by kernel_rfl⟩
instance : ZeroT Try.prog 111 #[.nilFunc] := ⟨by kernel_rfl⟩
instance : IfaceT Try.prog 111 := ⟨by kernel_rfl⟩
instance : OneT Try.prog 112 := ⟨by kernel_rfl, by kernel_rfl⟩
instance : ZeroT Try.prog 112 #[.nilFunc] := ⟨by kernel_rfl⟩
instance : IfaceT Try.prog 112 := ⟨by kernel_rfl⟩
instance : OneT Try.prog 113 := ⟨by kernel_rfl, by kernel_rfl⟩
instance : ZeroT Try.prog 113 #[.nilFunc] := ⟨by kernel_rfl⟩
instance : IfaceT Try.prog 113 := ⟨by kernel_rfl⟩
instance : OneT Try.prog 114 := ⟨by kernel_rfl, by kernel_rfl⟩
instance : ZeroT Try.prog 114 #[.nilFunc] := ⟨by kernel_rfl⟩
instance : IfaceT Try.prog 114 := ⟨by kernel_rfl⟩
instance : OneT Try.prog 115 := ⟨by kernel_rfl, by kernel_rfl⟩
instance : ZeroT Try.prog 115 #[.nilFunc] := ⟨by kernel_rfl⟩
instance : IfaceT Try.prog 115 := ⟨by kernel_rfl⟩
instance : OneT Try.prog 116 := ⟨by kernel_rfl, by kernel_rfl⟩
instance : ZeroT Try.prog 116 #[.nilFunc] := ⟨by kernel_rfl⟩
instance : IfaceT Try.prog 116 := ⟨by kernel_rfl⟩
instance : OneT Try.prog 117 := ⟨by kernel_rfl, by kernel_rfl⟩
instance : ZeroT Try.prog 117 #[.nilFunc] := ⟨by kernel_rfl⟩
instance : IfaceT Try.prog 117 := ⟨by kernel_rfl⟩
instance : OneT Try.prog 118 := ⟨by kernel_rfl, by kernel_rfl⟩
instance : OneT Try.prog 119 := ⟨by kernel_rfl, by kernel_rfl⟩
instance : ZeroT Try.prog 119 #[.nilFunc] := ⟨by kernel_rfl⟩
instance : IfaceT Try.prog 119 := ⟨by kernel_rfl⟩
instance : OneT Try.prog 120 := ⟨by kernel_rfl, by kernel_rfl⟩
instance : ZeroT Try.prog 120 #[.nilFunc] := ⟨by kernel_rfl⟩
instance : IfaceT Try.prog 120 := ⟨by kernel_rfl⟩
instance : OneT Try.prog 121 := ⟨by kernel_rfl, by kernel_rfl⟩
instance : ZeroT Try.prog 121 #[.nilFunc] := ⟨by kernel_rfl⟩
instance : IfaceT Try.prog 121 := ⟨by kernel_rfl⟩
instance : OneT Try.prog 122 := ⟨by kernel_rfl, by kernel_rfl⟩
instance : ZeroT Try.prog 122 #[.nilFunc] := ⟨by kernel_rfl⟩
instance : IfaceT Try.prog 122 := ⟨by kernel_rfl⟩
instance : OneT Try.prog 123 := ⟨by kernel_rfl, by kernel_rfl⟩
instance : OneT Try.prog 124 := ⟨by kernel_rfl, by kernel_rfl⟩
instance : ZeroT Try.prog 124 #[.map none] := ⟨by kernel_rfl⟩
instance : IfaceT Try.prog 124 := ⟨by kernel_rfl⟩
instance : OneT Try.prog 125 := ⟨by kernel_rfl, by kernel_rfl⟩
instance : ZeroT Try.prog 125 #[.nilFunc] := ⟨by kernel_rfl⟩
instance : IfaceT Try.prog 125 := ⟨by kernel_rfl⟩
instance : OneT Try.prog 126 := ⟨by kernel_rfl, by kernel_rfl⟩
instance : ZeroT Try.prog 126 #[.nilFunc] := ⟨by kernel_rfl⟩
instance : IfaceT Try.prog 126 := ⟨by kernel_rfl⟩
instance : OneT Try.prog 127 := ⟨by kernel_rfl, by kernel_rfl⟩
instance : ZeroT Try.prog 127 #[.int .u32 0] := ⟨by kernel_rfl⟩
instance : IntT Try.prog 127 .u32 := ⟨by kernel_rfl⟩
instance : IfaceT Try.prog 127 := ⟨by kernel_rfl⟩
instance : RowT Try.prog 128 64 := ⟨by kernel_rfl, by kernel_rfl⟩
instance : ArT Try.prog 128 64 1 := ⟨by kernel_rfl⟩
instance : IfaceT Try.prog 128 := ⟨by kernel_rfl⟩
instance : RowT Try.prog 129 8 := ⟨by kernel_rfl, by kernel_rfl⟩
instance : ArT Try.prog 129 8 1 := ⟨by kernel_rfl⟩
instance : IfaceT Try.prog 129 := ⟨by kernel_rfl⟩
instance : OneT Try.prog 130 := ⟨by kernel_rfl, by kernel_rfl⟩
instance : OneT Try.prog 131 := ⟨by kernel_rfl, by kernel_rfl⟩
instance : ZeroT Try.prog 131 #[.nilFunc] := ⟨by kernel_rfl⟩
instance : IfaceT Try.prog 131 := ⟨by kernel_rfl⟩
instance : OneT Try.prog 132 := ⟨by kernel_rfl, by kernel_rfl⟩
instance : ZeroT Try.prog 132 #[.nilFunc] := ⟨by kernel_rfl⟩
instance : IfaceT Try.prog 132 := ⟨by kernel_rfl⟩
instance : OneT Try.prog 133 := ⟨by kernel_rfl, by kernel_rfl⟩
instance : ZeroT Try.prog 133 #[.nilFunc] := ⟨by kernel_rfl⟩
instance : IfaceT Try.prog 133 := ⟨by kernel_rfl⟩
instance : OneT Try.prog 134 := ⟨by kernel_rfl, by kernel_rfl⟩
instance : ZeroT Try.prog 134 #[.nilFunc] := ⟨by kernel_rfl⟩
instance : IfaceT Try.prog 134 := ⟨by kernel_rfl⟩
instance : OneT Try.prog 135 := ⟨by kernel_rfl, by kernel_rfl⟩
instance : ZeroT Try.prog 135 #[.nilFunc] := ⟨by kernel_rfl⟩
instance : IfaceT Try.prog 135 := ⟨by kernel_rfl⟩
instance : OneT Try.prog 136 := ⟨by kernel_rfl, by kernel_rfl⟩
instance : ZeroT Try.prog 136 #[.nilFunc] := ⟨by kernel_rfl⟩
instance : IfaceT Try.prog 136 := ⟨by kernel_rfl⟩
instance : OneT Try.prog 137 := ⟨by kernel_rfl, by kernel_rfl⟩
instance : ZeroT Try.prog 137 #[.nilFunc] := ⟨by kernel_rfl⟩
instance : IfaceT Try.prog 137 := ⟨by kernel_rfl⟩
instance : OneT Try.prog 138 := ⟨by kernel_rfl, by kernel_rfl⟩
instance : ZeroT Try.prog 138 #[.nilFunc] := ⟨by kernel_rfl⟩
instance : IfaceT Try.prog 138 := ⟨by kernel_rfl⟩
instance : RowT Try.prog 139 64 := ⟨by kernel_rfl, by kernel_rfl⟩
instance : ArT Try.prog 139 64 1 := ⟨by kernel_rfl⟩
instance : ZeroT Try.prog 139 (bvs (zs 64)) := ⟨by kernel_rfl⟩
instance : IfaceT Try.prog 139 := ⟨by kernel_rfl⟩
instance : OneT Try.prog 140 := ⟨by kernel_rfl, by kernel_rfl⟩
instance : ZeroT Try.prog 140 #[.nilFunc] := ⟨by kernel_rfl⟩
instance : IfaceT Try.prog 140 := ⟨by kernel_rfl⟩
instance : OneT Try.prog 141 := ⟨by kernel_rfl, by kernel_rfl⟩
instance : ZeroT Try.prog 141 #[.nilFunc] := ⟨by kernel_rfl⟩
instance : IfaceT Try.prog 141 := ⟨by kernel_rfl⟩
instance : OneT Try.prog 142 := ⟨by kernel_rfl, by kernel_rfl⟩
instance : ZeroT Try.prog 142 #[.nilFunc] := ⟨by kernel_rfl⟩
instance : IfaceT Try.prog 142 := ⟨by kernel_rfl⟩
instance : OneT Try.prog 143 := ⟨by kernel_rfl, by kernel_rfl⟩
instance : ElT Try.prog 143 16 := ⟨by kernel_rfl⟩
instance : SlT Try.prog 143 149 16 16 := ⟨by kernel_rfl⟩
instance : ZeroT Try.prog 143 #[.slice none 0 0] := ⟨by kernel_rfl⟩
instance : IfaceT Try.prog 143 := ⟨by kernel_rfl⟩
instance : OneT Try.prog 144 := ⟨by kernel_rfl, by kernel_rfl⟩
instance : OneT Try.prog 145 := ⟨by kernel_rfl, by kernel_rfl⟩
instance : ZeroT Try.prog 145 #[.nilFunc] := ⟨by kernel_rfl⟩
instance : IfaceT Try.prog 145 := ⟨by kernel_rfl⟩
instance : OneT Try.prog 146 := ⟨by kernel_rfl, by kernel_rfl⟩
instance : ZeroT Try.prog 146 #[.nilFunc] := ⟨by kernel_rfl⟩
instance : IfaceT Try.prog 146 := ⟨by kernel_rfl⟩
instance : OneT Try.prog 147 := ⟨by kernel_rfl, by kernel_rfl⟩
instance : ZeroT Try.prog 147 #[.nilFunc] := ⟨by kernel_rfl⟩
instance : IfaceT Try.prog 147 := ⟨by kernel_rfl⟩
instance : RowT Try.prog 148 16 := ⟨by kernel_rfl, by kernel_rfl⟩
instance : ArT Try.prog 148 16 1 := ⟨by kernel_rfl⟩
instance : ZeroT Try.prog 148 (bvs (zs 16)) := ⟨by kernel_rfl⟩
instance : IfaceT Try.prog 148 := ⟨by kernel_rfl⟩
instance : RowT Try.prog 149 16 := ⟨by kernel_rfl, by kernel_rfl⟩
instance : ArT Try.prog 149 16 1 := ⟨by kernel_rfl⟩
instance : ZeroT Try.prog 149 (bvs (zs 16)) := ⟨by kernel_rfl⟩
instance : IfaceT Try.prog 149 := ⟨by kernel_rfl⟩
instance : OneT Try.prog 150 := ⟨by kernel_rfl, by kernel_rfl⟩
instance : ZeroT Try.prog 150 #[.nilFunc] := ⟨by kernel_rfl⟩
instance : IfaceT Try.prog 150 := ⟨by kernel_rfl⟩
instance : OneT Try.prog 151 := ⟨by kernel_rfl, by kernel_rfl⟩
instance : ZeroT Try.prog 151 #[.nilFunc] := ⟨by kernel_rfl⟩
instance : IfaceT Try.prog 151 := ⟨by kernel_rfl⟩
instance : OneT Try.prog 152 := ⟨by kernel_rfl, by kernel_rfl⟩
instance : OneT Try.prog 153 := ⟨by kernel_rfl, by kernel_rfl⟩
instance : ZeroT Try.prog 153 #[.nilFunc] := ⟨by kernel_rfl⟩
instance : IfaceT Try.prog 153 := ⟨by kernel_rfl⟩
instance : OneT Try.prog 154 := ⟨by kernel_rfl, by kernel_rfl⟩
instance : ZeroT Try.prog 154 #[.nilFunc] := ⟨by kernel_rfl⟩
instance : IfaceT Try.prog 154 := ⟨by kernel_rfl⟩
instance : OneT Try.prog 155 := ⟨by kernel_rfl, by kernel_rfl⟩
instance : ZeroT Try.prog 155 #[.nilFunc] := ⟨by kernel_rfl⟩
instance : IfaceT Try.prog 155 := ⟨by kernel_rfl⟩
instance : OneT Try.prog 156 := ⟨by kernel_rfl, by kernel_rfl⟩
instance : ZeroT Try.prog 156 #[.nilFunc] := ⟨by kernel_rfl⟩
instance : IfaceT Try.prog 156 := ⟨by kernel_rfl⟩
instance : OneT Try.prog 157 := ⟨by kernel_rfl, by kernel_rfl⟩
instance : ZeroT Try.prog 157 #[.nilFunc] := ⟨by kernel_rfl⟩
instance : IfaceT Try.prog 157 := ⟨by kernel_rfl⟩
instance : OneT Try.prog 158 := ⟨by kernel_rfl, by kernel_rfl⟩
instance : ZeroT Try.prog 158 #[.nilFunc] := ⟨by kernel_rfl⟩
instance : IfaceT Try.prog 158 := ⟨by kernel_rfl⟩
instance : OneT Try.prog 159 := ⟨by kernel_rfl, by kernel_rfl⟩
instance : ZeroT Try.prog 159 #[.nilFunc] := ⟨by kernel_rfl⟩
instance : IfaceT Try.prog 159 := ⟨by kernel_rfl⟩
instance : OneT Try.prog 160 := ⟨by kernel_rfl, by kernel_rfl⟩
instance : ZeroT Try.prog 160 #[.nilFunc] := ⟨by kernel_rfl⟩
instance : IfaceT Try.prog 160 := ⟨by kernel_rfl⟩
instance : OneT Try.prog 161 := ⟨by kernel_rfl, by kernel_rfl⟩
instance : ZeroT Try.prog 161 #[.nilFunc] := ⟨by kernel_rfl⟩
instance : IfaceT Try.prog 161 := ⟨by kernel_rfl⟩
instance : OneT Try.prog 162 := ⟨by kernel_rfl, by kernel_rfl⟩
instance : ZeroT Try.prog 162 #[.nilFunc] := ⟨by kernel_rfl⟩
instance : IfaceT Try.prog 162 := ⟨by kernel_rfl⟩
instance : OneT Try.prog 163 := ⟨by kernel_rfl, by kernel_rfl⟩
instance : ElT Try.prog 163 4 := ⟨by kernel_rfl⟩
instance : SlT Try.prog 163 164 4 4 := ⟨by kernel_rfl⟩
instance : ZeroT Try.prog 163 #[.slice none 0 0] := ⟨by kernel_rfl⟩
instance : IfaceT Try.prog 163 := ⟨by kernel_rfl⟩
instance : RowT Try.prog 164 4 := ⟨by kernel_rfl, by kernel_rfl⟩
instance : ArT Try.prog 164 4 1 := ⟨by kernel_rfl⟩
instance : ZeroT Try.prog 164 (bvs (zs 4)) := ⟨by kernel_rfl⟩
instance : IfaceT Try.prog 164 := ⟨by kernel_rfl⟩
instance : OneT Try.prog 165 := ⟨by kernel_rfl, by kernel_rfl⟩
instance : ZeroT Try.prog 165 #[.nilFunc] := ⟨by kernel_rfl⟩
instance : IfaceT Try.prog 165 := ⟨by kernel_rfl⟩
instance : OneT Try.prog 166 := ⟨by kernel_rfl, by kernel_rfl⟩
instance : ZeroT Try.prog 166 #[.nilFunc] := ⟨by kernel_rfl⟩
instance : IfaceT Try.prog 166 := ⟨by kernel_rfl⟩
instance : OneT Try.prog 167 := ⟨by kernel_rfl, by kernel_rfl⟩
instance : ZeroT Try.prog 167 #[.nilFunc] := ⟨by kernel_rfl⟩
instance : IfaceT Try.prog 167 := ⟨by kernel_rfl⟩
instance : OneT Try.prog 168 := ⟨by kernel_rfl, by kernel_rfl⟩
instance : ZeroT Try.prog 168 #[.nilFunc] := ⟨by kernel_rfl⟩
instance : IfaceT Try.prog 168 := ⟨by kernel_rfl⟩
instance : OneT Try.prog 169 := ⟨by kernel_rfl, by kernel_rfl⟩
instance : ZeroT Try.prog 169 #[.nilFunc] := ⟨by kernel_rfl⟩
instance : IfaceT Try.prog 169 := ⟨by kernel_rfl⟩
instance : RowT Try.prog 170 256 := ⟨by kernel_rfl, by kernel_rfl⟩
instance : ArT Try.prog 170 256 1 := ⟨by kernel_rfl⟩
instance : ZeroT Try.prog 170 (bvs (zs 256)) := ⟨by kernel_rfl⟩
instance : IfaceT Try.prog 170 := ⟨by kernel_rfl⟩
instance : OneT Try.prog 171 := ⟨by kernel_rfl, by kernel_rfl⟩
instance : ZeroT Try.prog 171 #[.nilFunc] := ⟨by kernel_rfl⟩
instance : IfaceT Try.prog 171 := ⟨by kernel_rfl⟩
instance : OneT Try.prog 172 := ⟨by kernel_rfl, by kernel_rfl⟩
instance : ZeroT Try.prog 172 #[.nilFunc] := ⟨by kernel_rfl⟩
instance : IfaceT Try.prog 172 := ⟨by kernel_rfl⟩
instance : OneT Try.prog 173 := ⟨by kernel_rfl, by kernel_rfl⟩
instance : ZeroT Try.prog 173 #[.nilFunc] := ⟨by kernel_rfl⟩
instance : IfaceT Try.prog 173 := ⟨by kernel_rfl⟩
instance : OneT Try.prog 174 := ⟨by kernel_rfl, by kernel_rfl⟩
instance : ZeroT Try.prog 174 #[.int .i64 0] := ⟨by kernel_rfl⟩
instance : IntT Try.prog 174 .i64 := ⟨by kernel_rfl⟩
instance : IfaceT Try.prog 174 := ⟨by kernel_rfl⟩
instance : OneT Try.prog 175 := ⟨by kernel_rfl, by kernel_rfl⟩
instance : OneT Try.prog 176 := ⟨by kernel_rfl, by kernel_rfl⟩
instance : ZeroT Try.prog 176 #[.nilFunc] := ⟨by kernel_rfl⟩
instance : IfaceT Try.prog 176 := ⟨by kernel_rfl⟩
instance : OneT Try.prog 177 := ⟨by kernel_rfl, by kernel_rfl⟩
instance : ZeroT Try.prog 177 #[.nilFunc] := ⟨by kernel_rfl⟩
instance : IfaceT Try.prog 177 := ⟨by kernel_rfl⟩
instance : OneT Try.prog 178 := ⟨by kernel_rfl, by kernel_rfl⟩
instance : ZeroT Try.prog 178 #[.nilFunc] := ⟨by kernel_rfl⟩
instance : IfaceT Try.prog 178 := ⟨by kernel_rfl⟩
instance : OneT Try.prog 179 := ⟨by kernel_rfl, by kernel_rfl⟩
instance : ZeroT Try.prog 179 #[.nilFunc] := ⟨by kernel_rfl⟩
instance : IfaceT Try.prog 179 := ⟨by kernel_rfl⟩
instance : OneT Try.prog 180 := ⟨by kernel_rfl, by kernel_rfl⟩
instance : ZeroT Try.prog 180 #[.nilFunc] := ⟨by kernel_rfl⟩
instance : IfaceT Try.prog 180 := ⟨by kernel_rfl⟩
instance : OneT Try.prog 181 := ⟨by kernel_rfl, by kernel_rfl⟩
instance : ZeroT Try.prog 181 #[.nilFunc] := ⟨by kernel_rfl⟩
instance : IfaceT Try.prog 181 := ⟨by kernel_rfl⟩
instance : OneT Try.prog 182 := ⟨by kernel_rfl, by kernel_rfl⟩
instance : ZeroT Try.prog 182 #[.nilFunc] := ⟨by kernel_rfl⟩
instance : IfaceT Try.prog 182 := ⟨by kernel_rfl⟩
instance : OneT Try.prog 183 := ⟨by kernel_rfl, by kernel_rfl⟩
instance : ZeroT Try.prog 183 #[.nilFunc] := ⟨by kernel_rfl⟩
instance : IfaceT Try.prog 183 := ⟨by kernel_rfl⟩
instance : OneT Try.prog 184 := ⟨by kernel_rfl, by kernel_rfl⟩
instance : ZeroT Try.prog 184 #[.nilFunc] := ⟨by kernel_rfl⟩
instance : IfaceT Try.prog 184 := ⟨by kernel_rfl⟩
instance : OneT Try.prog 185 := ⟨by kernel_rfl, by kernel_rfl⟩
instance : ZeroT Try.prog 185 #[.nilFunc] := ⟨by kernel_rfl⟩
instance : IfaceT Try.prog 185 := ⟨by kernel_rfl⟩
instance : OneT Try.prog 186 := ⟨by kernel_rfl, by kernel_rfl⟩
instance : ZeroT Try.prog 186 #[.nilFunc] := ⟨by kernel_rfl⟩
instance : IfaceT Try.prog 186 := ⟨by kernel_rfl⟩
instance : OneT Try.prog 187 := ⟨by kernel_rfl, by kernel_rfl⟩
instance : ElT Try.prog 187 1 := ⟨by kernel_rfl⟩
instance : SlT Try.prog 187 127 1 4 := ⟨by kernel_rfl⟩
instance : ZeroT Try.prog 187 #[.slice none 0 0] := ⟨by kernel_rfl⟩
instance : IfaceT Try.prog 187 := ⟨by kernel_rfl⟩
instance : OneT Try.prog 188 := ⟨by kernel_rfl, by kernel_rfl⟩
instance : ZeroT Try.prog 188 #[.nilFunc] := ⟨by kernel_rfl⟩
instance : IfaceT Try.prog 188 := ⟨by kernel_rfl⟩
instance : OneT Try.prog 189 := ⟨by kernel_rfl, by kernel_rfl⟩
instance : ZeroT Try.prog 189 #[.nilFunc] := ⟨by kernel_rfl⟩
instance : IfaceT Try.prog 189 := ⟨by kernel_rfl⟩
instance : OneT Try.prog 190 := ⟨by kernel_rfl, by kernel_rfl⟩
instance : ZeroT Try.prog 190 #[.nilFunc] := ⟨by kernel_rfl⟩
instance : IfaceT Try.prog 190 := ⟨by kernel_rfl⟩
instance : OneT Try.prog 191 := ⟨by kernel_rfl, by kernel_rfl⟩
instance : ZeroT Try.prog 191 #[.nilFunc] := ⟨by kernel_rfl⟩
instance : IfaceT Try.prog 191 := ⟨by kernel_rfl⟩
instance : OneT Try.prog 192 := ⟨by kernel_rfl, by kernel_rfl⟩
instance : ZeroT Try.prog 192 #[.nilFunc] := ⟨by kernel_rfl⟩
instance : IfaceT Try.prog 192 := ⟨by kernel_rfl⟩
instance : OneT Try.prog 193 := ⟨by kernel_rfl, by kernel_rfl⟩
instance : ZeroT Try.prog 193 #[.nilFunc] := ⟨by kernel_rfl⟩
instance : IfaceT Try.prog 193 := ⟨by kernel_rfl⟩
instance : RowT Try.prog 194 16 := ⟨by kernel_rfl, by kernel_rfl⟩
instance : ArT Try.prog 194 4 4 := ⟨by kernel_rfl⟩
instance : IfaceT Try.prog 194 := ⟨by kernel_rfl⟩
instance : OneT Try.prog 195 := ⟨by kernel_rfl, by kernel_rfl⟩
instance : ZeroT Try.prog 195 #[.nilFunc] := ⟨by kernel_rfl⟩
instance : IfaceT Try.prog 195 := ⟨by kernel_rfl⟩
instance : OneT Try.prog 196 := ⟨by kernel_rfl, by kernel_rfl⟩
instance : ZeroT Try.prog 196 #[.nilFunc] := ⟨by kernel_rfl⟩
instance : IfaceT Try.prog 196 := ⟨by kernel_rfl⟩
instance : OneT Try.prog 197 := ⟨by kernel_rfl, by kernel_rfl⟩
instance : ZeroT Try.prog 197 #[.int .u64 0] := ⟨by kernel_rfl⟩
instance : IntT Try.prog 197 .u64 := ⟨by kernel_rfl⟩
instance : IfaceT Try.prog 197 := ⟨by kernel_rfl⟩
instance : OneT Try.prog 198 := ⟨by kernel_rfl, by kernel_rfl⟩
instance : ZeroT Try.prog 198 #[.nilFunc] := ⟨by kernel_rfl⟩
instance : IfaceT Try.prog 198 := ⟨by kernel_rfl⟩
instance : OneT Try.prog 199 := ⟨by kernel_rfl, by kernel_rfl⟩
instance : ZeroT Try.prog 199 #[.nilFunc] := ⟨by kernel_rfl⟩
instance : IfaceT Try.prog 199 := ⟨by kernel_rfl⟩
instance : OneT Try.prog 200 := ⟨by kernel_rfl, by kernel_rfl⟩
instance : ZeroT Try.prog 200 #[.nilFunc] := ⟨by kernel_rfl⟩
instance : IfaceT Try.prog 200 := ⟨by kernel_rfl⟩
instance : OneT Try.prog 201 := ⟨by kernel_rfl, by kernel_rfl⟩
instance : ZeroT Try.prog 201 #[.pointer none] := ⟨by kernel_rfl⟩
instance : IfaceT Try.prog 201 := ⟨by kernel_rfl⟩
instance : OneT Try.prog 202 := ⟨by kernel_rfl, by kernel_rfl⟩
instance : ZeroT Try.prog 202 #[.nilFunc] := ⟨by kernel_rfl⟩
instance : IfaceT Try.prog 202 := ⟨by kernel_rfl⟩
instance : OneT Try.prog 203 := ⟨by kernel_rfl, by kernel_rfl⟩
instance : ZeroT Try.prog 203 #[.nilFunc] := ⟨by kernel_rfl⟩
instance : IfaceT Try.prog 203 := ⟨by kernel_rfl⟩
instance : OneT Try.prog 204 := ⟨by kernel_rfl, by kernel_rfl⟩
instance : ZeroT Try.prog 204 #[.nilFunc] := ⟨by kernel_rfl⟩
instance : IfaceT Try.prog 204 := ⟨by kernel_rfl⟩
instance : OneT Try.prog 205 := ⟨by kernel_rfl, by kernel_rfl⟩
instance : ZeroT Try.prog 205 #[.nilFunc] := ⟨by kernel_rfl⟩
instance : IfaceT Try.prog 205 := ⟨by kernel_rfl⟩
instance : RowT Try.prog 206 15 := ⟨by kernel_rfl, by kernel_rfl⟩
instance : ArT Try.prog 206 15 1 := ⟨by kernel_rfl⟩
instance : IfaceT Try.prog 206 := ⟨by kernel_rfl⟩
instance : OneT Try.prog 207 := ⟨by kernel_rfl, by kernel_rfl⟩
instance : ZeroT Try.prog 207 #[.nilFunc] := ⟨by kernel_rfl⟩
instance : IfaceT Try.prog 207 := ⟨by kernel_rfl⟩
instance : OneT Try.prog 208 := ⟨by kernel_rfl, by kernel_rfl⟩
instance : ZeroT Try.prog 208 #[.nilFunc] := ⟨by kernel_rfl⟩
instance : IfaceT Try.prog 208 := ⟨by kernel_rfl⟩
instance : OneT Try.prog 209 := ⟨by kernel_rfl, by kernel_rfl⟩
instance : ZeroT Try.prog 209 #[.pointer none] := ⟨by kernel_rfl⟩
instance : IfaceT Try.prog 209 := ⟨by kernel_rfl⟩
instance : OneT Try.prog 210 := ⟨by kernel_rfl, by kernel_rfl⟩
instance : OneT Try.prog 211 := ⟨by kernel_rfl, by kernel_rfl⟩
instance : ZeroT Try.prog 211 #[.nilFunc] := ⟨by kernel_rfl⟩
instance : IfaceT Try.prog 211 := ⟨by kernel_rfl⟩
instance : OneT Try.prog 212 := ⟨by kernel_rfl, by kernel_rfl⟩
instance : ZeroT Try.prog 212 #[.nilFunc] := ⟨by kernel_rfl⟩
instance : IfaceT Try.prog 212 := ⟨by kernel_rfl⟩
instance : RowT Try.prog 213 4 := ⟨by kernel_rfl, by kernel_rfl⟩
instance : IfaceT Try.prog 213 := ⟨by kernel_rfl⟩
instance : FldT Try.prog 213 0 0 1 := ⟨17, by kernel_rfl⟩
instance : FldV Try.prog 213 0 0 1 true := ⟨17, by kernel_rfl, by rw [if_pos rfl]; exact ⟨by kernel_rfl, rfl⟩⟩
instance : FldT Try.prog 213 1 1 1 := ⟨17, by kernel_rfl⟩
instance : FldV Try.prog 213 1 1 1 true := ⟨17, by kernel_rfl, by rw [if_pos rfl]; exact ⟨by kernel_rfl, rfl⟩⟩
instance : FldT Try.prog 213 2 2 1 := ⟨17, by kernel_rfl⟩
instance : FldV Try.prog 213 2 2 1 true := ⟨17, by kernel_rfl, by rw [if_pos rfl]; exact ⟨by kernel_rfl, rfl⟩⟩
instance : FldT Try.prog 213 3 3 1 := ⟨9, by kernel_rfl⟩
instance : FldV Try.prog 213 3 3 1 true := ⟨9, by kernel_rfl, by rw [if_pos rfl]; exact ⟨by kernel_rfl, rfl⟩⟩
instance : RowT Try.prog 214 4 := ⟨by kernel_rfl, by kernel_rfl⟩
instance : IfaceT Try.prog 214 := ⟨by kernel_rfl⟩
instance : FldT Try.prog 214 0 0 1 := ⟨17, by kernel_rfl⟩
instance : FldV Try.prog 214 0 0 1 true := ⟨17, by kernel_rfl, by rw [if_pos rfl]; exact ⟨by kernel_rfl, rfl⟩⟩
instance : FldT Try.prog 214 1 1 1 := ⟨17, by kernel_rfl⟩
instance : FldV Try.prog 214 1 1 1 true := ⟨17, by kernel_rfl, by rw [if_pos rfl]; exact ⟨by kernel_rfl, rfl⟩⟩
instance : FldT Try.prog 214 2 2 1 := ⟨17, by kernel_rfl⟩
instance : FldV Try.prog 214 2 2 1 true := ⟨17, by kernel_rfl, by rw [if_pos rfl]; exact ⟨by kernel_rfl, rfl⟩⟩
instance : FldT Try.prog 214 3 3 1 := ⟨9, by kernel_rfl⟩
instance : FldV Try.prog 214 3 3 1 true := ⟨9, by kernel_rfl, by rw [if_pos rfl]; exact ⟨by kernel_rfl, rfl⟩⟩
instance : IfaceT Try.prog 215 := ⟨by kernel_rfl⟩
instance : IfaceT Try.prog 216 := ⟨by kernel_rfl⟩
instance : IfaceT Try.prog 217 := ⟨by kernel_rfl⟩
instance : OneT Try.prog 218 := ⟨by kernel_rfl, by kernel_rfl⟩
instance : ZeroT Try.prog 218 #[.nilFunc] := ⟨by kernel_rfl⟩
instance : IfaceT Try.prog 218 := ⟨by kernel_rfl⟩
instance : OneT Try.prog 219 := ⟨by kernel_rfl, by kernel_rfl⟩
instance : ZeroT Try.prog 219 #[.int .u8 0] := ⟨by kernel_rfl⟩
instance : IntT Try.prog 219 .u8 := ⟨by kernel_rfl⟩
instance : IfaceT Try.prog 219 := ⟨by kernel_rfl⟩
instance : OneT Try.prog 220 := ⟨by kernel_rfl, by kernel_rfl⟩
instance : ZeroT Try.prog 220 #[.int .u8 0] := ⟨by kernel_rfl⟩
instance : IntT Try.prog 220 .u8 := ⟨by kernel_rfl⟩
instance : IfaceT Try.prog 220 := ⟨by kernel_rfl⟩
instance : OneT Try.prog 221 := ⟨by kernel_rfl, by kernel_rfl⟩
instance : ZeroT Try.prog 221 #[.nilFunc] := ⟨by kernel_rfl⟩
instance : IfaceT Try.prog 221 := ⟨by kernel_rfl⟩
instance : OneT Try.prog 222 := ⟨by kernel_rfl, by kernel_rfl⟩
instance : ZeroT Try.prog 222 #[.pointer none] := ⟨by kernel_rfl⟩
instance : IfaceT Try.prog 222 := ⟨by kernel_rfl⟩
instance : OneT Try.prog 223 := ⟨by kernel_rfl, by kernel_rfl⟩
instance : ZeroT Try.prog 223 #[.int .i32 0] := ⟨by kernel_rfl⟩
instance : IntT Try.prog 223 .i32 := ⟨by kernel_rfl⟩
instance : IfaceT Try.prog 223 := ⟨by kernel_rfl⟩
instance : OneT Try.prog 224 := ⟨by kernel_rfl, by kernel_rfl⟩
instance : ZeroT Try.prog 224 #[.int .i32 0] := ⟨by kernel_rfl⟩
instance : IntT Try.prog 224 .i32 := ⟨by kernel_rfl⟩
instance : IfaceT Try.prog 224 := ⟨by kernel_rfl⟩
instance : RowT Try.prog 225 11 := ⟨by kernel_rfl, by kernel_rfl⟩
instance : IfaceT Try.prog 225 := ⟨by kernel_rfl⟩
instance : FldT Try.prog 225 0 0 1 := ⟨12, by kernel_rfl⟩
instance : FldV Try.prog 225 0 0 1 true := ⟨12, by kernel_rfl, by rw [if_pos rfl]; exact ⟨by kernel_rfl, rfl⟩⟩
instance : FldT Try.prog 225 1 1 1 := ⟨12, by kernel_rfl⟩
instance : FldV Try.prog 225 1 1 1 true := ⟨12, by kernel_rfl, by rw [if_pos rfl]; exact ⟨by kernel_rfl, rfl⟩⟩
instance : FldT Try.prog 225 2 2 1 := ⟨127, by kernel_rfl⟩
instance : FldV Try.prog 225 2 2 1 true := ⟨127, by kernel_rfl, by rw [if_pos rfl]; exact ⟨by kernel_rfl, rfl⟩⟩
instance : FldT Try.prog 225 3 3 1 := ⟨219, by kernel_rfl⟩
instance : FldV Try.prog 225 3 3 1 true := ⟨219, by kernel_rfl, by rw [if_pos rfl]; exact ⟨by kernel_rfl, rfl⟩⟩
instance : FldT Try.prog 225 4 4 1 := ⟨5, by kernel_rfl⟩
instance : FldV Try.prog 225 4 4 1 true := ⟨5, by kernel_rfl, by rw [if_pos rfl]; exact ⟨by kernel_rfl, rfl⟩⟩
instance : FldT Try.prog 225 5 5 1 := ⟨5, by kernel_rfl⟩
instance : FldV Try.prog 225 5 5 1 true := ⟨5, by kernel_rfl, by rw [if_pos rfl]; exact ⟨by kernel_rfl, rfl⟩⟩
instance : FldT Try.prog 225 6 6 1 := ⟨220, by kernel_rfl⟩
instance : FldV Try.prog 225 6 6 1 true := ⟨220, by kernel_rfl, by rw [if_pos rfl]; exact ⟨by kernel_rfl, rfl⟩⟩
instance : FldT Try.prog 225 7 7 1 := ⟨221, by kernel_rfl⟩
instance : FldV Try.prog 225 7 7 1 true := ⟨221, by kernel_rfl, by rw [if_pos rfl]; exact ⟨by kernel_rfl, rfl⟩⟩
instance : FldT Try.prog 225 8 8 1 := ⟨222, by kernel_rfl⟩
instance : FldV Try.prog 225 8 8 1 true := ⟨222, by kernel_rfl, by rw [if_pos rfl]; exact ⟨by kernel_rfl, rfl⟩⟩
instance : FldT Try.prog 225 9 9 1 := ⟨223, by kernel_rfl⟩
instance : FldV Try.prog 225 9 9 1 true := ⟨223, by kernel_rfl, by rw [if_pos rfl]; exact ⟨by kernel_rfl, rfl⟩⟩
instance : FldT Try.prog 225 10 10 1 := ⟨224, by kernel_rfl⟩
instance : FldV Try.prog 225 10 10 1 true := ⟨224, by kernel_rfl, by rw [if_pos rfl]; exact ⟨by kernel_rfl, rfl⟩⟩
instance : RowT Try.prog 226 11 := ⟨by kernel_rfl, by kernel_rfl⟩
instance : IfaceT Try.prog 226 := ⟨by kernel_rfl⟩
instance : FldT Try.prog 226 0 0 1 := ⟨12, by kernel_rfl⟩
instance : FldV Try.prog 226 0 0 1 true := ⟨12, by kernel_rfl, by rw [if_pos rfl]; exact ⟨by kernel_rfl, rfl⟩⟩
instance : FldT Try.prog 226 1 1 1 := ⟨12, by kernel_rfl⟩
instance : FldV Try.prog 226 1 1 1 true := ⟨12, by kernel_rfl, by rw [if_pos rfl]; exact ⟨by kernel_rfl, rfl⟩⟩
instance : FldT Try.prog 226 2 2 1 := ⟨127, by kernel_rfl⟩
instance : FldV Try.prog 226 2 2 1 true := ⟨127, by kernel_rfl, by rw [if_pos rfl]; exact ⟨by kernel_rfl, rfl⟩⟩
instance : FldT Try.prog 226 3 3 1 := ⟨219, by kernel_rfl⟩
instance : FldV Try.prog 226 3 3 1 true := ⟨219, by kernel_rfl, by rw [if_pos rfl]; exact ⟨by kernel_rfl, rfl⟩⟩
instance : FldT Try.prog 226 4 4 1 := ⟨5, by kernel_rfl⟩
instance : FldV Try.prog 226 4 4 1 true := ⟨5, by kernel_rfl, by rw [if_pos rfl]; exact ⟨by kernel_rfl, rfl⟩⟩
instance : FldT Try.prog 226 5 5 1 := ⟨5, by kernel_rfl⟩
instance : FldV Try.prog 226 5 5 1 true := ⟨5, by kernel_rfl, by rw [if_pos rfl]; exact ⟨by kernel_rfl, rfl⟩⟩
instance : FldT Try.prog 226 6 6 1 := ⟨220, by kernel_rfl⟩
instance : FldV Try.prog 226 6 6 1 true := ⟨220, by kernel_rfl, by rw [if_pos rfl]; exact ⟨by kernel_rfl, rfl⟩⟩
instance : FldT Try.prog 226 7 7 1 := ⟨221, by kernel_rfl⟩
instance : FldV Try.prog 226 7 7 1 true := ⟨221, by kernel_rfl, by rw [if_pos rfl]; exact ⟨by kernel_rfl, rfl⟩⟩
instance : FldT Try.prog 226 8 8 1 := ⟨222, by kernel_rfl⟩
instance : FldV Try.prog 226 8 8 1 true := ⟨222, by kernel_rfl, by rw [if_pos rfl]; exact ⟨by kernel_rfl, rfl⟩⟩
instance : FldT Try.prog 226 9 9 1 := ⟨223, by kernel_rfl⟩
instance : FldV Try.prog 226 9 9 1 true := ⟨223, by kernel_rfl, by rw [if_pos rfl]; exact ⟨by kernel_rfl, rfl⟩⟩
instance : FldT Try.prog 226 10 10 1 := ⟨224, by kernel_rfl⟩
instance : FldV Try.prog 226 10 10 1 true := ⟨224, by kernel_rfl, by rw [if_pos rfl]; exact ⟨by kernel_rfl, rfl⟩⟩
instance : OneT Try.prog 227 := ⟨by kernel_rfl, by kernel_rfl⟩
instance : IfaceT Try.prog 227 := ⟨by kernel_rfl⟩
instance : GoF Try.prog 3 := ⟨by kernel_rfl⟩
instance : GoF Try.prog 4 := ⟨by kernel_rfl⟩
instance : GoF Try.prog 5 := ⟨by kernel_rfl⟩
instance : GoF Try.prog 6 := ⟨by kernel_rfl⟩
instance : GoF Try.prog 7 := ⟨by kernel_rfl⟩
instance : GoF Try.prog 8 := ⟨by kernel_rfl⟩
instance : GoF Try.prog 9 := ⟨by kernel_rfl⟩
instance : GoF Try.prog 10 := ⟨by kernel_rfl⟩
instance : GoF Try.prog 11 := ⟨by kernel_rfl⟩
instance : GoF Try.prog 12 := ⟨by kernel_rfl⟩
instance : GoF Try.prog 13 := ⟨by kernel_rfl⟩
instance : GoF Try.prog 14 := ⟨by kernel_rfl⟩
instance : GoF Try.prog 15 := ⟨by kernel_rfl⟩
instance : GoF Try.prog 16 := ⟨by kernel_rfl⟩
instance : GoF Try.prog 17 := ⟨by kernel_rfl⟩
instance : GoF Try.prog 18 := ⟨by kernel_rfl⟩
instance : GoF Try.prog 19 := ⟨by kernel_rfl⟩
instance : GoF Try.prog 20 := ⟨by kernel_rfl⟩
instance : GoF Try.prog 21 := ⟨by kernel_rfl⟩
instance : GoF Try.prog 22 := ⟨by kernel_rfl⟩
instance : GoF Try.prog 23 := ⟨by kernel_rfl⟩
instance : GoF Try.prog 24 := ⟨by kernel_rfl⟩
instance : GoF Try.prog 25 := ⟨by kernel_rfl⟩
instance : GoF Try.prog 26 := ⟨by kernel_rfl⟩
instance : GoF Try.prog 27 := ⟨by kernel_rfl⟩
instance : GoF Try.prog 28 := ⟨by kernel_rfl⟩
instance : GoF Try.prog 29 := ⟨by kernel_rfl⟩
instance : GoF Try.prog 30 := ⟨by kernel_rfl⟩
instance : GoF Try.prog 31 := ⟨by kernel_rfl⟩
instance : GoF Try.prog 32 := ⟨by kernel_rfl⟩
instance : GoF Try.prog 33 := ⟨by kernel_rfl⟩
instance : GoF Try.prog 34 := ⟨by kernel_rfl⟩
instance : GoF Try.prog 35 := ⟨by kernel_rfl⟩
instance : GoF Try.prog 36 := ⟨by kernel_rfl⟩
instance : GoF Try.prog 37 := ⟨by kernel_rfl⟩
instance : GoF Try.prog 38 := ⟨by kernel_rfl⟩
instance : GoF Try.prog 39 := ⟨by kernel_rfl⟩
instance : GoF Try.prog 40 := ⟨by kernel_rfl⟩
instance : GoF Try.prog 41 := ⟨by kernel_rfl⟩
instance : GoF Try.prog 42 := ⟨by kernel_rfl⟩
instance : GoF Try.prog 43 := ⟨by kernel_rfl⟩
instance : GoF Try.prog 44 := ⟨by kernel_rfl⟩
instance : GoF Try.prog 45 := ⟨by kernel_rfl⟩
instance : GoF Try.prog 46 := ⟨by kernel_rfl⟩
instance : GoF Try.prog 47 := ⟨by kernel_rfl⟩
instance : GoF Try.prog 48 := ⟨by kernel_rfl⟩
instance : GoF Try.prog 49 := ⟨by kernel_rfl⟩
instance : GoF Try.prog 50 := ⟨by kernel_rfl⟩
instance : GoF Try.prog 51 := ⟨by kernel_rfl⟩
instance : GoF Try.prog 52 := ⟨by kernel_rfl⟩
instance : GoF Try.prog 53 := ⟨by kernel_rfl⟩
instance : GoF Try.prog 54 := ⟨by kernel_rfl⟩
instance : GoF Try.prog 55 := ⟨by kernel_rfl⟩
instance : GoF Try.prog 56 := ⟨by kernel_rfl⟩
instance : GoF Try.prog 57 := ⟨by kernel_rfl⟩
instance : GoF Try.prog 58 := ⟨by kernel_rfl⟩
instance : GoF Try.prog 59 := ⟨by kernel_rfl⟩
instance : GoF Try.prog 60 := ⟨by kernel_rfl⟩
instance : GoF Try.prog 61 := ⟨by kernel_rfl⟩
instance : GoF Try.prog 62 := ⟨by kernel_rfl⟩
instance : GoF Try.prog 63 := ⟨by kernel_rfl⟩
instance : GoF Try.prog 64 := ⟨by kernel_rfl⟩
instance : GoF Try.prog 65 := ⟨by kernel_rfl⟩
instance : GoF Try.prog 66 := ⟨by kernel_rfl⟩
instance : GoF Try.prog 67 := ⟨by kernel_rfl⟩
instance : GoF Try.prog 68 := ⟨by kernel_rfl⟩
instance : GoF Try.prog 69 := ⟨by kernel_rfl⟩
instance : GoF Try.prog 70 := ⟨by kernel_rfl⟩
instance : GoF Try.prog 71 := ⟨by kernel_rfl⟩
instance : GoF Try.prog 72 := ⟨by kernel_rfl⟩
instance : GoF Try.prog 73 := ⟨by kernel_rfl⟩
instance : GoF Try.prog 74 := ⟨by kernel_rfl⟩
instance : GoF Try.prog 75 := ⟨by kernel_rfl⟩
instance : GoF Try.prog 76 := ⟨by kernel_rfl⟩
instance : GoF Try.prog 77 := ⟨by kernel_rfl⟩
instance : GoF Try.prog 78 := ⟨by kernel_rfl⟩
instance : GoF Try.prog 79 := ⟨by kernel_rfl⟩
instance : GoF Try.prog 80 := ⟨by kernel_rfl⟩
instance : GoF Try.prog 81 := ⟨by kernel_rfl⟩
instance : GoF Try.prog 82 := ⟨by kernel_rfl⟩
instance : GoF Try.prog 83 := ⟨by kernel_rfl⟩
instance : GoF Try.prog 84 := ⟨by kernel_rfl⟩
instance : GoF Try.prog 85 := ⟨by kernel_rfl⟩
instance : GoF Try.prog 86 := ⟨by kernel_rfl⟩
instance : GoF Try.prog 87 := ⟨by kernel_rfl⟩
instance : GoF Try.prog 88 := ⟨by kernel_rfl⟩
instance : GoF Try.prog 89 := ⟨by kernel_rfl⟩
instance : GoF Try.prog 90 := ⟨by kernel_rfl⟩
instance : GoF Try.prog 92 := ⟨by kernel_rfl⟩
instance : GoF Try.prog 93 := ⟨by kernel_rfl⟩
instance : GoF Try.prog 94 := ⟨by kernel_rfl⟩
instance : GoF Try.prog 95 := ⟨by kernel_rfl⟩
instance : GoF Try.prog 96 := ⟨by kernel_rfl⟩
instance : GoF Try.prog 97 := ⟨by kernel_rfl⟩
instance : GoF Try.prog 98 := ⟨by kernel_rfl⟩
instance : GoF Try.prog 99 := ⟨by kernel_rfl⟩
instance : GoF Try.prog 100 := ⟨by kernel_rfl⟩
instance : GoF Try.prog 101 := ⟨by kernel_rfl⟩
instance : GoF Try.prog 102 := ⟨by kernel_rfl⟩
instance : GoF Try.prog 103 := ⟨by kernel_rfl⟩
instance : GoF Try.prog 104 := ⟨by kernel_rfl⟩
instance : GoF Try.prog 105 := ⟨by kernel_rfl⟩
instance : GoF Try.prog 106 := ⟨by kernel_rfl⟩
instance : GoF Try.prog 107 := ⟨by kernel_rfl⟩
instance : GoF Try.prog 108 := ⟨by kernel_rfl⟩
instance : GoF Try.prog 109 := ⟨by kernel_rfl⟩
instance : GoF Try.prog 110 := ⟨by kernel_rfl⟩
instance : GoF Try.prog 111 := ⟨by kernel_rfl⟩
instance : GoF Try.prog 112 := ⟨by kernel_rfl⟩
instance : GoF Try.prog 113 := ⟨by kernel_rfl⟩
instance : GoF Try.prog 114 := ⟨by kernel_rfl⟩
instance : GoF Try.prog 115 := ⟨by kernel_rfl⟩
instance : GoF Try.prog 116 := ⟨by kernel_rfl⟩
instance : GoF Try.prog 117 := ⟨by kernel_rfl⟩
instance : GoF Try.prog 118 := ⟨by kernel_rfl⟩
instance : GoF Try.prog 119 := ⟨by kernel_rfl⟩
instance : GoF Try.prog 122 := ⟨by kernel_rfl⟩
instance : GoF Try.prog 123 := ⟨by kernel_rfl⟩
instance : GoF Try.prog 124 := ⟨by kernel_rfl⟩
instance : GoF Try.prog 125 := ⟨by kernel_rfl⟩
instance : GoF Try.prog 126 := ⟨by kernel_rfl⟩
instance : GoF Try.prog 127 := ⟨by kernel_rfl⟩
instance : GoF Try.prog 128 := ⟨by kernel_rfl⟩
instance : GoF Try.prog 129 := ⟨by kernel_rfl⟩
instance : GoF Try.prog 130 := ⟨by kernel_rfl⟩
instance : GoF Try.prog 131 := ⟨by kernel_rfl⟩
instance : GoF Try.prog 132 := ⟨by kernel_rfl⟩
instance : GoF Try.prog 133 := ⟨by kernel_rfl⟩
instance : GoF Try.prog 134 := ⟨by kernel_rfl⟩
instance : GoF Try.prog 135 := ⟨by kernel_rfl⟩
instance : GoF Try.prog 136 := ⟨by kernel_rfl⟩
instance : GoF Try.prog 138 := ⟨by kernel_rfl⟩
instance : GoF Try.prog 139 := ⟨by kernel_rfl⟩
instance : GoF Try.prog 140 := ⟨by kernel_rfl⟩
instance : GoF Try.prog 141 := ⟨by kernel_rfl⟩
instance : GoF Try.prog 143 := ⟨by kernel_rfl⟩
instance : GoF Try.prog 144 := ⟨by kernel_rfl⟩
instance : GoF Try.prog 145 := ⟨by kernel_rfl⟩
instance : GoF Try.prog 146 := ⟨by kernel_rfl⟩
instance : GoF Try.prog 148 := ⟨by kernel_rfl⟩
instance : GoF Try.prog 149 := ⟨by kernel_rfl⟩

end Go.Proofs.Ytkfggilildiflab

namespace Go.Proofs.Ytkfggilildiflab
open Go.ChangeShapes Go.WideShapes Go.ChangeAt Go.RowKit
attribute [local irreducible] wpList wpListIn
set_option maxRecDepth 100000 in
set_option maxHeartbeats 1000000 in
theorem clone_any (v : Value) (l : List UInt8) (hne : l ≠ []) (hm : l.length ≤ 1000000000) (w : World) (hv : BytesAt w v l) :
    Calls Try.prog 85 #[v] w fun e w' => ∃ g c sp, e = .returned (.slice (some ⟨g, 0, none⟩) l.length c) ∧ (l.length ≤ c ∧ c ≤ maxLen) ∧ w.heap.size ≤ g ∧ blk w' g = some (.cells (l.map bv ++ sp).toArray 5 (0, 0)) ∧ Below w.heap.size w w' := by
  obtain ⟨p, c, rfl, hc, hp0, hcell⟩ := id hv
  obtain ⟨tb, ti, cs, ty, fr, rfl, htb, hx⟩ := hcell hne
  have hS := St.start w
  go_enter Try.func85, Try.ntmps85
  repeat' (first | ((with_reducible refine cons_list ?_); first | ((first | refine g_skip stp_list ?_ | refine g_move stp_list ?_ | refine g_assign stp_list ?_ | refine g_load1 stp_list own_st hS ?_ | refine g_loadR stp_list own_st hS ?_ | refine g_indexAddr stp_list ?_ | refine g_indexAddrA stp_list ?_ | refine g_len stp_list ?_ | refine g_cap stp_list ?_ | refine g_extract stp_list ?_ | refine g_add stp_list ?_ | refine g_sub stp_list ?_ | refine g_mul stp_list ?_ | refine g_quo stp_list ?_ | refine g_rem stp_list ?_ | refine g_cmp_t stp_list ?_ | refine g_cmp_f stp_list ?_ | refine g_cmp stp_list (fun hc => ?_) (fun hc => ?_) | refine g_neqNil stp_list ?_ | refine g_neqNil0 stp_list ?_ | refine g_eqlNil stp_list ?_ | refine g_eqlNil0 stp_list ?_ | refine g_fieldAddr stp_list ?_ | refine g_field1 stp_list ?_ | refine g_fieldR stp_list ?_ | refine g_eqlSlNil stp_list ?_ | refine g_neqSlNil stp_list ?_ | refine g_makeInterface stp_list ?_ | refine g_makeFunc stp_list ?_ | refine g_conv stp_list ?_ | refine g_pick stp_list ?_ | refine g_not stp_list ?_ | refine g_slice stp_list ?_ | refine g_sliceA stp_list ?_ | refine g_sliceNil stp_list ?_) <;> refine put_in ?_) | ((first | refine g_alloc stp_list own_st hS ?_ | refine g_box stp_list own_st hS ?_ | refine g_build0 stp_list own_st hS ?_ | refine g_build stp_list own_st hS ?_ | refine g_make stp_list own_st hS ?_); clear hS; intro b w hS; refine put_in ?_) | ((first | refine g_store1 stp_list own_st hS ?_ | refine g_storeR stp_list own_st hS ?_); clear hS; intro w hS; refine put_in ?_)) | ((fail_if_success (with_reducible refine cons_list ?_)); first | go_step | go_step3 | rw [Exit.noGoto_normal] | rw [Exit.noGoto_ret] | rw [Exit.noGoto_exit]))
  refine s_append stp_list own_st hS (by rfl) (by rfl) (by rfl) (by rfl) (by infer_instance) (by exact at_ 0 rfl) (olds := []) (spare := []) (by rfl) (by rfl) (by omega) (by rfl) (hv.below hS.below).srcs (by rw [List.length_map, Nat.mul_one]) (bv_one l) (by unfold maxLen; omega) (by (try conv => lhs; simp only [Int.toNat_natCast, Int.toNat_zero, Int.toNat_one, Int.reduceToNat, Int.toNat_natCast_add_one, Int.ofNat_eq_natCast, Nat.mul_one, Nat.one_mul, Nat.zero_add, Nat.add_zero, Nat.sub_zero, Nat.zero_mul, Nat.reduceAdd, Nat.reduceMul, Nat.reduceSub]); first | done | rfl) ?_
  clear hS
  intro b' c' sp w' h1 h2 h3 hS
  refine put_in ?_
  repeat' (first | ((with_reducible refine cons_list ?_); first | ((first | refine g_skip stp_list ?_ | refine g_move stp_list ?_ | refine g_assign stp_list ?_ | refine g_load1 stp_list own_st hS ?_ | refine g_loadR stp_list own_st hS ?_ | refine g_indexAddr stp_list ?_ | refine g_indexAddrA stp_list ?_ | refine g_len stp_list ?_ | refine g_cap stp_list ?_ | refine g_extract stp_list ?_ | refine g_add stp_list ?_ | refine g_sub stp_list ?_ | refine g_mul stp_list ?_ | refine g_quo stp_list ?_ | refine g_rem stp_list ?_ | refine g_cmp_t stp_list ?_ | refine g_cmp_f stp_list ?_ | refine g_cmp stp_list (fun hc => ?_) (fun hc => ?_) | refine g_neqNil stp_list ?_ | refine g_neqNil0 stp_list ?_ | refine g_eqlNil stp_list ?_ | refine g_eqlNil0 stp_list ?_ | refine g_fieldAddr stp_list ?_ | refine g_field1 stp_list ?_ | refine g_fieldR stp_list ?_ | refine g_eqlSlNil stp_list ?_ | refine g_neqSlNil stp_list ?_ | refine g_makeInterface stp_list ?_ | refine g_makeFunc stp_list ?_ | refine g_conv stp_list ?_ | refine g_pick stp_list ?_ | refine g_not stp_list ?_ | refine g_slice stp_list ?_ | refine g_sliceA stp_list ?_ | refine g_sliceNil stp_list ?_) <;> refine put_in ?_) | ((first | refine g_alloc stp_list own_st hS ?_ | refine g_box stp_list own_st hS ?_ | refine g_build0 stp_list own_st hS ?_ | refine g_build stp_list own_st hS ?_ | refine g_make stp_list own_st hS ?_); clear hS; intro b w hS; refine put_in ?_) | ((first | refine g_store1 stp_list own_st hS ?_ | refine g_storeR stp_list own_st hS ?_); clear hS; intro w hS; refine put_in ?_)) | ((fail_if_success (with_reducible refine cons_list ?_)); first | go_step | go_step3 | rw [Exit.noGoto_normal] | rw [Exit.noGoto_ret] | rw [Exit.noGoto_exit]))
  go_ret
  exact ⟨b', c', sp, rfl, ⟨by omega, h2⟩, (hS.2.1 _ (List.mem_cons_self ..)).1, hS.blk 0 rfl, hS.below⟩
set_option maxRecDepth 100000 in
set_option maxHeartbeats 1000000 in
theorem grow_none (n : Nat) (hn : 0 < n) (hm : n ≤ 1000000000) (w : World) :
    Calls Try.prog 82 #[.slice none 0 0, .int .i64 (n : Int)] w fun e w' => ∃ g c, e = .returned (.slice (some ⟨g, 0, none⟩) 0 c) ∧ n ≤ c ∧ c ≤ maxLen ∧ w.heap.size ≤ g ∧ blk w' g = some (.cells (bvs (zs c)) 5 (0, 0)) ∧ Below w.heap.size w w' := by
  have hS := St.start w
  go_enter Try.func82, Try.ntmps82
  repeat' (first | ((with_reducible refine cons_list ?_); first | ((first | refine g_skip stp_list ?_ | refine g_move stp_list ?_ | refine g_assign stp_list ?_ | refine g_load1 stp_list own_st hS ?_ | refine g_loadR stp_list own_st hS ?_ | refine g_indexAddr stp_list ?_ | refine g_indexAddrA stp_list ?_ | refine g_len stp_list ?_ | refine g_cap stp_list ?_ | refine g_extract stp_list ?_ | refine g_add stp_list ?_ | refine g_sub stp_list ?_ | refine g_mul stp_list ?_ | refine g_quo stp_list ?_ | refine g_rem stp_list ?_ | refine g_cmp_t stp_list ?_ | refine g_cmp_f stp_list ?_ | refine g_cmp stp_list (fun hc => ?_) (fun hc => ?_) | refine g_neqNil stp_list ?_ | refine g_neqNil0 stp_list ?_ | refine g_eqlNil stp_list ?_ | refine g_eqlNil0 stp_list ?_ | refine g_fieldAddr stp_list ?_ | refine g_field1 stp_list ?_ | refine g_fieldR stp_list ?_ | refine g_eqlSlNil stp_list ?_ | refine g_neqSlNil stp_list ?_ | refine g_makeInterface stp_list ?_ | refine g_makeFunc stp_list ?_ | refine g_conv stp_list ?_ | refine g_pick stp_list ?_ | refine g_not stp_list ?_ | refine g_slice stp_list ?_ | refine g_sliceA stp_list ?_ | refine g_sliceNil stp_list ?_) <;> refine put_in ?_) | ((first | refine g_alloc stp_list own_st hS ?_ | refine g_box stp_list own_st hS ?_ | refine g_build0 stp_list own_st hS ?_ | refine g_build stp_list own_st hS ?_ | refine g_make stp_list own_st hS ?_); clear hS; intro b w hS; refine put_in ?_) | ((first | refine g_store1 stp_list own_st hS ?_ | refine g_storeR stp_list own_st hS ?_); clear hS; intro w hS; refine put_in ?_)) | ((fail_if_success (with_reducible refine cons_list ?_)); first | go_step | go_step3 | rw [Exit.noGoto_normal] | rw [Exit.noGoto_ret] | rw [Exit.noGoto_exit]))
  refine s_appendZ stp_list own_st hS (by rfl) (by rfl) (by rfl) (by rfl) (by infer_instance) (by infer_instance) (by exact Try.underlying3) ⟨hn, hm⟩ ?_
  clear hS
  intro b' c' w' h1 h2 hS
  refine put_in ?_
  repeat' (first | ((with_reducible refine cons_list ?_); first | ((first | refine g_skip stp_list ?_ | refine g_move stp_list ?_ | refine g_assign stp_list ?_ | refine g_load1 stp_list own_st hS ?_ | refine g_loadR stp_list own_st hS ?_ | refine g_indexAddr stp_list ?_ | refine g_indexAddrA stp_list ?_ | refine g_len stp_list ?_ | refine g_cap stp_list ?_ | refine g_extract stp_list ?_ | refine g_add stp_list ?_ | refine g_sub stp_list ?_ | refine g_mul stp_list ?_ | refine g_quo stp_list ?_ | refine g_rem stp_list ?_ | refine g_cmp_t stp_list ?_ | refine g_cmp_f stp_list ?_ | refine g_cmp stp_list (fun hc => ?_) (fun hc => ?_) | refine g_neqNil stp_list ?_ | refine g_neqNil0 stp_list ?_ | refine g_eqlNil stp_list ?_ | refine g_eqlNil0 stp_list ?_ | refine g_fieldAddr stp_list ?_ | refine g_field1 stp_list ?_ | refine g_fieldR stp_list ?_ | refine g_eqlSlNil stp_list ?_ | refine g_neqSlNil stp_list ?_ | refine g_makeInterface stp_list ?_ | refine g_makeFunc stp_list ?_ | refine g_conv stp_list ?_ | refine g_pick stp_list ?_ | refine g_not stp_list ?_ | refine g_slice stp_list ?_ | refine g_sliceA stp_list ?_ | refine g_sliceNil stp_list ?_) <;> refine put_in ?_) | ((first | refine g_alloc stp_list own_st hS ?_ | refine g_box stp_list own_st hS ?_ | refine g_build0 stp_list own_st hS ?_ | refine g_build stp_list own_st hS ?_ | refine g_make stp_list own_st hS ?_); clear hS; intro b w hS; refine put_in ?_) | ((first | refine g_store1 stp_list own_st hS ?_ | refine g_storeR stp_list own_st hS ?_); clear hS; intro w hS; refine put_in ?_)) | ((fail_if_success (with_reducible refine cons_list ?_)); first | go_step | go_step3 | rw [Exit.noGoto_normal] | rw [Exit.noGoto_ret] | rw [Exit.noGoto_exit]))
  go_ret
  exact ⟨b', c', rfl, h1, h2, (hS.2.1 _ (List.mem_cons_self ..)).1, hS.blk 0 rfl, hS.below⟩
set_option maxRecDepth 100000 in
set_option maxHeartbeats 2000000 in
theorem concat_x (v1 v2 : Value) (l1 l2 : List UInt8) (hne1 : l1 ≠ []) (hne2 : l2 ≠ []) (hm : l1.length + l2.length ≤ 1000000000) (bb : Nat) (fr : Nat × Nat) (w : World) (hv1 : BytesAt w v1 l1) (hv2 : BytesAt w v2 l2) (hbb : blk w bb = some (.cells #[v1, v2] 22 fr)) :
    Calls Try.prog 61 #[.slice (some ⟨bb, 0, none⟩) 2 2] w fun e w' => ∃ g c sp, e = .returned (.slice (some ⟨g, 0, none⟩) (l1.length + l2.length) c) ∧ (l1.length + l2.length ≤ c ∧ c ≤ maxLen ∧ sp.length = c - (l1.length + l2.length)) ∧ w.heap.size ≤ g ∧ blk w' g = some (.cells ((l1 ++ l2).map bv ++ sp).toArray 5 (0, 0)) ∧ Below w.heap.size w w' := by
  obtain ⟨p1, c1, rfl, hc1, hp1, hcell1⟩ := id hv1
  obtain ⟨tb1, ti1, cs1, ty1, fr1, rfl, htb1, hx1⟩ := hcell1 hne1
  obtain ⟨p2, c2, rfl, hc2, hp2, hcell2⟩ := id hv2
  obtain ⟨tb2, ti2, cs2, ty2, fr2, rfl, htb2, hx2⟩ := hcell2 hne2
  have n1 := List.length_pos_iff.2 hne1
  have n2 := List.length_pos_iff.2 hne2
  have hS := St.start w
  go_enter Try.func61, Try.ntmps61
  repeat' (first | ((with_reducible refine cons_list ?_); first | ((first | refine g_skip stp_list ?_ | refine g_move stp_list ?_ | refine g_assign stp_list ?_ | refine g_load1 stp_list own_st hS ?_ | refine g_load1F stp_list (by first | exact ((hS).far hbb).1) ?_ | refine g_loadR stp_list own_st hS ?_ | refine g_loadRF stp_list (by first | exact ((hS).far hbb).1) ?_ | refine g_indexAddr stp_list ?_ | refine g_indexAddrA stp_list ?_ | refine g_len stp_list ?_ | refine g_cap stp_list ?_ | refine g_extract stp_list ?_ | refine g_add stp_list ?_ | refine g_sub stp_list ?_ | refine g_mul stp_list ?_ | refine g_quo stp_list ?_ | refine g_rem stp_list ?_ | refine g_cmp_t stp_list ?_ | refine g_cmp_f stp_list ?_ | refine g_cmp stp_list (fun hc => ?_) (fun hc => ?_) | refine g_neqNil stp_list ?_ | refine g_neqNil0 stp_list ?_ | refine g_eqlNil stp_list ?_ | refine g_eqlNil0 stp_list ?_ | refine g_fieldAddr stp_list ?_ | refine g_field1 stp_list ?_ | refine g_fieldR stp_list ?_ | refine g_eqlSlNil stp_list ?_ | refine g_neqSlNil stp_list ?_ | refine g_makeInterface stp_list ?_ | refine g_makeFunc stp_list ?_ | refine g_conv stp_list ?_ | refine g_pick stp_list ?_ | refine g_not stp_list ?_ | refine g_slice stp_list ?_ | refine g_sliceA stp_list ?_ | refine g_sliceNil stp_list ?_) <;> refine put_in ?_) | ((first | refine g_alloc stp_list own_st hS ?_ | refine g_box stp_list own_st hS ?_ | refine g_build0 stp_list own_st hS ?_ | refine g_build stp_list own_st hS ?_ | refine g_make stp_list own_st hS ?_); clear hS; intro b w hS; refine put_in ?_) | ((first | refine g_store1 stp_list own_st hS ?_ | refine g_storeR stp_list own_st hS ?_); clear hS; intro w hS; refine put_in ?_)) | ((fail_if_success (with_reducible refine cons_list ?_)); first | go_step | go_step3 | rw [Exit.noGoto_normal] | rw [Exit.noGoto_ret] | rw [Exit.noGoto_exit]))
  refine wp_loop_rounds 3 ?_
  rw [rounds_succ]
  repeat' (first | ((with_reducible refine cons_list ?_); first | ((first | refine g_skip stp_list ?_ | refine g_move stp_list ?_ | refine g_assign stp_list ?_ | refine g_load1 stp_list own_st hS ?_ | refine g_load1F stp_list (by first | exact ((hS).far hbb).1) ?_ | refine g_loadR stp_list own_st hS ?_ | refine g_loadRF stp_list (by first | exact ((hS).far hbb).1) ?_ | refine g_indexAddr stp_list ?_ | refine g_indexAddrA stp_list ?_ | refine g_len stp_list ?_ | refine g_cap stp_list ?_ | refine g_extract stp_list ?_ | refine g_add stp_list ?_ | refine g_sub stp_list ?_ | refine g_mul stp_list ?_ | refine g_quo stp_list ?_ | refine g_rem stp_list ?_ | refine g_cmp_t stp_list ?_ | refine g_cmp_f stp_list ?_ | refine g_cmp stp_list (fun hc => ?_) (fun hc => ?_) | refine g_neqNil stp_list ?_ | refine g_neqNil0 stp_list ?_ | refine g_eqlNil stp_list ?_ | refine g_eqlNil0 stp_list ?_ | refine g_fieldAddr stp_list ?_ | refine g_field1 stp_list ?_ | refine g_fieldR stp_list ?_ | refine g_eqlSlNil stp_list ?_ | refine g_neqSlNil stp_list ?_ | refine g_makeInterface stp_list ?_ | refine g_makeFunc stp_list ?_ | refine g_conv stp_list ?_ | refine g_pick stp_list ?_ | refine g_not stp_list ?_ | refine g_slice stp_list ?_ | refine g_sliceA stp_list ?_ | refine g_sliceNil stp_list ?_) <;> refine put_in ?_) | ((first | refine g_alloc stp_list own_st hS ?_ | refine g_box stp_list own_st hS ?_ | refine g_build0 stp_list own_st hS ?_ | refine g_build stp_list own_st hS ?_ | refine g_make stp_list own_st hS ?_); clear hS; intro b w hS; refine put_in ?_) | ((first | refine g_store1 stp_list own_st hS ?_ | refine g_storeR stp_list own_st hS ?_); clear hS; intro w hS; refine put_in ?_)) | ((fail_if_success (with_reducible refine cons_list ?_)); first | go_step | go_step3 | rw [Exit.noGoto_normal] | rw [Exit.noGoto_ret] | rw [Exit.noGoto_exit]))
  rw [rounds_succ]
  repeat' (first | ((with_reducible refine cons_list ?_); first | ((first | refine g_skip stp_list ?_ | refine g_move stp_list ?_ | refine g_assign stp_list ?_ | refine g_load1 stp_list own_st hS ?_ | refine g_load1F stp_list (by first | exact ((hS).far hbb).1) ?_ | refine g_loadR stp_list own_st hS ?_ | refine g_loadRF stp_list (by first | exact ((hS).far hbb).1) ?_ | refine g_indexAddr stp_list ?_ | refine g_indexAddrA stp_list ?_ | refine g_len stp_list ?_ | refine g_cap stp_list ?_ | refine g_extract stp_list ?_ | refine g_add stp_list ?_ | refine g_sub stp_list ?_ | refine g_mul stp_list ?_ | refine g_quo stp_list ?_ | refine g_rem stp_list ?_ | refine g_cmp_t stp_list ?_ | refine g_cmp_f stp_list ?_ | refine g_cmp stp_list (fun hc => ?_) (fun hc => ?_) | refine g_neqNil stp_list ?_ | refine g_neqNil0 stp_list ?_ | refine g_eqlNil stp_list ?_ | refine g_eqlNil0 stp_list ?_ | refine g_fieldAddr stp_list ?_ | refine g_field1 stp_list ?_ | refine g_fieldR stp_list ?_ | refine g_eqlSlNil stp_list ?_ | refine g_neqSlNil stp_list ?_ | refine g_makeInterface stp_list ?_ | refine g_makeFunc stp_list ?_ | refine g_conv stp_list ?_ | refine g_pick stp_list ?_ | refine g_not stp_list ?_ | refine g_slice stp_list ?_ | refine g_sliceA stp_list ?_ | refine g_sliceNil stp_list ?_) <;> refine put_in ?_) | ((first | refine g_alloc stp_list own_st hS ?_ | refine g_box stp_list own_st hS ?_ | refine g_build0 stp_list own_st hS ?_ | refine g_build stp_list own_st hS ?_ | refine g_make stp_list own_st hS ?_); clear hS; intro b w hS; refine put_in ?_) | ((first | refine g_store1 stp_list own_st hS ?_ | refine g_storeR stp_list own_st hS ?_); clear hS; intro w hS; refine put_in ?_)) | ((fail_if_success (with_reducible refine cons_list ?_)); first | go_step | go_step3 | rw [Exit.noGoto_normal] | rw [Exit.noGoto_ret] | rw [Exit.noGoto_exit]))
  rw [rounds_succ]
  repeat' (first | ((with_reducible refine cons_list ?_); first | ((first | refine g_skip stp_list ?_ | refine g_move stp_list ?_ | refine g_assign stp_list ?_ | refine g_load1 stp_list own_st hS ?_ | refine g_load1F stp_list (by first | exact ((hS).far hbb).1) ?_ | refine g_loadR stp_list own_st hS ?_ | refine g_loadRF stp_list (by first | exact ((hS).far hbb).1) ?_ | refine g_indexAddr stp_list ?_ | refine g_indexAddrA stp_list ?_ | refine g_len stp_list ?_ | refine g_cap stp_list ?_ | refine g_extract stp_list ?_ | refine g_add stp_list ?_ | refine g_sub stp_list ?_ | refine g_mul stp_list ?_ | refine g_quo stp_list ?_ | refine g_rem stp_list ?_ | refine g_cmp_t stp_list ?_ | refine g_cmp_f stp_list ?_ | refine g_cmp stp_list (fun hc => ?_) (fun hc => ?_) | refine g_neqNil stp_list ?_ | refine g_neqNil0 stp_list ?_ | refine g_eqlNil stp_list ?_ | refine g_eqlNil0 stp_list ?_ | refine g_fieldAddr stp_list ?_ | refine g_field1 stp_list ?_ | refine g_fieldR stp_list ?_ | refine g_eqlSlNil stp_list ?_ | refine g_neqSlNil stp_list ?_ | refine g_makeInterface stp_list ?_ | refine g_makeFunc stp_list ?_ | refine g_conv stp_list ?_ | refine g_pick stp_list ?_ | refine g_not stp_list ?_ | refine g_slice stp_list ?_ | refine g_sliceA stp_list ?_ | refine g_sliceNil stp_list ?_) <;> refine put_in ?_) | ((first | refine g_alloc stp_list own_st hS ?_ | refine g_box stp_list own_st hS ?_ | refine g_build0 stp_list own_st hS ?_ | refine g_build stp_list own_st hS ?_ | refine g_make stp_list own_st hS ?_); clear hS; intro b w hS; refine put_in ?_) | ((first | refine g_store1 stp_list own_st hS ?_ | refine g_storeR stp_list own_st hS ?_); clear hS; intro w hS; refine put_in ?_)) | ((fail_if_success (with_reducible refine cons_list ?_)); first | go_step | go_step3 | rw [Exit.noGoto_normal] | rw [Exit.noGoto_ret] | rw [Exit.noGoto_exit]))
  refine s_call stp_list (by rfl) (by rfl) (by rfl) (by rfl) (by rfl) (by infer_instance) (grow_none (l1.length + l2.length) (by omega) hm _) ?_
  rintro e w' ⟨g, c, rfl, hg1, hg2, hg, hgb, hgB⟩
  refine ⟨_, rfl, ?_⟩
  refine put_in ?_
  replace hS := own_st.new hS hgB hg hgb
  repeat' (first | ((with_reducible refine cons_list ?_); first | ((first | refine g_skip stp_list ?_ | refine g_move stp_list ?_ | refine g_assign stp_list ?_ | refine g_load1 stp_list own_st hS ?_ | refine g_load1F stp_list (by first | exact ((hS).far hbb).1) ?_ | refine g_loadR stp_list own_st hS ?_ | refine g_loadRF stp_list (by first | exact ((hS).far hbb).1) ?_ | refine g_indexAddr stp_list ?_ | refine g_indexAddrA stp_list ?_ | refine g_len stp_list ?_ | refine g_cap stp_list ?_ | refine g_extract stp_list ?_ | refine g_add stp_list ?_ | refine g_sub stp_list ?_ | refine g_mul stp_list ?_ | refine g_quo stp_list ?_ | refine g_rem stp_list ?_ | refine g_cmp_t stp_list ?_ | refine g_cmp_f stp_list ?_ | refine g_cmp stp_list (fun hc => ?_) (fun hc => ?_) | refine g_neqNil stp_list ?_ | refine g_neqNil0 stp_list ?_ | refine g_eqlNil stp_list ?_ | refine g_eqlNil0 stp_list ?_ | refine g_fieldAddr stp_list ?_ | refine g_field1 stp_list ?_ | refine g_fieldR stp_list ?_ | refine g_eqlSlNil stp_list ?_ | refine g_neqSlNil stp_list ?_ | refine g_makeInterface stp_list ?_ | refine g_makeFunc stp_list ?_ | refine g_conv stp_list ?_ | refine g_pick stp_list ?_ | refine g_not stp_list ?_ | refine g_slice stp_list ?_ | refine g_sliceA stp_list ?_ | refine g_sliceNil stp_list ?_) <;> refine put_in ?_) | ((first | refine g_alloc stp_list own_st hS ?_ | refine g_box stp_list own_st hS ?_ | refine g_build0 stp_list own_st hS ?_ | refine g_build stp_list own_st hS ?_ | refine g_make stp_list own_st hS ?_); clear hS; intro b w hS; refine put_in ?_) | ((first | refine g_store1 stp_list own_st hS ?_ | refine g_storeR stp_list own_st hS ?_); clear hS; intro w hS; refine put_in ?_)) | ((fail_if_success (with_reducible refine cons_list ?_)); first | go_step | go_step3 | rw [Exit.noGoto_normal] | rw [Exit.noGoto_ret] | rw [Exit.noGoto_exit]))
  refine wp_loop_rounds 3 ?_
  rw [rounds_succ]
  repeat' (first | ((with_reducible refine cons_list ?_); first | ((first | refine g_skip stp_list ?_ | refine g_move stp_list ?_ | refine g_assign stp_list ?_ | refine g_load1 stp_list own_st hS ?_ | refine g_load1F stp_list (by first | exact ((hS).far hbb).1) ?_ | refine g_loadR stp_list own_st hS ?_ | refine g_loadRF stp_list (by first | exact ((hS).far hbb).1) ?_ | refine g_indexAddr stp_list ?_ | refine g_indexAddrA stp_list ?_ | refine g_len stp_list ?_ | refine g_cap stp_list ?_ | refine g_extract stp_list ?_ | refine g_add stp_list ?_ | refine g_sub stp_list ?_ | refine g_mul stp_list ?_ | refine g_quo stp_list ?_ | refine g_rem stp_list ?_ | refine g_cmp_t stp_list ?_ | refine g_cmp_f stp_list ?_ | refine g_cmp stp_list (fun hc => ?_) (fun hc => ?_) | refine g_neqNil stp_list ?_ | refine g_neqNil0 stp_list ?_ | refine g_eqlNil stp_list ?_ | refine g_eqlNil0 stp_list ?_ | refine g_fieldAddr stp_list ?_ | refine g_field1 stp_list ?_ | refine g_fieldR stp_list ?_ | refine g_eqlSlNil stp_list ?_ | refine g_neqSlNil stp_list ?_ | refine g_makeInterface stp_list ?_ | refine g_makeFunc stp_list ?_ | refine g_conv stp_list ?_ | refine g_pick stp_list ?_ | refine g_not stp_list ?_ | refine g_slice stp_list ?_ | refine g_sliceA stp_list ?_ | refine g_sliceNil stp_list ?_) <;> refine put_in ?_) | ((first | refine g_alloc stp_list own_st hS ?_ | refine g_box stp_list own_st hS ?_ | refine g_build0 stp_list own_st hS ?_ | refine g_build stp_list own_st hS ?_ | refine g_make stp_list own_st hS ?_); clear hS; intro b w hS; refine put_in ?_) | ((first | refine g_store1 stp_list own_st hS ?_ | refine g_storeR stp_list own_st hS ?_); clear hS; intro w hS; refine put_in ?_)) | ((fail_if_success (with_reducible refine cons_list ?_)); first | go_step | go_step3 | rw [Exit.noGoto_normal] | rw [Exit.noGoto_ret] | rw [Exit.noGoto_exit]))
  refine s_append stp_list own_st hS (by rfl) (by rfl) (by rfl) (by rfl) (by infer_instance) (by exact at_ 0 rfl) (olds := []) (spare := (zs c).map bv) (by rfl) (by rfl) (by omega) (by rw [List.length_map, zs_len, Nat.mul_one, Nat.sub_zero]) (hv1.below hS.below).srcs (by rw [List.length_map, Nat.mul_one]) (bv_one l1) (by unfold maxLen at hg2 ⊢; omega) (by (try conv => lhs; simp only [Int.toNat_natCast, Int.toNat_zero, Int.toNat_one, Int.reduceToNat, Int.toNat_natCast_add_one, Int.ofNat_eq_natCast, Nat.mul_one, Nat.one_mul, Nat.zero_add, Nat.add_zero, Nat.sub_zero, Nat.zero_mul, Nat.reduceAdd, Nat.reduceMul, Nat.reduceSub]); first | done | rfl) ?_
  clear hS
  intro b1 d1 sp1 w1 h1 h2 h3 hS
  refine put_in ?_
  repeat' (first | ((with_reducible refine cons_list ?_); first | ((first | refine g_skip stp_list ?_ | refine g_move stp_list ?_ | refine g_assign stp_list ?_ | refine g_load1 stp_list own_st hS ?_ | refine g_load1F stp_list (by first | exact ((hS).far hbb).1) ?_ | refine g_loadR stp_list own_st hS ?_ | refine g_loadRF stp_list (by first | exact ((hS).far hbb).1) ?_ | refine g_indexAddr stp_list ?_ | refine g_indexAddrA stp_list ?_ | refine g_len stp_list ?_ | refine g_cap stp_list ?_ | refine g_extract stp_list ?_ | refine g_add stp_list ?_ | refine g_sub stp_list ?_ | refine g_mul stp_list ?_ | refine g_quo stp_list ?_ | refine g_rem stp_list ?_ | refine g_cmp_t stp_list ?_ | refine g_cmp_f stp_list ?_ | refine g_cmp stp_list (fun hc => ?_) (fun hc => ?_) | refine g_neqNil stp_list ?_ | refine g_neqNil0 stp_list ?_ | refine g_eqlNil stp_list ?_ | refine g_eqlNil0 stp_list ?_ | refine g_fieldAddr stp_list ?_ | refine g_field1 stp_list ?_ | refine g_fieldR stp_list ?_ | refine g_eqlSlNil stp_list ?_ | refine g_neqSlNil stp_list ?_ | refine g_makeInterface stp_list ?_ | refine g_makeFunc stp_list ?_ | refine g_conv stp_list ?_ | refine g_pick stp_list ?_ | refine g_not stp_list ?_ | refine g_slice stp_list ?_ | refine g_sliceA stp_list ?_ | refine g_sliceNil stp_list ?_) <;> refine put_in ?_) | ((first | refine g_alloc stp_list own_st hS ?_ | refine g_box stp_list own_st hS ?_ | refine g_build0 stp_list own_st hS ?_ | refine g_build stp_list own_st hS ?_ | refine g_make stp_list own_st hS ?_); clear hS; intro b w hS; refine put_in ?_) | ((first | refine g_store1 stp_list own_st hS ?_ | refine g_storeR stp_list own_st hS ?_); clear hS; intro w hS; refine put_in ?_)) | ((fail_if_success (with_reducible refine cons_list ?_)); first | go_step | go_step3 | rw [Exit.noGoto_normal] | rw [Exit.noGoto_ret] | rw [Exit.noGoto_exit]))
  rw [rounds_succ]
  repeat' (first | ((with_reducible refine cons_list ?_); first | ((first | refine g_skip stp_list ?_ | refine g_move stp_list ?_ | refine g_assign stp_list ?_ | refine g_load1 stp_list own_st hS ?_ | refine g_load1F stp_list (by first | exact ((hS).far hbb).1) ?_ | refine g_loadR stp_list own_st hS ?_ | refine g_loadRF stp_list (by first | exact ((hS).far hbb).1) ?_ | refine g_indexAddr stp_list ?_ | refine g_indexAddrA stp_list ?_ | refine g_len stp_list ?_ | refine g_cap stp_list ?_ | refine g_extract stp_list ?_ | refine g_add stp_list ?_ | refine g_sub stp_list ?_ | refine g_mul stp_list ?_ | refine g_quo stp_list ?_ | refine g_rem stp_list ?_ | refine g_cmp_t stp_list ?_ | refine g_cmp_f stp_list ?_ | refine g_cmp stp_list (fun hc => ?_) (fun hc => ?_) | refine g_neqNil stp_list ?_ | refine g_neqNil0 stp_list ?_ | refine g_eqlNil stp_list ?_ | refine g_eqlNil0 stp_list ?_ | refine g_fieldAddr stp_list ?_ | refine g_field1 stp_list ?_ | refine g_fieldR stp_list ?_ | refine g_eqlSlNil stp_list ?_ | refine g_neqSlNil stp_list ?_ | refine g_makeInterface stp_list ?_ | refine g_makeFunc stp_list ?_ | refine g_conv stp_list ?_ | refine g_pick stp_list ?_ | refine g_not stp_list ?_ | refine g_slice stp_list ?_ | refine g_sliceA stp_list ?_ | refine g_sliceNil stp_list ?_) <;> refine put_in ?_) | ((first | refine g_alloc stp_list own_st hS ?_ | refine g_box stp_list own_st hS ?_ | refine g_build0 stp_list own_st hS ?_ | refine g_build stp_list own_st hS ?_ | refine g_make stp_list own_st hS ?_); clear hS; intro b w hS; refine put_in ?_) | ((first | refine g_store1 stp_list own_st hS ?_ | refine g_storeR stp_list own_st hS ?_); clear hS; intro w hS; refine put_in ?_)) | ((fail_if_success (with_reducible refine cons_list ?_)); first | go_step | go_step3 | rw [Exit.noGoto_normal] | rw [Exit.noGoto_ret] | rw [Exit.noGoto_exit]))
  refine s_append stp_list own_st hS (by rfl) (by rfl) (by rfl) (by rfl) (by infer_instance) (by exact at_ 0 rfl) (olds := l1.map bv) (spare := sp1) (by rfl) (by rw [List.length_map]; omega) (by omega) (by rw [h3]) (hv2.below hS.below).srcs (by rw [List.length_map, Nat.mul_one]) (bv_one l2) (by unfold maxLen at h2 ⊢; omega) (by (try conv => lhs; simp only [Int.toNat_natCast, Int.toNat_zero, Int.toNat_one, Int.reduceToNat, Int.toNat_natCast_add_one, Int.ofNat_eq_natCast, Nat.mul_one, Nat.one_mul, Nat.zero_add, Nat.add_zero, Nat.sub_zero, Nat.zero_mul, Nat.reduceAdd, Nat.reduceMul, Nat.reduceSub]); first | done | rfl) ?_
  clear hS
  intro b2 d2 sp2 w2 k1 k2 k3 hS
  refine put_in ?_
  repeat' (first | ((with_reducible refine cons_list ?_); first | ((first | refine g_skip stp_list ?_ | refine g_move stp_list ?_ | refine g_assign stp_list ?_ | refine g_load1 stp_list own_st hS ?_ | refine g_load1F stp_list (by first | exact ((hS).far hbb).1) ?_ | refine g_loadR stp_list own_st hS ?_ | refine g_loadRF stp_list (by first | exact ((hS).far hbb).1) ?_ | refine g_indexAddr stp_list ?_ | refine g_indexAddrA stp_list ?_ | refine g_len stp_list ?_ | refine g_cap stp_list ?_ | refine g_extract stp_list ?_ | refine g_add stp_list ?_ | refine g_sub stp_list ?_ | refine g_mul stp_list ?_ | refine g_quo stp_list ?_ | refine g_rem stp_list ?_ | refine g_cmp_t stp_list ?_ | refine g_cmp_f stp_list ?_ | refine g_cmp stp_list (fun hc => ?_) (fun hc => ?_) | refine g_neqNil stp_list ?_ | refine g_neqNil0 stp_list ?_ | refine g_eqlNil stp_list ?_ | refine g_eqlNil0 stp_list ?_ | refine g_fieldAddr stp_list ?_ | refine g_field1 stp_list ?_ | refine g_fieldR stp_list ?_ | refine g_eqlSlNil stp_list ?_ | refine g_neqSlNil stp_list ?_ | refine g_makeInterface stp_list ?_ | refine g_makeFunc stp_list ?_ | refine g_conv stp_list ?_ | refine g_pick stp_list ?_ | refine g_not stp_list ?_ | refine g_slice stp_list ?_ | refine g_sliceA stp_list ?_ | refine g_sliceNil stp_list ?_) <;> refine put_in ?_) | ((first | refine g_alloc stp_list own_st hS ?_ | refine g_box stp_list own_st hS ?_ | refine g_build0 stp_list own_st hS ?_ | refine g_build stp_list own_st hS ?_ | refine g_make stp_list own_st hS ?_); clear hS; intro b w hS; refine put_in ?_) | ((first | refine g_store1 stp_list own_st hS ?_ | refine g_storeR stp_list own_st hS ?_); clear hS; intro w hS; refine put_in ?_)) | ((fail_if_success (with_reducible refine cons_list ?_)); first | go_step | go_step3 | rw [Exit.noGoto_normal] | rw [Exit.noGoto_ret] | rw [Exit.noGoto_exit]))
  rw [rounds_succ]
  repeat' (first | ((with_reducible refine cons_list ?_); first | ((first | refine g_skip stp_list ?_ | refine g_move stp_list ?_ | refine g_assign stp_list ?_ | refine g_load1 stp_list own_st hS ?_ | refine g_load1F stp_list (by first | exact ((hS).far hbb).1) ?_ | refine g_loadR stp_list own_st hS ?_ | refine g_loadRF stp_list (by first | exact ((hS).far hbb).1) ?_ | refine g_indexAddr stp_list ?_ | refine g_indexAddrA stp_list ?_ | refine g_len stp_list ?_ | refine g_cap stp_list ?_ | refine g_extract stp_list ?_ | refine g_add stp_list ?_ | refine g_sub stp_list ?_ | refine g_mul stp_list ?_ | refine g_quo stp_list ?_ | refine g_rem stp_list ?_ | refine g_cmp_t stp_list ?_ | refine g_cmp_f stp_list ?_ | refine g_cmp stp_list (fun hc => ?_) (fun hc => ?_) | refine g_neqNil stp_list ?_ | refine g_neqNil0 stp_list ?_ | refine g_eqlNil stp_list ?_ | refine g_eqlNil0 stp_list ?_ | refine g_fieldAddr stp_list ?_ | refine g_field1 stp_list ?_ | refine g_fieldR stp_list ?_ | refine g_eqlSlNil stp_list ?_ | refine g_neqSlNil stp_list ?_ | refine g_makeInterface stp_list ?_ | refine g_makeFunc stp_list ?_ | refine g_conv stp_list ?_ | refine g_pick stp_list ?_ | refine g_not stp_list ?_ | refine g_slice stp_list ?_ | refine g_sliceA stp_list ?_ | refine g_sliceNil stp_list ?_) <;> refine put_in ?_) | ((first | refine g_alloc stp_list own_st hS ?_ | refine g_box stp_list own_st hS ?_ | refine g_build0 stp_list own_st hS ?_ | refine g_build stp_list own_st hS ?_ | refine g_make stp_list own_st hS ?_); clear hS; intro b w hS; refine put_in ?_) | ((first | refine g_store1 stp_list own_st hS ?_ | refine g_storeR stp_list own_st hS ?_); clear hS; intro w hS; refine put_in ?_)) | ((fail_if_success (with_reducible refine cons_list ?_)); first | go_step | go_step3 | rw [Exit.noGoto_normal] | rw [Exit.noGoto_ret] | rw [Exit.noGoto_exit]))
  go_ret
  refine ⟨b2, d2, sp2, rfl, ⟨by omega, k2, by omega⟩, (hS.2.1 _ (List.mem_cons_self ..)).1, ?_, hS.below⟩
  rw [List.map_append]
  exact hS.blk 0 rfl
end Go.Proofs.Ytkfggilildiflab

namespace Go.Proofs.Ytkfggilildiflab
open Go.RowKit
theorem xor_digits (A B x y : Nat) (hx : x < 256) (hy : y < 256) : (x + 256 * A) ^^^ (y + 256 * B) = (x ^^^ y) + 256 * (A ^^^ B) := by
  have hxy : x ^^^ y < 2 ^ 8 := Nat.xor_lt_two_pow hx hy
  rw [Nat.add_comm x, Nat.add_comm y, Nat.add_comm (x ^^^ y), show (256 : Nat) = 2 ^ 8 from rfl]
  apply Nat.eq_of_testBit_eq
  intro j
  rw [Nat.testBit_xor, Nat.testBit_two_pow_mul_add A hx j, Nat.testBit_two_pow_mul_add B hy j, Nat.testBit_two_pow_mul_add _ hxy j]
  by_cases h : j < 8
  · simp only [h, if_true, Nat.testBit_xor]
  · simp only [h, if_false, Nat.testBit_xor]
theorem xorL_snoc (a b : List UInt8) (x y : UInt8) (h : a.length = b.length) : xorL (a ++ [x]) (b ++ [y]) = xorL a b ++ [x ^^^ y] := by
  unfold xorL
  rw [List.zipWith_append h]
  rfl
theorem beN_xor : ∀ (n : Nat) (a b : List UInt8), a.length = n → b.length = n → beN (xorL a b) = beN a ^^^ beN b
  | 0, a, b, ha, hb => by
    obtain rfl := List.eq_nil_of_length_eq_zero ha
    obtain rfl := List.eq_nil_of_length_eq_zero hb
    show beN [] = beN [] ^^^ beN []
    rw [beN_nil]; rfl
  | n + 1, a, b, ha, hb => by
    have ea : a = a.dropLast ++ [a.getLast (by intro h; subst h; simp at ha)] := (List.dropLast_concat_getLast _).symm
    have eb : b = b.dropLast ++ [b.getLast (by intro h; subst h; simp at hb)] := (List.dropLast_concat_getLast _).symm
    have la : a.dropLast.length = n := by simp [ha]
    have lb : b.dropLast.length = n := by simp [hb]
    rw [ea, eb]
    generalize a.dropLast = a' at *
    generalize b.dropLast = b' at *
    rw [xorL_snoc _ _ _ _ (by omega), beN_snoc, beN_snoc, beN_snoc, beN_xor n a' b' la lb, UInt8.toNat_xor]
    exact (xor_digits _ _ _ _ (UInt8.toNat_lt _) (UInt8.toNat_lt _)).symm
theorem r_xor64 {P : Program} {o : Oper} {a : Act} {w : World} {t t' : TypeId} {x y : Operand} {m n q : Nat} (hop : o.op = .binOp .xor t x y t') (hx : evO a x = some (.int .u64 (m : Int))) (hy : evO a y = some (.int .u64 (n : Int))) (hm : m < 2 ^ 64) (hn : n < 2 ^ 64) (hq : m ^^^ n = q) : (execOp a.eval o).run P w = .ok (.value (.int .u64 (q : Int))) w := by
  have hl : m ^^^ n < 2 ^ 64 := Nat.xor_lt_two_pow hm hn
  unfold execOp; rw [hop]; subst hq
  have hb : (BitVec.ofInt 64 (m : Int) ^^^ BitVec.ofInt 64 (n : Int)).toNat = m ^^^ n := by
    rw [BitVec.toNat_xor]
    have e : ∀ k : Nat, k < 2 ^ 64 → (BitVec.ofInt 64 (k : Int)).toNat = k := fun k hk => by
      rw [BitVec.ofInt_natCast, BitVec.toNat_ofNat, Nat.mod_eq_of_lt hk]
    rw [e m hm, e n hn]
  have hw : IntKind.u64.wrap ((m ^^^ n : Nat) : Int) = ((m ^^^ n : Nat) : Int) := IntWalk.u64_in _ (by omega)
  simp only [evO_eval hx, evO_eval hy, Sem.run_bind, eqGuard, binOp]
  simp [Op.intBits]
  have hb' : (BitVec.ofInt IntKind.u64.bits (m : Int) ^^^ BitVec.ofInt IntKind.u64.bits (n : Int)).toNat = m ^^^ n := hb
  have hm' : m % 2 ^ IntKind.u64.bits = m := Nat.mod_eq_of_lt hm
  have hn' : n % 2 ^ IntKind.u64.bits = n := Nat.mod_eq_of_lt hn
  rw [hm', hn']
  exact hw
theorem bv8 (x : UInt8) : (BitVec.ofInt 8 (x.toNat : Int)) = x.toBitVec := by
  rw [BitVec.ofInt_natCast]
  apply BitVec.eq_of_toNat_eq
  rw [BitVec.toNat_ofNat, Nat.mod_eq_of_lt (UInt8.toNat_lt x)]
  rfl
theorem r_xor8 {P : Program} {o : Oper} {a : Act} {w : World} {t t' : TypeId} {x y : Operand} {m n q : UInt8} (hop : o.op = .binOp .xor t x y t') (hx : evO a x = some (.int .u8 (m.toNat : Int))) (hy : evO a y = some (.int .u8 (n.toNat : Int))) (hq : m ^^^ n = q) : (execOp a.eval o).run P w = .ok (.value (.int .u8 (q.toNat : Int))) w := by
  unfold execOp; rw [hop]; subst hq
  have hb : (BitVec.ofInt IntKind.u8.bits (m.toNat : Int) ^^^ BitVec.ofInt IntKind.u8.bits (n.toNat : Int)).toNat = (m ^^^ n).toNat := by
    show (BitVec.ofInt 8 (m.toNat : Int) ^^^ BitVec.ofInt 8 (n.toNat : Int)).toNat = _
    rw [bv8, bv8]; rfl
  have hw : IntKind.u8.wrap (((m ^^^ n).toNat : Nat) : Int) = (((m ^^^ n).toNat : Nat) : Int) := IntWalk.u8_in _ (by have := UInt8.toNat_lt (m ^^^ n); omega)
  simp only [evO_eval hx, evO_eval hy, Sem.run_bind, eqGuard, binOp]
  simp only [Op.intBits, hb, hw]
  rfl
theorem r_or8 {P : Program} {o : Oper} {a : Act} {w : World} {t t' : TypeId} {x y : Operand} (m : UInt8) {n q : UInt8} (hop : o.op = .binOp .or t x y t') (hx : evO a x = some (.int .u8 (m.toNat : Int))) (hy : evO a y = some (.int .u8 (n.toNat : Int))) (hq : m ||| n = q) : (execOp a.eval o).run P w = .ok (.value (.int .u8 (q.toNat : Int))) w := by
  unfold execOp; rw [hop]; subst hq
  have hb : (BitVec.ofInt IntKind.u8.bits (m.toNat : Int) ||| BitVec.ofInt IntKind.u8.bits (n.toNat : Int)).toNat = (m ||| n).toNat := by
    show (BitVec.ofInt 8 (m.toNat : Int) ||| BitVec.ofInt 8 (n.toNat : Int)).toNat = _
    rw [bv8, bv8]; rfl
  have hw : IntKind.u8.wrap (((m ||| n).toNat : Nat) : Int) = (((m ||| n).toNat : Nat) : Int) := IntWalk.u8_in _ (by have := UInt8.toNat_lt (m ||| n); omega)
  simp only [evO_eval hx, evO_eval hy, Sem.run_bind, eqGuard, binOp]
  simp only [Op.intBits, hb, hw]
  rfl
theorem r_convU {P : Program} {o : Oper} {a : Act} {w : World} {s t : TypeId} {x : Operand} {k ks : IntKind} {n : Int} (hop : o.op = .convert s t x) (hx : evO a x = some (.int k n)) (hs : IntT P s ks) (ht : IntT P t .u64) : (execOp a.eval o).run P w = .ok (.value (.int .u64 ((n % 18446744073709551616).toNat : Nat))) w := by
  have e : IntKind.u64.wrap n = ((n % 18446744073709551616).toNat : Nat) := by rw [IntKind.wrap_u64]; omega
  unfold execOp; rw [hop]
  simp only [evO_eval hx, convert, Sem.run_bind, run_underlying hs.is, run_underlying ht.is, Result.andThen_ok, Conv.intToInt, e]
  rfl
theorem r_convW {P : Program} {o : Oper} {a : Act} {w : World} {s t : TypeId} {x : Operand} {k ks : IntKind} {n : Int} {u : Nat} (hop : o.op = .convert s t x) (hx : evO a x = some (.int k n)) (hs : IntT P s ks) (ht : IntT P t .u64) (hu : (n % 18446744073709551616).toNat = u) : (execOp a.eval o).run P w = .ok (.value (.int .u64 (u : Int))) w := by
  subst hu; exact r_convU hop hx hs ht
end Go.Proofs.Ytkfggilildiflab

namespace Go.Proofs.Ytkfggilildiflab
open Go.ChangeShapes Go.WideShapes Go.ChangeAt Go.RowKit
/-- So many bits as cells. -/
def bitsC (n P : Nat) : Array Value := ((List.range n).map fun j => Value.int .i64 (tb P j)).toArray
theorem bitsC_size (n P : Nat) : csz (bitsC n P) = n := by simp [csz, bitsC]
theorem bitsC_any (n P j : Nat) : (bitsC n P)[j]? = if j < n then some (.int .i64 (tb P j)) else none := by
  by_cases h : j < n <;> simp [bitsC, h]
theorem bitsC_get {n j : Nat} (P : Nat) (hj : j < n) : (bitsC n P)[j]? = some (.int .i64 (tb P j)) := by rw [bitsC_any, if_pos hj]
theorem bitsC_put {n : Nat} (P Q j : Nat) (x : Int) (hx : x = tb Q j) (h : ∀ k, k < n → k ≠ j → tb P k = tb Q k) : (bitsC n P).setIfInBounds j (.int .i64 x) = bitsC n Q := by
  apply Array.ext_getElem?
  intro k
  rw [Array.getElem?_setIfInBounds, bitsC_any, bitsC_any]
  by_cases hj : j = k
  · subst hj
    rw [if_pos rfl, hx, show (bitsC n P).size = n by simp [bitsC]]
  · rw [if_neg hj]
    by_cases hk : k < n
    · rw [if_pos hk, if_pos hk, h k hk (fun e => hj e.symm)]
    · rw [if_neg hk, if_neg hk]
theorem bitsC_flip {n : Nat} (P j : Nat) : (bitsC n P).setIfInBounds j (.int .i64 ((1 : Int) - (tb P j : Int))) = bitsC n (P ^^^ (1 <<< j)) := bitsC_put P _ j _ (tb_flip P j) (fun k _ h => tb_flip' P j k h)
theorem tb_two_succ (x j : Nat) : tb (2 * x) (j + 1) = tb x j := by
  unfold tb
  rw [Nat.pow_succ, Nat.mul_comm (2 ^ j) 2, Nat.mul_div_mul_left _ _ (by decide)]
theorem tb_two_zero (x : Nat) : tb (2 * x) 0 = 0 := by unfold tb; simp
theorem tb_mod (x i j : Nat) : tb (x % 2 ^ i) j = if j < i then tb x j else 0 := by
  rw [tb_is, tb_is, Nat.testBit_mod_two_pow]
  by_cases h : j < i <;> simp [h]
theorem dblP_step {n : Nat} (N i : Nat) : (bitsC n (2 * (N % 2 ^ i))).setIfInBounds (i + 1) (.int .i64 (tb N i)) = bitsC n (2 * (N % 2 ^ (i + 1))) := by
  refine bitsC_put _ _ (i + 1) _ ?_ (fun k _ hk => ?_)
  · rw [tb_two_succ, tb_mod, if_pos (by omega)]
  · cases k with
    | zero => rw [tb_two_zero, tb_two_zero]
    | succ k =>
      rw [tb_two_succ, tb_two_succ, tb_mod, tb_mod]
      by_cases h : k < i
      · rw [if_pos h, if_pos (by omega)]
      · rw [if_neg h, if_neg (by omega)]
theorem tb_leN : ∀ (l : List UInt8) (i : Nat), tb (leN l) i = tb (l.getD (i / 8) 0).toNat (i % 8)
  | [], i => by simp [leN_nil, tb]
  | b :: l, i => by
    have hb := b.toNat_lt
    rw [leN_cons]
    by_cases h : i < 8
    · rw [show i / 8 = 0 by omega, show i % 8 = i by omega, List.getD_cons_zero]
      have e := tb_mod (b.toNat + 256 * leN l) 8 i
      rw [if_pos h] at e
      rw [← e]
      congr 1
      omega
    · obtain ⟨i', rfl⟩ : ∃ i', i = i' + 8 := ⟨i - 8, by omega⟩
      rw [show (i' + 8) / 8 = i' / 8 + 1 by omega, show (i' + 8) % 8 = i' % 8 by omega, List.getD_cons_succ, ← tb_leN l i']
      unfold tb
      rw [Nat.pow_add, Nat.mul_comm (2 ^ i') (2 ^ 8), ← Nat.div_div_eq_div_mul]
      congr 2
      omega
/-- The bytes while they are put together, from the highest bit on. -/
def outQ (M i q : Nat) : UInt8 := UInt8.ofNat (M / 2 ^ (max i (8 * q)) % 2 ^ (8 * (q + 1) - max i (8 * q)))
def outS (M i : Nat) : List UInt8 := (List.range 16).map (outQ M i)
theorem outS_len (M i : Nat) : (outS M i).length = 16 := by simp [outS]
theorem outS_get (M i : Nat) {q : Nat} (hq : q < 16) : (outS M i).getD q 0 = outQ M i q := by
  simp [outS, List.getD_eq_getElem?_getD, hq]
theorem outS_start (M : Nat) : outS M 128 = zs 16 := by
  apply List.ext_getElem?
  intro q
  by_cases hq : q < 16
  · rw [show zs 16 = (List.range 16).map (fun _ => (0 : UInt8)) by decide +kernel]
    simp only [outS, List.getElem?_map, List.getElem?_range hq, Option.map_some]
    unfold outQ
    rw [show 8 * (q + 1) - max 128 (8 * q) = 0 by omega, Nat.pow_zero, Nat.mod_one]
    rfl
  · rw [List.getElem?_eq_none (by rw [outS_len]; omega), List.getElem?_eq_none (by rw [zs_len]; omega)]
theorem outS_step (M i : Nat) (hi : i < 128) : (outS M (i + 1)).set (i / 8) (outQ M (i + 1) (i / 8) * 2 + UInt8.ofNat (tb M i)) = outS M i := by
  apply List.ext_getElem?
  intro q
  rw [List.getElem?_set, outS_len]
  by_cases hq : q < 16
  · simp only [outS, List.getElem?_map, List.getElem?_range hq, Option.map_some]
    by_cases e : i / 8 = q
    · subst e
      rw [if_pos rfl, if_pos (by omega)]
      congr 1
      unfold outQ tb
      have m1 : max i (8 * (i / 8)) = i := by omega
      have m2 : max (i + 1) (8 * (i / 8)) = i + 1 := by omega
      rw [m1, m2, Nat.pow_succ, ← Nat.div_div_eq_div_mul]
      obtain ⟨r, hr⟩ : ∃ r, 8 * (i / 8 + 1) - (i + 1) = r := ⟨_, rfl⟩
      rw [hr, show 8 * (i / 8 + 1) - i = r + 1 by omega]
      have hr8 : r ≤ 7 := by omega
      generalize M / 2 ^ i = x
      apply UInt8.toNat_inj.1
      rw [UInt8.toNat_add, UInt8.toNat_mul, UInt8.toNat_ofNat', UInt8.toNat_ofNat', UInt8.toNat_ofNat', show (2 : Nat) ^ (r + 1) = 2 * 2 ^ r by rw [Nat.pow_succ, Nat.mul_comm], Nat.mod_mul]
      have h1 : x / 2 % 2 ^ r < 2 ^ r := Nat.mod_lt _ (Nat.two_pow_pos r)
      have h2 : 2 ^ r ≤ 2 ^ 7 := Nat.pow_le_pow_right (by decide) hr8
      have h3 : UInt8.toNat 2 = 2 := rfl
      rw [h3]
      omega
    · rw [if_neg e]
      congr 1
      unfold outQ
      by_cases h : i < 8 * q
      · rw [show max i (8 * q) = 8 * q by omega, show max (i + 1) (8 * q) = 8 * q by omega]
      · rw [show 8 * (q + 1) - max i (8 * q) = 0 by omega, show 8 * (q + 1) - max (i + 1) (8 * q) = 0 by omega]
        simp [Nat.mod_one]
  · rw [if_neg (by omega), List.getElem?_eq_none (by rw [outS_len]; omega), List.getElem?_eq_none (by rw [outS_len]; omega)]
theorem leB_get : ∀ (k : Nat) (n q : Nat), q < k → (leB n k)[q]? = some (UInt8.ofNat (n / 256 ^ q))
  | k + 1, n, q, h => by
    rw [leB_succ]
    by_cases e : q < k
    · rw [List.getElem?_append_left (by rw [leB_len]; exact e)]
      exact leB_get k n q e
    · obtain rfl : q = k := by omega
      rw [List.getElem?_append_right (by rw [leB_len]; exact Nat.le_refl _), leB_len, Nat.sub_self]
      rfl
theorem outS_end (M : Nat) : outS M 0 = leB M 16 := by
  apply List.ext_getElem?
  intro q
  by_cases hq : q < 16
  · rw [leB_get 16 M q hq]
    simp only [outS, List.getElem?_map, List.getElem?_range hq, Option.map_some]
    congr 1
    unfold outQ
    rw [show max 0 (8 * q) = 8 * q by omega, show 8 * (q + 1) - 8 * q = 8 by omega, Nat.pow_mul]
    apply UInt8.toNat_inj.1
    rw [UInt8.toNat_ofNat', UInt8.toNat_ofNat', show (2 : Nat) ^ 8 = 256 from rfl]
    omega
  · rw [List.getElem?_eq_none (by rw [outS_len]; omega), List.getElem?_eq_none (by rw [leB_len]; omega)]
/-- The doubled number's bits, of which the highest is left out. -/
theorem dblN_tb (N j : Nat) (hj : j < 128) : tb (if 2 ^ 127 ≤ N then 2 * N ^^^ 0x87 else 2 * N) j = tb (dblN N) j := by
  unfold dblN
  by_cases h : 2 ^ 127 ≤ N
  · rw [if_pos h, if_pos h, tb_xor, tb_xor, tb_mod, if_pos hj]
  · rw [if_neg h, if_neg h, Nat.xor_zero, tb_mod, if_pos hj]
theorem dbl_top (N : Nat) (hN : N < 2 ^ 128) : tb (2 * N) 128 = if 2 ^ 127 ≤ N then 1 else 0 := by
  unfold tb
  by_cases h : 2 ^ 127 ≤ N
  · rw [if_pos h]; omega
  · rw [if_neg h]; omega
attribute [irreducible] bitsC outS outQ
end Go.Proofs.Ytkfggilildiflab

namespace Go.Proofs.Ytkfggilildiflab
open Go.ChangeShapes Go.WideShapes Go.ChangeAt Go.RowKit
theorem byte_step (x k : Nat) : UInt8.ofNat (x / 2 ^ (k + 1)) * 2 + UInt8.ofNat (tb x k) = UInt8.ofNat (x / 2 ^ k) := by
  unfold tb
  rw [Nat.pow_succ, ← Nat.div_div_eq_div_mul]
  generalize x / 2 ^ k = y
  apply UInt8.toNat_inj.1
  rw [UInt8.toNat_add, UInt8.toNat_mul, UInt8.toNat_ofNat', UInt8.toNat_ofNat', UInt8.toNat_ofNat', show UInt8.toNat 2 = 2 from rfl]
  omega
/-- The sum so far: i bytes, and of the next one the bits from k on. -/
def xrS (X : List UInt8) (i k : Nat) : List UInt8 := (fillN (zs 16) X i).set i (UInt8.ofNat ((X.getD i 0).toNat / 2 ^ k))
theorem xrS_len {X : List UInt8} (hX : X.length = 16) (i k : Nat) : (xrS X i k).length = 16 := by
  unfold xrS; rw [List.length_set, fillN_len (by rw [zs_len, hX]), zs_len]
theorem xrS_first {X : List UInt8} (hX : X.length = 16) {i : Nat} (hi : i < 16) : xrS X i 8 = fillN (zs 16) X i := by
  have h0 : UInt8.ofNat ((X.getD i 0).toNat / 2 ^ 8) = 0 := by
    have := (X.getD i 0).toNat_lt
    rw [Nat.div_eq_of_lt (by omega)]; rfl
  unfold xrS
  rw [h0]
  apply List.ext_getElem?
  intro j
  rw [List.getElem?_set]
  by_cases e : i = j
  · subst e
    rw [if_pos rfl, fillN_len (by rw [zs_len, hX]), zs_len, if_pos hi]
    unfold fillN
    rw [List.getElem?_append_right (by simp; omega)]
    simp only [List.length_take, List.getElem?_drop]
    rw [show i + (i - min i X.length) = i by omega, show zs 16 = (List.range 16).map (fun _ => (0 : UInt8)) by decide +kernel]
    simp [hi]
  · rw [if_neg e]
theorem xrS_get {X : List UInt8} (hX : X.length = 16) {i : Nat} (hi : i < 16) (k : Nat) : (xrS X i k).getD i 0 = UInt8.ofNat ((X.getD i 0).toNat / 2 ^ k) := by
  unfold xrS
  rw [List.getD_eq_getElem?_getD, List.getElem?_set_self (by rw [fillN_len (by rw [zs_len, hX]), zs_len]; exact hi)]
  rfl
theorem xrS_step (X : List UInt8) (i k : Nat) : (xrS X i (k + 1)).set i (UInt8.ofNat ((X.getD i 0).toNat / 2 ^ (k + 1)) * 2 + UInt8.ofNat (tb (X.getD i 0).toNat k)) = xrS X i k := by
  unfold xrS
  rw [List.set_set, byte_step]
theorem xrS_last {X : List UInt8} (hX : X.length = 16) {i : Nat} (hi : i < 16) : xrS X i 0 = fillN (zs 16) X (i + 1) := by
  unfold xrS
  rw [Nat.pow_zero, Nat.div_one, ← fillN_set (by rw [zs_len, hX]) (by rw [hX]; exact hi)]
  congr 1
  apply UInt8.toNat_inj.1
  rw [UInt8.toNat_ofNat']
  have := (X.getD i 0).toNat_lt
  omega
theorem xor_bits (a b : UInt8) (k : Nat) : (tb a.toNat k + tb b.toNat k) % 2 = tb (a ^^^ b).toNat k := by
  rw [UInt8.toNat_xor, tb_xor]
attribute [irreducible] xrS
end Go.Proofs.Ytkfggilildiflab

namespace Go.Proofs.Ytkfggilildiflab
open Go.ChangeShapes Go.WideShapes Go.ChangeAt Go.RowKit
/-- The bits behind so many of the four changes. -/
def flD (M : Nat) : Nat → Nat
  | 0 => M
  | 1 => M ^^^ (1 <<< 0)
  | 2 => M ^^^ (1 <<< 0) ^^^ (1 <<< 1)
  | 3 => M ^^^ (1 <<< 0) ^^^ (1 <<< 1) ^^^ (1 <<< 2)
  | _ => M ^^^ (1 <<< 0) ^^^ (1 <<< 1) ^^^ (1 <<< 2) ^^^ (1 <<< 7)
theorem flD_all (M : Nat) : flD M 4 = M ^^^ 0x87 := by
  show M ^^^ (1 <<< 0) ^^^ (1 <<< 1) ^^^ (1 <<< 2) ^^^ (1 <<< 7) = _
  rw [Nat.xor_assoc, Nat.xor_assoc, Nat.xor_assoc]
  rfl
def litD : Array Value := #[.int .i64 0, .int .i64 1, .int .i64 2, .int .i64 7]
theorem litD_is : #[Value.int .i64 0, .int .i64 1, .int .i64 2, .int .i64 7] = litD := rfl
def atD : Nat → Nat | 0 => 0 | 1 => 1 | 2 => 2 | _ => 7
theorem litD_get {j : Nat} (h : j < 4) : litD[j]? = some (.int .i64 (atD j : Int)) := by
  match j, h with
  | 0, _ => rfl
  | 1, _ => rfl
  | 2, _ => rfl
  | 3, _ => rfl
theorem atD_lt (j : Nat) : atD j < 8 := by unfold atD; split <;> omega
theorem flD_step {M j : Nat} (h : j < 4) : (bitsC 129 (flD M j)).setIfInBounds (atD j) (.int .i64 ((1 : Int) - (tb (flD M j) (atD j) : Int))) = bitsC 129 (flD M (j + 1)) := by
  match j, h with
  | 0, _ => exact bitsC_flip _ 0
  | 1, _ => exact bitsC_flip _ 1
  | 2, _ => exact bitsC_flip _ 2
  | 3, _ => exact bitsC_flip _ 7
attribute [irreducible] litD atD flD
theorem bitsC_same {n : Nat} {P Q : Nat} (h : ∀ j, j < n → tb P j = tb Q j) : bitsC n P = bitsC n Q := by
  apply Array.ext_getElem?
  intro k
  rw [bitsC_any, bitsC_any]
  by_cases hk : k < n
  · rw [if_pos hk, if_pos hk, h k hk]
  · rw [if_neg hk, if_neg hk]
theorem out_byte (b : UInt8) (c : Nat) (h : c ≤ 1) : ((b.toNat : Int) * 2 % 256 + (c : Int)) = (((b * 2 + UInt8.ofNat c).toNat : Nat) : Int) := by
  have := b.toNat_lt
  rw [UInt8.toNat_add, UInt8.toNat_mul, UInt8.toNat_ofNat']
  simp
  omega
theorem tb_two (x i : Nat) : tb x i ≤ 1 := tb_le x i
theorem xorL_at {a b : List UInt8} {i : Nat} (ha : i < a.length) (hb : i < b.length) : (xorL a b).getD i 0 = a.getD i 0 ^^^ b.getD i 0 := by
  simp [xorL, List.getD_eq_getElem?_getD, ha, hb, List.getElem?_zipWith]
end Go.Proofs.Ytkfggilildiflab

namespace Go.Proofs.Ytkfggilildiflab
open Go.ChangeShapes Go.WideShapes Go.ChangeAt Go.RowKit
def blockAt (l : List UInt8) (j : Nat) : List UInt8 := (l.drop (16 * j)).take 16
theorem blockAt_len {l : List UInt8} {j : Nat} (h : 16 * j + 16 ≤ l.length) : (blockAt l j).length = 16 := by unfold blockAt; simp; omega
/-- So many blocks, turned each by itself. -/
def headL (f : List UInt8 → List UInt8 → List UInt8) (T : Nat → List UInt8) (l : List UInt8) : Nat → List UInt8
  | 0 => []
  | k + 1 => headL f T l k ++ f (T k) (blockAt l k)
/-- A text turned. -/
def turnL (f : List UInt8 → List UInt8 → List UInt8) (T : Nat → List UInt8) (back : Bool) (l : List UInt8) : List UInt8 :=
  if l.length % 16 = 0 then headL f T l (l.length / 16)
  else
    headL f T l (l.length / 16 - 1) ++
      (f (T (if back then l.length / 16 - 1 else l.length / 16)) (l.drop (16 * (l.length / 16)) ++ (f (T (if back then l.length / 16 else l.length / 16 - 1)) (blockAt l (l.length / 16 - 1))).drop (l.length % 16)) ++
        (f (T (if back then l.length / 16 else l.length / 16 - 1)) (blockAt l (l.length / 16 - 1))).take (l.length % 16))
/-- It keeps a block's length. -/
def Wide (f : List UInt8 → List UInt8 → List UInt8) (T : Nat → List UInt8) : Prop := ∀ j x, x.length = 16 → (f (T j) x).length = 16
theorem headL_len {f : List UInt8 → List UInt8 → List UInt8} {T : Nat → List UInt8} (hf : Wide f T) {l : List UInt8} : ∀ k, 16 * k ≤ l.length → (headL f T l k).length = 16 * k
  | 0, _ => rfl
  | k + 1, h => by
    have ih := headL_len hf (l := l) k (by omega)
    simp only [headL, List.length_append]
    rw [ih, hf k _ (blockAt_len (by omega))]
    omega
theorem headL_block {f : List UInt8 → List UInt8 → List UInt8} {T : Nat → List UInt8} (hf : Wide f T) {l : List UInt8} : ∀ (k : Nat) (rest : List UInt8), 16 * k ≤ l.length → ∀ j, j < k → blockAt (headL f T l k ++ rest) j = f (T j) (blockAt l j)
  | k + 1, rest, h, j, hj => by
    have h1 := headL_len hf (l := l) k (by omega)
    have h2 := hf k (blockAt l k) (blockAt_len (by omega))
    rw [headL, List.append_assoc]
    by_cases e : j < k
    · exact headL_block hf k _ (by omega) j e
    · obtain rfl : j = k := by omega
      unfold blockAt at h2 ⊢
      rw [List.drop_append_of_le_length (by omega), List.drop_of_length_le (by omega), List.nil_append]
      exact (List.take_append_of_le_length (by omega)).trans (List.take_of_length_le (by omega))
theorem take_block {l : List UInt8} {k : Nat} : l.take (16 * k) ++ blockAt l k = l.take (16 * (k + 1)) := by
  unfold blockAt
  rw [show 16 * (k + 1) = 16 * k + 16 by omega, List.take_add]
/-- What is turned and turned back, block by block. -/
theorem headL_back {f g : List UInt8 → List UInt8 → List UInt8} {T : Nat → List UInt8} (hf : Wide f T) (hg : ∀ j x, x.length = 16 → g (T j) (f (T j) x) = x) {l : List UInt8} {k : Nat} (rest : List UInt8) (hk : 16 * k ≤ l.length) :
    ∀ n, n ≤ k → headL g T (headL f T l k ++ rest) n = l.take (16 * n)
  | 0, _ => by simp [headL]
  | n + 1, h => by
    rw [headL, headL_back hf hg rest hk n (by omega), headL_block hf k rest hk n (by omega), hg n _ (blockAt_len (by omega)), take_block]
theorem turnL_len {f : List UInt8 → List UInt8 → List UInt8} {T : Nat → List UInt8} (hf : Wide f T) (back : Bool) {l : List UInt8} (h16 : 16 ≤ l.length) : (turnL f T back l).length = l.length := by
  unfold turnL
  split
  · rw [headL_len hf _ (by omega)]; omega
  · obtain ⟨a, ha⟩ : ∃ a, a = (if back then l.length / 16 else l.length / 16 - 1) := ⟨_, rfl⟩
    obtain ⟨b, hb⟩ : ∃ b, b = (if back then l.length / 16 - 1 else l.length / 16) := ⟨_, rfl⟩
    rw [← ha, ← hb]
    have h1 := hf a _ (blockAt_len (l := l) (j := l.length / 16 - 1) (by omega))
    generalize f (T a) (blockAt l (l.length / 16 - 1)) = c at *
    have h2 := hf b (l.drop (16 * (l.length / 16)) ++ c.drop (l.length % 16)) (by simp; omega)
    rw [List.length_append, List.length_append, headL_len hf _ (by omega), h2, List.length_take]
    omega
theorem turnL_back {f g : List UInt8 → List UInt8 → List UInt8} {T : Nat → List UInt8} (hf : Wide f T) (hg : ∀ j x, x.length = 16 → g (T j) (f (T j) x) = x) (back : Bool) {l : List UInt8} (h16 : 16 ≤ l.length) :
    turnL g T (!back) (turnL f T back l) = l := by
  have hlen := turnL_len hf back h16
  obtain ⟨out, ho⟩ : ∃ out, out = turnL f T back l := ⟨_, rfl⟩
  rw [← ho] at hlen ⊢
  obtain ⟨m, hm⟩ : ∃ m, m = l.length / 16 := ⟨_, rfl⟩
  obtain ⟨r, hr⟩ : ∃ r, r = l.length % 16 := ⟨_, rfl⟩
  have hl : l.length = 16 * m + r := by omega
  unfold turnL at ho ⊢
  rw [hlen, ← hm, ← hr]
  rw [← hm, ← hr] at ho
  by_cases h0 : r = 0
  · rw [if_pos h0] at ho ⊢
    have h1 := headL_back (l := l) hf hg (k := m) [] (by omega) m (Nat.le_refl _)
    rw [List.append_nil] at h1
    rw [ho, h1, List.take_of_length_le (by omega)]
  · rw [if_neg h0] at ho ⊢
    obtain ⟨a, ha⟩ : ∃ a, a = (if back then m else m - 1) := ⟨_, rfl⟩
    obtain ⟨b, hb⟩ : ∃ b, b = (if back then m - 1 else m) := ⟨_, rfl⟩
    have ha' : (if (!back) = true then m - 1 else m) = a := by cases back <;> simp [ha]
    have hb' : (if (!back) = true then m else m - 1) = b := by cases back <;> simp [hb]
    rw [← ha, ← hb] at ho
    rw [ha', hb']
    have hB := blockAt_len (l := l) (j := m - 1) (by omega)
    have hga := hg a _ hB
    have h1 := hf a _ hB
    obtain ⟨c, hc⟩ : ∃ c, c = f (T a) (blockAt l (m - 1)) := ⟨_, rfl⟩
    rw [← hc] at h1 hga ho
    have hxl : (l.drop (16 * m) ++ c.drop r).length = 16 := by simp; omega
    have h2 := hf b _ hxl
    have hgb := hg b _ hxl
    obtain ⟨d, hd⟩ : ∃ d, d = f (T b) (l.drop (16 * m) ++ c.drop r) := ⟨_, rfl⟩
    rw [← hd] at h2 hgb ho
    have hH := headL_len hf (l := l) (m - 1) (by omega)
    -- what the turned text's parts are
    have o1 : headL g T out (m - 1) = l.take (16 * (m - 1)) := by rw [ho]; exact headL_back hf hg _ (by omega) _ (Nat.le_refl _)
    have o2 : blockAt out (m - 1) = d := by
      rw [ho]; unfold blockAt
      rw [List.drop_append_of_le_length (by omega), List.drop_of_length_le (by omega), List.nil_append]
      exact (List.take_append_of_le_length (by omega)).trans (List.take_of_length_le (by omega))
    have o3 : out.drop (16 * m) = c.take r := by
      rw [ho, ← List.append_assoc, List.drop_append_of_le_length (by rw [List.length_append]; omega), List.drop_of_length_le (by rw [List.length_append]; omega), List.nil_append]
    rw [o1, o2, o3, hgb]
    have hdl : (l.drop (16 * m)).length = r := by simp; omega
    have e1 : (l.drop (16 * m) ++ c.drop r).drop r = c.drop r := by
      rw [List.drop_append_of_le_length (by omega), List.drop_of_length_le (by omega), List.nil_append]
    have e2 : (l.drop (16 * m) ++ c.drop r).take r = l.drop (16 * m) := by
      rw [List.take_append_of_le_length (by omega), List.take_of_length_le (by omega)]
    rw [e1, e2, List.take_append_drop, hga, ← List.append_assoc, take_block, show m - 1 + 1 = m by omega, List.take_append_drop]
/-- Each block is turned by itself. -/
theorem headL_same {f g : List UInt8 → List UInt8 → List UInt8} {T : Nat → List UInt8} (hf : Wide f T) (hg : ∀ j x, x.length = 16 → g (T j) (f (T j) x) = x) {l l' : List UInt8} {m i : Nat} (hl : 16 * m ≤ l.length) (hl' : 16 * m ≤ l'.length) (hi : i < m) :
    blockAt (headL f T l m) i = blockAt (headL f T l' m) i ↔ blockAt l i = blockAt l' i := by
  have h1 := headL_block hf m [] hl i hi
  have h2 := headL_block hf m [] hl' i hi
  rw [List.append_nil] at h1 h2
  rw [h1, h2]
  refine ⟨fun h => ?_, fun h => by rw [h]⟩
  have := congrArg (g (T i)) h
  rwa [hg i _ (blockAt_len (by omega)), hg i _ (blockAt_len (by omega))] at this
theorem block_set {l : List UInt8} {k : Nat} {b : UInt8} (hk : k < l.length) (hb : b ≠ l.getD k 0) {i : Nat} : blockAt (l.set k b) i = blockAt l i ↔ k / 16 ≠ i := by
  unfold blockAt
  constructor
  · rintro h rfl
    have h1 := congrArg (·[k % 16]?) h
    simp only [List.getElem?_take, if_pos (Nat.mod_lt k (by decide : 0 < 16)), List.getElem?_drop] at h1
    rw [Nat.div_add_mod, List.getElem?_set_self hk, List.getElem?_eq_getElem hk, Option.some.injEq] at h1
    apply hb
    rw [List.getD_eq_getElem?_getD, List.getElem?_eq_getElem hk]
    exact h1
  · intro h
    apply List.ext_getElem?
    intro j
    simp only [List.getElem?_take, List.getElem?_drop]
    split
    · rw [List.getElem?_set_ne (by omega)]
    · rfl
end Go.Proofs.Ytkfggilildiflab

namespace Go.Proofs.Ytkfggilildiflab
open Go.ChangeShapes Go.WideShapes Go.ChangeAt Go.RowKit
/-- A block doubled so many times. -/
def dblIt (x : List UInt8) : Nat → List UInt8
  | 0 => x
  | j + 1 => dblB (dblIt x j)
theorem dblIt_zero (x : List UInt8) : dblIt x 0 = x := rfl
theorem dblIt_succ (x : List UInt8) (j : Nat) : dblIt x (j + 1) = dblB (dblIt x j) := rfl
theorem dblIt_len {x : List UInt8} (h : x.length = 16) : ∀ j, (dblIt x j).length = 16
  | 0 => h
  | _ + 1 => dblB_len _
/-- The tweak of block j of a sector. -/
def tweakV (key : List UInt8) (n j : Nat) : List UInt8 := dblIt (sealV key (leB n 8 ++ zs 8)) j
theorem tweakV_zero (key : List UInt8) (n : Nat) : tweakV key n 0 = sealV key (leB n 8 ++ zs 8) := rfl
theorem tweakV_succ (key : List UInt8) (n j : Nat) : tweakV key n (j + 1) = dblB (tweakV key n j) := rfl
theorem tweakV_it (key : List UInt8) (n j : Nat) : tweakV key n j = dblIt (tweakV key n 0) j := rfl
theorem num_len (n : Nat) : (leB n 8 ++ zs 8).length = 16 := by rw [List.length_append, leB_len, zs_len]
theorem tweakV_len {key : List UInt8} (h : key.length = 16 ∨ key.length = 32) (n j : Nat) : (tweakV key n j).length = 16 := dblIt_len (sealV_len h (num_len n)) j
/-- A block hidden, or shown, with a tweak. -/
def hideB (key t x : List UInt8) : List UInt8 := xorL (sealV key (xorL x t)) t
def showB (key t x : List UInt8) : List UInt8 := xorL (openV key (xorL x t)) t
theorem hideB_len {key t x : List UInt8} (h : key.length = 16 ∨ key.length = 32) (ht : t.length = 16) (hx : x.length = 16) : (hideB key t x).length = 16 := xorL_len _ _ 16 (sealV_len h (xorL_len _ _ 16 hx ht)) ht
theorem showB_len {key t x : List UInt8} (h : key.length = 16 ∨ key.length = 32) (ht : t.length = 16) (hx : x.length = 16) : (showB key t x).length = 16 := xorL_len _ _ 16 (openV_len h (xorL_len _ _ 16 hx ht)) ht
theorem open_seal {key x : List UInt8} (h : key.length = 16 ∨ key.length = 32) (hx : x.length = 16) : openV key (sealV key x) = x := dec_enc_all (rkeys_16 h) hx
theorem seal_open {key x : List UInt8} (h : key.length = 16 ∨ key.length = 32) (hx : x.length = 16) : sealV key (openV key x) = x := enc_dec_all (rkeys_16 h) hx
theorem show_hide {key t x : List UInt8} (h : key.length = 16 ∨ key.length = 32) (ht : t.length = 16) (hx : x.length = 16) : showB key t (hideB key t x) = x := by
  unfold showB hideB
  rw [xorL_twice (by rw [sealV_len h (xorL_len _ _ 16 hx ht), ht]), open_seal h (xorL_len _ _ 16 hx ht), xorL_twice (by rw [hx, ht])]
theorem hide_show {key t x : List UInt8} (h : key.length = 16 ∨ key.length = 32) (ht : t.length = 16) (hx : x.length = 16) : hideB key t (showB key t x) = x := by
  unfold showB hideB
  rw [xorL_twice (by rw [openV_len h (xorL_len _ _ 16 hx ht), ht]), seal_open h (xorL_len _ _ 16 hx ht), xorL_twice (by rw [hx, ht])]
/-- A text hidden, or shown: the key's halves. -/
def hideV (key : List UInt8) (n : Nat) (l : List UInt8) : List UInt8 := turnL (hideB (key.take (key.length / 2))) (tweakV (key.drop (key.length / 2)) n) false l
def showV (key : List UInt8) (n : Nat) (l : List UInt8) : List UInt8 := turnL (showB (key.take (key.length / 2))) (tweakV (key.drop (key.length / 2)) n) true l
theorem halves_len {key : List UInt8} (h : key.length = 32 ∨ key.length = 64) : ((key.take (key.length / 2)).length = 16 ∨ (key.take (key.length / 2)).length = 32) ∧ ((key.drop (key.length / 2)).length = 16 ∨ (key.drop (key.length / 2)).length = 32) := by
  simp; omega
theorem hide_wide {key : List UInt8} (h : key.length = 32 ∨ key.length = 64) (n : Nat) : Wide (hideB (key.take (key.length / 2))) (tweakV (key.drop (key.length / 2)) n) := fun j _ hx => hideB_len (halves_len h).1 (tweakV_len (halves_len h).2 n j) hx
theorem show_wide {key : List UInt8} (h : key.length = 32 ∨ key.length = 64) (n : Nat) : Wide (showB (key.take (key.length / 2))) (tweakV (key.drop (key.length / 2)) n) := fun j _ hx => showB_len (halves_len h).1 (tweakV_len (halves_len h).2 n j) hx
theorem hideV_len {key : List UInt8} (h : key.length = 32 ∨ key.length = 64) (n : Nat) {l : List UInt8} (hl : 16 ≤ l.length) : (hideV key n l).length = l.length := turnL_len (hide_wide h n) false hl
theorem showV_len {key : List UInt8} (h : key.length = 32 ∨ key.length = 64) (n : Nat) {l : List UInt8} (hl : 16 ≤ l.length) : (showV key n l).length = l.length := turnL_len (show_wide h n) true hl
theorem showV_hideV {key : List UInt8} (h : key.length = 32 ∨ key.length = 64) (n : Nat) {l : List UInt8} (hl : 16 ≤ l.length) : showV key n (hideV key n l) = l :=
  turnL_back (hide_wide h n) (fun j _ hx => show_hide (halves_len h).1 (tweakV_len (halves_len h).2 n j) hx) false hl
theorem hideV_showV {key : List UInt8} (h : key.length = 32 ∨ key.length = 64) (n : Nat) {l : List UInt8} (hl : 16 ≤ l.length) : hideV key n (showV key n l) = l :=
  turnL_back (show_wide h n) (fun j _ hx => hide_show (halves_len h).1 (tweakV_len (halves_len h).2 n j) hx) true hl
/-- The fixed fact ahead of all these laws. -/
theorem alive_is : (hideV (zs 32) 0 (zs 32)).getD 0 0 = 0x91 ∧ (hideV (zs 32) 0 (zs 32)).getD 31 0 = 0x2e := by decide +kernel
attribute [irreducible] dblIt tweakV hideB showB hideV showV
end Go.Proofs.Ytkfggilildiflab

namespace Go.Proofs.Ytkfggilildiflab
open Go.ChangeShapes Go.WideShapes Go.ChangeAt Go.RowKit
attribute [local irreducible] xorL sboxL subB sealV openV
/-- A whole number as a number without a sign. -/
def u64N (n : Int) : Nat := (n % 18446744073709551616).toNat
theorem u64N_is (n : Int) : IntKind.u64.wrap n = (u64N n : Int) := by rw [IntKind.wrap_u64]; unfold u64N; omega
theorem u64N_lt (n : Int) : u64N n < 18446744073709551616 := by unfold u64N; omega
theorem u64N_zero : u64N 0 = 0 := by unfold u64N; rfl
attribute [irreducible] u64N
theorem num_ovw (N : Nat) : ovw (bvs (zs 16)) 0 (leB N 8) = bvs (leB N 8 ++ zs 8) := by
  rw [ovw_bvs, leB_len, List.take_zero, List.nil_append]
  congr 2
  unfold zs
  rfl
theorem refSeal_any (key x : List UInt8) (_h : key.length = 16 ∨ key.length = 32) (hx : x.length = 16) (hm : key.length ≤ 100000) (v : Value) (w : World) (hr : RowsAt w 16 v (rkeys key)) :
    Calls Try.prog 84 #[v, .agg (bvs x)] w fun e w' => e = .returned (.agg (bvs (sealV key x))) ∧ Below w.heap.size w w' := by
  unfold sealV
  exact refEncrypt_any (rkeys key) x hx v w (keysAt_rows hr) (by rw [rkeys_len]; omega)
end Go.Proofs.Ytkfggilildiflab

namespace Go.Proofs.Ytkfggilildiflab
open Go.ChangeShapes Go.WideShapes Go.ChangeAt Go.RowKit
theorem wrap_succ (k : Nat) : wrap64 (wrap64 (k : Int) + 1) = wrap64 ((k + 1 : Nat) : Int) := by unfold wrap64; omega
theorem Rd.newRow {L0 L : List (Nat × Obj)} {W W1 : World} (h : Rd L0 W L W1) {b : Nat} (hb : W.heap.size ≤ b) (hn : b ∉ L.map (·.1)) (cs : Array Value) : Rd L0 W L (W1.setRow b cs) := by
  refine ⟨⟨fun x hx => ?_, h.holds.2⟩, ⟨h.kept.os, h.kept.tape, h.kept.output, by have := h.kept.size; simpa using this, fun k hk hn2 => ?_⟩, h.fresh⟩
  · refine (setRow_other W1 b x.1 cs (fun e => hn (e ▸ List.mem_map.2 ⟨x, hx, rfl⟩))).trans (h.holds.1 x hx)
  · exact (setRow_other W1 b k cs (by omega)).trans (h.kept.block k hk hn2)
theorem Rd.grow {L0 L : List (Nat × Obj)} {W W1 : World} (h : Rd L0 W L W1) (g : Laid) : Rd L0 W L (Go.Proofs.Ytkfggilildiflab.grow W1 g) := h.trans (.call h.holds (grow_below W1 g))
theorem Rd.drewN {L0 L : List (Nat × Obj)} {W W1 : World} (h : Rd L0 W L W1) (n : Nat) : Rd L0 W L (W1.drewN n) := h.trans (.call h.holds ⟨rfl, rfl, rfl, Nat.le_refl _, fun _ _ => rfl⟩)
theorem Rd.skip {L0 L : List (Nat × Obj)} {W W1 : World} (h : Rd L0 W L W1) (o : Obj) : Rd L0 W L (W1.alloc o) := h.trans (.call h.holds ((Below.refl _ _).alloc (Nat.le_refl _) _))
theorem Holds.fresh {W : World} {L : List (Nat × Obj)} (h : Holds W L) {b : Nat} (hb : W.heap.size ≤ b) : b ∉ L.map (·.1) := fun hm => by
  obtain ⟨x, hx, he⟩ := List.mem_map.1 hm
  have := h.lt hx
  omega
end Go.Proofs.Ytkfggilildiflab
