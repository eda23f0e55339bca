/-
  Laws that the claims of this seat use, of several texts in one: Append2, EngB, TyJ. No condition of their own.
-/
import Derived.Laws.Tables
import Derived.Test.YtcjncidahjneaaaJC0

namespace Go.Proofs.Ytcjncidahjneaaa
open Go.ChangeShapes Go.WideShapes Go.ChangeAt Go.RowKit
attribute [local irreducible] wpList wpListIn
section
variable {P : Program} {ops : Array Oper} {W : List Oper → Act → World → Prop} {o : Oper} {rest : List Oper} {a : Act} {w : World} {v : Value} {B : Nat} {H : World → List Blk → Prop} {L : List Blk}
theorem s_appendR {x y : Operand} {t e size bytes b n c m c2 i nm : Nat} {q : Addr} {cs : Array Value} {olds spare xs : List Value} (hs : Stp P ops W) (hH : Own B H) (hS : H w L) (hw : Region.wanted o (yielded ops a.tmps) = true)
    (hop : o.op = .call { callee := .builtin .append, args := #[x, y], argTypes := #[t, t] }) (hx : evO a x = some (.slice (some ⟨b, 0, none⟩) n c)) (hy : evO a y = some (.slice (some q) m c2)) (hT : SlT P t e size bytes)
    (hi : L[i]? = some (b, cs, e)) (hcs : cs.toList = olds ++ spare) (ho : olds.length = n * size) (hsp : spare.length = (c - n) * size) (hsrc : ∀ j v, xs[j]? = some v → w.cell? (q.add j) = some v) (hxs : xs.length = m * size) (hone : ∀ v ∈ xs, v.oneCell' = true)
    (hroom : n + m ≤ c) (hnm : n + m = nm)
    (hk : ∀ w', H w' (L.set i (b, (olds ++ xs ++ spare.drop xs.length).toArray, e)) → W rest (a.put o.dst (.slice (some ⟨b, 0, none⟩) nm c)) w') : W (o :: rest) a w := by
  subst hnm
  obtain ⟨ht, inf, z, hie, hz, hsz, hby, hzs, hpos⟩ := elemB_iff hT.is
  have hd : Bp o = false := by unfold Bp; rw [hop]
  have hb := hH.blk i hS hi
  have hcsz : cs.size = olds.length + spare.length := by rw [← Array.length_toList, hcs, List.length_append]
  have hfit : n * inf.size + xs.length ≤ cs.size := by
    rw [hcsz, hsz, ho, hsp, hxs]
    have : m * size ≤ (c - n) * size := Nat.mul_le_mul_right _ (by omega)
    omega
  have hr := run_append_room (P := P) w t o.type e inf ht hie b n c cs hb q m c2 xs (by rw [hsz]; exact hxs) hsrc hone hroom hfit
  refine hs.go hw hd (run_app hop hx hy hr) ?_
  have hrow : (cs.toList.take (n * inf.size) ++ xs ++ cs.toList.drop (n * inf.size + xs.length)).toArray = (olds ++ xs ++ spare.drop xs.length).toArray := by
    rw [hcs, hsz, ← ho, List.take_left, List.drop_append, Nat.add_sub_cancel_left, List.drop_of_length_le (by omega), List.nil_append]
  rw [hrow]
  exact hk _ (hH.setRow i (olds ++ xs ++ spare.drop xs.length).toArray hS hi)
theorem s_appendG {x y : Operand} {t e size bytes b n c m c2 i nm : Nat} {q : Addr} {cs : Array Value} {olds spare xs : List Value} (hs : Stp P ops W) (hH : Own B H) (hS : H w L) (hw : Region.wanted o (yielded ops a.tmps) = true)
    (hop : o.op = .call { callee := .builtin .append, args := #[x, y], argTypes := #[t, t] }) (hx : evO a x = some (.slice (some ⟨b, 0, none⟩) n c)) (hy : evO a y = some (.slice (some q) m c2)) (hT : SlT P t e size bytes)
    (hi : L[i]? = some (b, cs, e)) (hcs : cs.toList = olds ++ spare) (ho : olds.length = n * size) (_hnc : n ≤ c) (hsrc : ∀ j v, xs[j]? = some v → w.cell? (q.add j) = some v) (hxs : xs.length = m * size)
    (hmax : n + m ≤ maxLen ∧ (n + m) * bytes ≤ 140737488355328) (hroom : c < n + m) (hnm : n + m = nm)
    (hk : ∀ (b' c' : Nat) (spare' : List Value) (w' : World), nm ≤ c' → c' ≤ maxLen → spare'.length = (c' - nm) * size → H w' ((b', (olds ++ xs ++ spare').toArray, e) :: L) → W rest (a.put o.dst (.slice (some ⟨b', 0, none⟩) nm c')) w') : W (o :: rest) a w := by
  subst hnm
  obtain ⟨ht, inf, z, hie, hz, hsz, hby, hzs, hpos⟩ := elemB_iff hT.is
  have hd : Bp o = false := by unfold Bp; rw [hop]
  have hb := hH.blk i hS hi
  have hr := run_append_grow (P := P) (w := w) t o.type e inf z ht hie hz ⟨b, 0, none⟩ n c olds (by rw [hsz]; exact ho) (fun j u hu => by
    rw [addr_add, Nat.zero_add]
    refine (cell_of_row w b j cs e _ hb).trans ?_
    rw [← Array.getElem?_toList, hcs, List.getElem?_append_left (List.getElem?_eq_some_iff.1 hu).1, hu]) q m c2 xs (by rw [hsz]; exact hxs) hsrc (by omega) (by have := hmax.1; unfold maxLen at this; omega) (growslice_fits (by omega) (by rw [hby]; exact hmax.2))
  have hcap := grownCap_ge w (n + m) c e
  have hcm := grownCap_le_maxLen w (n + m) c e hmax.1
  refine hs.go hw hd (run_app hop hx hy hr) ?_
  generalize grownCap w (n + m) c e = c' at *
  have hcell : olds.toArray ++ xs.toArray ++ Builtin.zeroCells z.cells (c' - (n + m)) = (olds ++ xs ++ (Builtin.zeroCells z.cells (c' - (n + m))).toList).toArray := by
    apply Array.ext'; simp
  rw [hcell]
  have hS1 : H w.drew L := hH.call hS ⟨rfl, rfl, rfl, Nat.le_refl _, fun _ _ => rfl⟩
  have h2 := hH.alloc (olds ++ xs ++ (Builtin.zeroCells z.cells (c' - (n + m))).toList).toArray e hS1
  refine hk _ c' _ _ hcap hcm ?_ h2
  rw [Array.length_toList, size_zeroCells, hzs]
theorem r_appendN {x y : Operand} {t e size bytes n c : Nat} {p : Addr} (hop : o.op = .call { callee := .builtin .append, args := #[x, y], argTypes := #[t, t] }) (hx : evO a x = some (.slice (some p) n c)) (hy : evO a y = some (.slice none 0 0)) (hT : SlT P t e size bytes) (hnc : n ≤ c) : (execOp a.eval o).run P w = .ok (.value (.slice (some p) n c)) w := by
  obtain ⟨ht, inf, z, hie, hz, hsz, hby, hzs, hpos⟩ := elemB_iff hT.is
  exact run_app hop hx hy (by simp [Builtin.append_, run_underlying ht, sizeOf, typeInfo, hie, Builtin.lenOf, Builtin.firstCells, hnc, storeCells])
theorem r_convB {s t : TypeId} {x : Operand} {k ks : IntKind} {n : Int} (N : Nat) (hop : o.op = .convert s t x) (hx : evO a x = some (.int k n)) (hs : IntT P s ks) (ht : IntT P t .u8) (hn : n = (N : Int)) : (execOp a.eval o).run P w = .ok (.value (.int .u8 (((UInt8.ofNat N).toNat : Nat) : Int))) w := by
  have e : IntKind.u8.wrap n = (((UInt8.ofNat N).toNat : Nat) : Int) := by
    subst hn
    have h2 : (UInt8.ofNat N).toNat = N % 256 := by simp
    rw [h2, IntKind.wrap_u8]; omega
  unfold execOp; rw [hop]
  simp only [Bb hx, convert, Sem.run_bind, run_underlying hs.is, run_underlying ht.is, Result.andThen_ok, Conv.intToInt, e]
  rfl
end
set_option maxRecDepth 100000 in
set_option maxHeartbeats 1000000 in
theorem copy_x (l : List UInt8) (v : Value) (w0 : World) (hv : BytesAt w0 v l) (hn : l.length ≤ 140737488351232) : Calls Try.prog 18 #[v] w0 fun e w' =>
    ∃ g, e = .returned (.slice (some ⟨g, 0, none⟩) l.length (l.length + 2)) ∧ w0.heap.size ≤ g ∧ blk w' g = some (.cells (bvs (l ++ [165, 90])) 5 (0, 0)) ∧ Below w0.heap.size w0 w' := by
  obtain ⟨p, c, rfl, hc, hp0, hcell⟩ := id hv
  have hS := St.start w0
  go_enter Try.func18, Try.ntmps18
  repeat' (first | ((with_reducible refine Ac ?_); first | ((first | refine Ai Aa ?_ | refine Al Aa ?_ | refine Af Aa ?_ | refine Be Aa ?_ | refine Bd Aa ?_ | refine Bh Aa ?_ | refine Bc Aa ?_ | refine Au Aa ?_) <;> refine Ad ?_) | ((first | refine Ao Aa Ab hS ?_ | refine As Aa Ab hS ?_ | refine g_make Aa Ab hS ?_); clear hS; intro b w hS; refine Ad ?_)) | ((fail_if_success (with_reducible refine Ac ?_)); first | go_step | go_step3 | rw [Exit.noGoto_normal] | rw [Exit.noGoto_ret] | rw [Exit.noGoto_exit]))
  rcases p with _ | q
  · have hc0 := hp0 rfl
    have hl : l = [] := List.eq_nil_of_length_eq_zero (by omega)
    subst hl
    subst hc0
    refine Stp.go Aa (by rfl) (by rfl) (r_appendN (by rfl) (by rfl) (by rfl) (by infer_instance) (by omega)) ?_
    refine Ad ?_
    repeat' (first | ((with_reducible refine Ac ?_); first | ((first | refine Ai Aa ?_ | refine Al Aa ?_ | refine Af Aa ?_ | refine Be Aa ?_ | refine Bd Aa ?_ | refine Bh Aa ?_ | refine Bc Aa ?_ | refine Au Aa ?_) <;> refine Ad ?_) | ((first | refine Ao Aa Ab hS ?_ | refine As Aa Ab hS ?_ | refine g_make Aa Ab hS ?_); clear hS; intro b w hS; refine Ad ?_)) | ((fail_if_success (with_reducible refine Ac ?_)); first | go_step | go_step3 | rw [Exit.noGoto_normal] | rw [Exit.noGoto_ret] | rw [Exit.noGoto_exit]))
    refine s_appendR (i := 1) Aa Ab hS (by rfl) (by rfl) (by rfl) (by rfl) (by infer_instance) (by exact at_ 1 rfl) (olds := []) (spare := (zs 2).map bv) (by rfl) (by rfl) (by simp [zs_len]) (xs := [.int .u8 165, .int .u8 90]) (src_blk (hS.blk 0 rfl) (fun j v h => by rw [Nat.zero_add]; exact h)) (by rfl) (by intro v hv; simp only [List.mem_cons, List.not_mem_nil, or_false] at hv; rcases hv with rfl | rfl <;> rfl) (by simp) rfl ?_
    clear hS
    intro w hS
    refine Ad ?_
    repeat' (first | ((with_reducible refine Ac ?_); first | ((first | refine Ai Aa ?_ | refine Al Aa ?_ | refine Af Aa ?_ | refine Be Aa ?_ | refine Bd Aa ?_ | refine Bh Aa ?_ | refine Bc Aa ?_ | refine Au Aa ?_) <;> refine Ad ?_) | ((first | refine Ao Aa Ab hS ?_ | refine As Aa Ab hS ?_ | refine g_make Aa Ab hS ?_); clear hS; intro b w hS; refine Ad ?_)) | ((fail_if_success (with_reducible refine Ac ?_)); first | go_step | go_step3 | rw [Exit.noGoto_normal] | rw [Exit.noGoto_ret] | rw [Exit.noGoto_exit]))
    go_ret
    refine ⟨_, rfl, hS.low 1 rfl, ?_, hS.below⟩
    have hb := hS.blk 1 rfl
    have e3 : ([] ++ [Value.int .u8 165, Value.int .u8 90] ++ List.drop [Value.int .u8 165, Value.int .u8 90].length ((zs 2).map bv)).toArray = bvs ([] ++ [165, 90]) := by
      unfold bvs zs
      simp
      exact ⟨rfl, rfl⟩
    rw [← e3]
    exact hb
  · refine s_appendR (i := 0) Aa Ab hS (by rfl) (by rfl) (by rfl) (by rfl) (by infer_instance) (by exact at_ 0 rfl) (olds := []) (spare := (zs (l.length + 2)).map bv) (by rfl) (by rfl) (by rw [List.length_map, zs_len]; omega) (hv.below hS.below).srcs (by rw [List.length_map, Nat.mul_one]) (bv_one l) (by omega) (by (try conv => lhs; simp only [Int.toNat_natCast, Int.toNat_zero, Int.toNat_one, Int.reduceToNat, Int.toNat_natCast_add_one, Int.ofNat_eq_natCast, Nat.mul_one, Nat.one_mul, Nat.zero_add, Nat.add_zero, Nat.sub_zero, Nat.zero_mul, Nat.reduceAdd, Nat.reduceMul, Nat.reduceSub]); first | done | rfl) ?_
    clear hS
    intro w hS
    refine Ad ?_
    have e1 : List.drop (l.map bv).length ((zs (l.length + 2)).map bv) = (zs 2).map bv := by
      rw [List.length_map, ← List.map_drop]
      congr 1
      unfold zs
      rw [List.drop_replicate, Nat.add_sub_cancel_left]
    rw [e1] at hS
    have hS : St w0 w [(b, (l.map bv ++ (zs 2).map bv).toArray, 5)] := hS
    repeat' (first | ((with_reducible refine Ac ?_); first | ((first | refine Ai Aa ?_ | refine Al Aa ?_ | refine Af Aa ?_ | refine Be Aa ?_ | refine Bd Aa ?_ | refine Bh Aa ?_ | refine Bc Aa ?_ | refine Au Aa ?_) <;> refine Ad ?_) | ((first | refine Ao Aa Ab hS ?_ | refine As Aa Ab hS ?_ | refine g_make Aa Ab hS ?_); clear hS; intro b w hS; refine Ad ?_)) | ((fail_if_success (with_reducible refine Ac ?_)); first | go_step | go_step3 | rw [Exit.noGoto_normal] | rw [Exit.noGoto_ret] | rw [Exit.noGoto_exit]))
    refine s_appendR (i := 1) Aa Ab hS (by rfl) (by rfl) (by rfl) (by rfl) (by infer_instance) (by exact at_ 1 rfl) (olds := l.map bv) (spare := (zs 2).map bv) (by rfl) (by rw [List.length_map, Nat.mul_one]) (by rw [List.length_map, zs_len]; omega) (xs := [.int .u8 165, .int .u8 90]) (src_blk (hS.blk 0 rfl) (fun j v h => by rw [Nat.zero_add]; exact h)) (by rfl) (by intro v hv; simp only [List.mem_cons, List.not_mem_nil, or_false] at hv; rcases hv with rfl | rfl <;> rfl) (by omega) rfl ?_
    clear hS
    intro w hS
    refine Ad ?_
    repeat' (first | ((with_reducible refine Ac ?_); first | ((first | refine Ai Aa ?_ | refine Al Aa ?_ | refine Af Aa ?_ | refine Be Aa ?_ | refine Bd Aa ?_ | refine Bh Aa ?_ | refine Bc Aa ?_ | refine Au Aa ?_) <;> refine Ad ?_) | ((first | refine Ao Aa Ab hS ?_ | refine As Aa Ab hS ?_ | refine g_make Aa Ab hS ?_); clear hS; intro b w hS; refine Ad ?_)) | ((fail_if_success (with_reducible refine Ac ?_)); first | go_step | go_step3 | rw [Exit.noGoto_normal] | rw [Exit.noGoto_ret] | rw [Exit.noGoto_exit]))
    go_ret
    refine ⟨_, rfl, hS.low 1 rfl, ?_, hS.below⟩
    have hb := hS.blk 1 rfl
    have e3 : (l.map bv ++ [Value.int .u8 165, Value.int .u8 90] ++ List.drop [Value.int .u8 165, Value.int .u8 90].length ((zs 2).map bv)).toArray = bvs (l ++ [165, 90]) := by
      unfold bvs zs
      simp
      exact ⟨rfl, rfl⟩
    rw [← e3]
    exact hb
/-- The bytes of a pattern. -/
def pb (k j : Nat) : UInt8 := UInt8.ofNat (29 * k + 5 * j + 3)
theorem r_convP {P : Program} {o : Oper} {a : Act} {w : World} {s t : TypeId} {x : Operand} {k ks : IntKind} {n : Int} (K J : Nat) (hop : o.op = .convert s t x) (hx : evO a x = some (.int k n)) (hs : IntT P s ks) (ht : IntT P t .u8) (hn : n = ((29 * K + 5 * J + 3 : Nat) : Int)) : (execOp a.eval o).run P w = .ok (.value (.int .u8 (((pb K J).toNat : Nat) : Int))) w := r_convB _ hop hx hs ht hn
def pat (k n : Nat) : List UInt8 := (List.range n).map (pb k)
theorem pat_len (k n : Nat) : (pat k n).length = n := by simp [pat]
theorem pat_zero (k : Nat) : pat k 0 = [] := rfl
theorem pat_succ (k n : Nat) : pat k (n + 1) = pat k n ++ [pb k n] := by simp [pat, List.range_succ]
theorem pat_get (k n j : Nat) (h : j < n) : (pat k n).getD j 0 = pb k j := by
  rw [List.getD_eq_getElem?_getD, List.getElem?_eq_getElem (by rw [pat_len]; exact h)]
  simp [pat]
theorem pat_mark (k j : Nat) (d : Value) (D : List Value) : ((pat k j).map bv ++ d :: D).set j (.int .u8 (((pb k j).toNat : Nat) : Int)) = (pat k (j + 1)).map bv ++ D := by
  rw [pat_succ, List.map_append, List.set_append_right _ _ (by rw [List.length_map, pat_len]; omega), List.length_map, pat_len, Nat.sub_self, List.set_cons_zero, List.append_assoc]
  rfl
def slLen : Value → Nat
  | .slice _ n _ => n
  | _ => 0
attribute [irreducible] pat pb
end Go.Proofs.Ytcjncidahjneaaa

namespace Go.Proofs.Ytcjncidahjneaaa
open Go.RowKit
attribute [local irreducible] wpList wpListIn
/-- Of a struct type: where its fields lie and how many cells they have, and its noughts. -/
def stT (P : Program) (t : TypeId) : Option (List (Nat × Nat) × Array Value) := match P.info? t, P.underlying t with
  | some it, some (.struct fields) => (match it.zero, fields.toList.mapM (fun f => (P.info? f.type).map fun i => (f.offset, i.size)) with
    | some z, some places => some (places, z.cells)
    | _, _ => none)
  | _, _ => none
class StT (P : Program) (t : TypeId) (pl : outParam (List (Nat × Nat))) (z : outParam (List Value)) : Prop where
  is : stT P t = some (pl, z.toArray)
/-- Of an array type: how many cells its elements have, and its noughts. -/
def atT (P : Program) (t : TypeId) : Option (Nat × Array Value) := match P.info? t, P.underlying t with
  | some it, some (.array _ e) => (match it.zero, P.info? e with
    | some z, some ie => some (ie.size, z.cells)
    | _, _ => none)
  | _, _ => none
class AtT (P : Program) (t : TypeId) (n : outParam Nat) (z : outParam (List Value)) : Prop where
  is : atT P t = some (n, z.toArray)
def evp (a : Act) : List (Nat × Operand) → Option (List (Nat × Value))
  | [] => some []
  | (i, x) :: l => match evO a x, evp a l with
    | some v, some vs => some ((i, v) :: vs)
    | _, _ => none
theorem evp_eval {a : Act} : ∀ {l : List (Nat × Operand)} {vs : List (Nat × Value)}, evp a l = some vs → l.map (fun y => (y.1, a.eval y.2)) = vs
  | [], vs, h => by simp only [evp, Option.some.injEq] at h; exact h
  | (i, x) :: l, vs, h => by
    simp only [evp] at h
    split at h
    · rename_i v vs' h1 h2
      simp only [Option.some.injEq] at h
      subst h
      simp only [List.map_cons, Bb h1, evp_eval h2]
    · cases h
section
variable {P : Program} {ops : Array Oper} {W : List Oper → Act → World → Prop} {o : Oper} {rest : List Oper} {a : Act} {w : World} {v : Value} {C : World → Prop} {B : Nat} {H : World → List Blk → Prop} {L : List Blk}
theorem built_st {t : TypeId} {pl : List (Nat × Nat)} {z : List Value} (hT : StT P t pl z) {vs : List (Nat × Value)} {cs : Array Value} (hc : Instr.fill (pl.toArray[·]?) z.toArray vs = some cs) : P.built t vs = some cs := by
  have h := hT.is
  unfold stT at h
  unfold Program.built
  split at h
  · next it fields h1 h2 =>
    split at h
    · next zz places h3 h4 =>
      simp only [Option.some.injEq, Prod.mk.injEq] at h
      obtain ⟨rfl, h5⟩ := h
      simp only [h1, h2, h3, h4, h5]
      exact hc
    · cases h
  · cases h
theorem built_at {t : TypeId} {n : Nat} {z : List Value} (hT : AtT P t n z) {vs : List (Nat × Value)} {cs : Array Value} (hc : Instr.fill (fun i => some (i * n, n)) z.toArray vs = some cs) : P.built t vs = some cs := by
  have h := hT.is
  unfold atT at h
  unfold Program.built
  split at h
  · next it m e h1 h2 =>
    split at h
    · next zz ie h3 h4 =>
      simp only [Option.some.injEq, Prod.mk.injEq] at h
      obtain ⟨rfl, h5⟩ := h
      simp only [h1, h2, h3, h4, h5]
      exact hc
    · cases h
  · cases h
/-- What a literal's cells are, part by part. -/
inductive FillS (place : Nat → Option (Nat × Nat)) : List Value → List (Nat × Value) → List Value → Prop
  | nil {z : List Value} : FillS place z [] z
  | one {z z' cs : List Value} {i off : Nat} {v : Value} {r : List (Nat × Value)} (hp : place i = some (off, 1)) (hv : v.oneCell' = true) (ho : off < z.length) (hz : z.set off v = z') (hr : FillS place z' r cs) : FillS place z ((i, v) :: r) cs
  | row {z z' cs : List Value} {i off n : Nat} {vs : Array Value} {r : List (Nat × Value)} (hp : place i = some (off, n)) (hv : csz vs = n) (ho : off + n ≤ z.length) (hz : z.take off ++ vs.toList ++ z.drop (off + n) = z') (hr : FillS place z' r cs) : FillS place z ((i, .agg vs) :: r) cs
theorem fold_paste (vs : List Value) : ∀ (off k : Nat) (z : List Value), off + k + vs.length ≤ z.length → (vs.zipIdx k).foldl (fun (cs : Array Value) (x : Value × Nat) => cs.setIfInBounds (off + x.2) x.1) z.toArray = (z.take (off + k) ++ vs ++ z.drop (off + k + vs.length)).toArray := by
  induction vs with
  | nil => intro off k z h; simp
  | cons v vs ih =>
    intro off k z h
    simp only [List.length_cons] at h
    rw [List.zipIdx_cons, List.foldl_cons]
    simp only [List.setIfInBounds_toArray]
    rw [ih off (k + 1) _ (by simp; omega)]
    congr 1
    rw [show off + (k + 1) = off + k + 1 by omega, List.take_set, List.drop_set, if_pos (by omega), List.length_cons, show off + k + 1 + vs.length = off + k + (vs.length + 1) by omega]
    congr 1
    apply List.ext_getElem?
    intro j
    simp only [List.getElem?_append, List.length_set, List.length_take, List.getElem?_set, List.getElem?_take]
    by_cases h1 : j < off + k
    · simp [h1, show j < min (off + k + 1) z.length by omega, show j < min (off + k) z.length by omega, show off + k ≠ j by omega, show j < off + k + 1 by omega]
    · by_cases h2 : j = off + k
      · subst h2
        simp [show off + k < min (off + k + 1) z.length by omega, show min (off + k) z.length = off + k by omega]
      · simp [show min (off + k) z.length = off + k by omega, show min (off + k + 1) z.length = off + k + 1 by omega]
        rw [show j - (off + k) = (j - (off + k + 1)) + 1 by omega, List.getElem?_cons_succ, if_neg (by omega), if_neg (by omega)]
theorem fill_of {place : Nat → Option (Nat × Nat)} {z cs : List Value} {vs : List (Nat × Value)} (h : FillS place z vs cs) : Instr.fill place z.toArray vs = some cs.toArray := by
  induction h with
  | nil => rfl
  | @one z z' cs i off v r hp hv ho hz hr ih =>
    unfold Instr.fill
    rw [hp]
    have hc : v.cells = #[v] := by cases v <;> first | rfl | (simp [Value.oneCell'] at hv)
    simp only [hc]
    rw [if_neg (by simp; omega)]
    subst hz
    rw [← ih]
    congr 1
    simp
  | @row z z' cs i off n ws r hp hv ho hz hr ih =>
    unfold Instr.fill
    rw [hp]
    have hc : (Value.agg ws).cells = ws := rfl
    have hs : ws.size = n := hv
    simp only [hc]
    rw [if_neg (by simp [hs]; omega)]
    subst hz
    rw [← ih]
    congr 1
    have := fold_paste ws.toList off 0 z (by simp [hs]; exact ho)
    rw [← Array.foldl_toList, Array.toList_zipIdx]
    simp only [Nat.add_zero, Array.length_toList, hs] at this ⊢
    exact this
theorem r_built {t : TypeId} {parts : Array (Nat × Operand)} {vs : List (Nat × Value)} {cs : Array Value} (hop : o.op = .build t parts) (hp : evp a parts.toList = some vs) (hb : P.built t vs = some cs) : (execOp a.eval o).run P w = .ok (.value (.agg cs)) w := by
  unfold execOp; rw [hop]
  have e1 : (parts.map fun (i, x) => (i, a.eval x)).toList = vs := by
    rw [Array.toList_map]; exact evp_eval hp
  have hr := Go.run_build (P := P) w t (parts.map fun (i, x) => (i, a.eval x)) cs (by rw [e1]; exact hb)
  simp only [Sem.run_bind, hr, Result.andThen_ok]
  rfl
theorem Cp {t : TypeId} {parts : Array (Nat × Operand)} {vs : List (Nat × Value)} {cs : List Value} {pl : List (Nat × Nat)} {z : List Value} (hStp : Stp P ops W) (hk : W rest (a.put o.dst (.agg cs.toArray)) w) (hop : o.op = .build t parts := by rfl) (hp : evp a parts.toList = some vs := by rfl) (hT : StT P t pl z := by infer_instance) (hc : FillS (pl.toArray[·]?) z vs cs := by first | exact FillS.nil | exact FillS.one (by rfl) (by rfl) (by (try simp only [List.length_append, List.length_set, List.length_cons, List.length_nil]); first | done | decide | omega) (by (try conv => lhs; simp only [List.set_cons_zero, List.set_cons_succ]); first | done | rfl) FillS.nil | exact FillS.one (by rfl) (by rfl) (by (try simp only [List.length_append, List.length_set, List.length_cons, List.length_nil]); first | done | decide | omega) (by (try conv => lhs; simp only [List.set_cons_zero, List.set_cons_succ]); first | done | rfl) (FillS.one (by rfl) (by rfl) (by (try simp only [List.length_append, List.length_set, List.length_cons, List.length_nil]); first | done | decide | omega) (by (try conv => lhs; simp only [List.set_cons_zero, List.set_cons_succ]); first | done | rfl) FillS.nil) | exact FillS.one (by rfl) (by rfl) (by (try simp only [List.length_append, List.length_set, List.length_cons, List.length_nil]); first | done | decide | omega) (by (try conv => lhs; simp only [List.set_cons_zero, List.set_cons_succ]); first | done | rfl) (FillS.one (by rfl) (by rfl) (by (try simp only [List.length_append, List.length_set, List.length_cons, List.length_nil]); first | done | decide | omega) (by (try conv => lhs; simp only [List.set_cons_zero, List.set_cons_succ]); first | done | rfl) (FillS.one (by rfl) (by rfl) (by (try simp only [List.length_append, List.length_set, List.length_cons, List.length_nil]); first | done | decide | omega) (by (try conv => lhs; simp only [List.set_cons_zero, List.set_cons_succ]); first | done | rfl) FillS.nil)) | exact FillS.one (by rfl) (by rfl) (by (try simp only [List.length_append, List.length_set, List.length_cons, List.length_nil]); first | done | decide | omega) (by (try conv => lhs; simp only [List.set_cons_zero, List.set_cons_succ]); first | done | rfl) (FillS.one (by rfl) (by rfl) (by (try simp only [List.length_append, List.length_set, List.length_cons, List.length_nil]); first | done | decide | omega) (by (try conv => lhs; simp only [List.set_cons_zero, List.set_cons_succ]); first | done | rfl) (FillS.one (by rfl) (by rfl) (by (try simp only [List.length_append, List.length_set, List.length_cons, List.length_nil]); first | done | decide | omega) (by (try conv => lhs; simp only [List.set_cons_zero, List.set_cons_succ]); first | done | rfl) (FillS.one (by rfl) (by rfl) (by (try simp only [List.length_append, List.length_set, List.length_cons, List.length_nil]); first | done | decide | omega) (by (try conv => lhs; simp only [List.set_cons_zero, List.set_cons_succ]); first | done | rfl) FillS.nil))) | exact FillS.one (by rfl) (by rfl) (by (try simp only [List.length_append, List.length_set, List.length_cons, List.length_nil]); first | done | decide | omega) (by (try conv => lhs; simp only [List.set_cons_zero, List.set_cons_succ]); first | done | rfl) (FillS.one (by rfl) (by rfl) (by (try simp only [List.length_append, List.length_set, List.length_cons, List.length_nil]); first | done | decide | omega) (by (try conv => lhs; simp only [List.set_cons_zero, List.set_cons_succ]); first | done | rfl) (FillS.one (by rfl) (by rfl) (by (try simp only [List.length_append, List.length_set, List.length_cons, List.length_nil]); first | done | decide | omega) (by (try conv => lhs; simp only [List.set_cons_zero, List.set_cons_succ]); first | done | rfl) (FillS.one (by rfl) (by rfl) (by (try simp only [List.length_append, List.length_set, List.length_cons, List.length_nil]); first | done | decide | omega) (by (try conv => lhs; simp only [List.set_cons_zero, List.set_cons_succ]); first | done | rfl) (FillS.one (by rfl) (by rfl) (by (try simp only [List.length_append, List.length_set, List.length_cons, List.length_nil]); first | done | decide | omega) (by (try conv => lhs; simp only [List.set_cons_zero, List.set_cons_succ]); first | done | rfl) FillS.nil)))) | exact FillS.one (by rfl) (by rfl) (by (try simp only [List.length_append, List.length_set, List.length_cons, List.length_nil]); first | done | decide | omega) (by (try conv => lhs; simp only [List.set_cons_zero, List.set_cons_succ]); first | done | rfl) (FillS.one (by rfl) (by rfl) (by (try simp only [List.length_append, List.length_set, List.length_cons, List.length_nil]); first | done | decide | omega) (by (try conv => lhs; simp only [List.set_cons_zero, List.set_cons_succ]); first | done | rfl) (FillS.one (by rfl) (by rfl) (by (try simp only [List.length_append, List.length_set, List.length_cons, List.length_nil]); first | done | decide | omega) (by (try conv => lhs; simp only [List.set_cons_zero, List.set_cons_succ]); first | done | rfl) (FillS.one (by rfl) (by rfl) (by (try simp only [List.length_append, List.length_set, List.length_cons, List.length_nil]); first | done | decide | omega) (by (try conv => lhs; simp only [List.set_cons_zero, List.set_cons_succ]); first | done | rfl) (FillS.one (by rfl) (by rfl) (by (try simp only [List.length_append, List.length_set, List.length_cons, List.length_nil]); first | done | decide | omega) (by (try conv => lhs; simp only [List.set_cons_zero, List.set_cons_succ]); first | done | rfl) (FillS.one (by rfl) (by rfl) (by (try simp only [List.length_append, List.length_set, List.length_cons, List.length_nil]); first | done | decide | omega) (by (try conv => lhs; simp only [List.set_cons_zero, List.set_cons_succ]); first | done | rfl) FillS.nil)))))) (hw : Region.wanted o (yielded ops a.tmps) = true := by rfl) (hd : Bp o = false := by rfl) : W (o :: rest) a w := hStp.go hw hd (r_built hop hp (built_st hT (fill_of hc))) hk
theorem Ar {t : TypeId} {parts : Array (Nat × Operand)} {vs : List (Nat × Value)} {cs : List Value} {n : Nat} {z : List Value} (hStp : Stp P ops W) (hk : W rest (a.put o.dst (.agg cs.toArray)) w) (hop : o.op = .build t parts := by rfl) (hp : evp a parts.toList = some vs := by rfl) (hT : AtT P t n z := by infer_instance) (hc : FillS (fun i => some (i * n, n)) z vs cs := by first | exact FillS.nil | exact FillS.one (by rfl) (by rfl) (by (try simp only [List.length_append, List.length_set, List.length_cons, List.length_nil]); first | done | decide | omega) (by (try conv => lhs; simp only [List.set_cons_zero, List.set_cons_succ]); first | done | rfl) FillS.nil | exact FillS.one (by rfl) (by rfl) (by (try simp only [List.length_append, List.length_set, List.length_cons, List.length_nil]); first | done | decide | omega) (by (try conv => lhs; simp only [List.set_cons_zero, List.set_cons_succ]); first | done | rfl) (FillS.one (by rfl) (by rfl) (by (try simp only [List.length_append, List.length_set, List.length_cons, List.length_nil]); first | done | decide | omega) (by (try conv => lhs; simp only [List.set_cons_zero, List.set_cons_succ]); first | done | rfl) FillS.nil) | exact FillS.one (by rfl) (by rfl) (by (try simp only [List.length_append, List.length_set, List.length_cons, List.length_nil]); first | done | decide | omega) (by (try conv => lhs; simp only [List.set_cons_zero, List.set_cons_succ]); first | done | rfl) (FillS.one (by rfl) (by rfl) (by (try simp only [List.length_append, List.length_set, List.length_cons, List.length_nil]); first | done | decide | omega) (by (try conv => lhs; simp only [List.set_cons_zero, List.set_cons_succ]); first | done | rfl) (FillS.one (by rfl) (by rfl) (by (try simp only [List.length_append, List.length_set, List.length_cons, List.length_nil]); first | done | decide | omega) (by (try conv => lhs; simp only [List.set_cons_zero, List.set_cons_succ]); first | done | rfl) FillS.nil)) | exact FillS.one (by rfl) (by rfl) (by (try simp only [List.length_append, List.length_set, List.length_cons, List.length_nil]); first | done | decide | omega) (by (try conv => lhs; simp only [List.set_cons_zero, List.set_cons_succ]); first | done | rfl) (FillS.one (by rfl) (by rfl) (by (try simp only [List.length_append, List.length_set, List.length_cons, List.length_nil]); first | done | decide | omega) (by (try conv => lhs; simp only [List.set_cons_zero, List.set_cons_succ]); first | done | rfl) (FillS.one (by rfl) (by rfl) (by (try simp only [List.length_append, List.length_set, List.length_cons, List.length_nil]); first | done | decide | omega) (by (try conv => lhs; simp only [List.set_cons_zero, List.set_cons_succ]); first | done | rfl) (FillS.one (by rfl) (by rfl) (by (try simp only [List.length_append, List.length_set, List.length_cons, List.length_nil]); first | done | decide | omega) (by (try conv => lhs; simp only [List.set_cons_zero, List.set_cons_succ]); first | done | rfl) FillS.nil))) | exact FillS.one (by rfl) (by rfl) (by (try simp only [List.length_append, List.length_set, List.length_cons, List.length_nil]); first | done | decide | omega) (by (try conv => lhs; simp only [List.set_cons_zero, List.set_cons_succ]); first | done | rfl) (FillS.one (by rfl) (by rfl) (by (try simp only [List.length_append, List.length_set, List.length_cons, List.length_nil]); first | done | decide | omega) (by (try conv => lhs; simp only [List.set_cons_zero, List.set_cons_succ]); first | done | rfl) (FillS.one (by rfl) (by rfl) (by (try simp only [List.length_append, List.length_set, List.length_cons, List.length_nil]); first | done | decide | omega) (by (try conv => lhs; simp only [List.set_cons_zero, List.set_cons_succ]); first | done | rfl) (FillS.one (by rfl) (by rfl) (by (try simp only [List.length_append, List.length_set, List.length_cons, List.length_nil]); first | done | decide | omega) (by (try conv => lhs; simp only [List.set_cons_zero, List.set_cons_succ]); first | done | rfl) (FillS.one (by rfl) (by rfl) (by (try simp only [List.length_append, List.length_set, List.length_cons, List.length_nil]); first | done | decide | omega) (by (try conv => lhs; simp only [List.set_cons_zero, List.set_cons_succ]); first | done | rfl) FillS.nil)))) | exact FillS.one (by rfl) (by rfl) (by (try simp only [List.length_append, List.length_set, List.length_cons, List.length_nil]); first | done | decide | omega) (by (try conv => lhs; simp only [List.set_cons_zero, List.set_cons_succ]); first | done | rfl) (FillS.one (by rfl) (by rfl) (by (try simp only [List.length_append, List.length_set, List.length_cons, List.length_nil]); first | done | decide | omega) (by (try conv => lhs; simp only [List.set_cons_zero, List.set_cons_succ]); first | done | rfl) (FillS.one (by rfl) (by rfl) (by (try simp only [List.length_append, List.length_set, List.length_cons, List.length_nil]); first | done | decide | omega) (by (try conv => lhs; simp only [List.set_cons_zero, List.set_cons_succ]); first | done | rfl) (FillS.one (by rfl) (by rfl) (by (try simp only [List.length_append, List.length_set, List.length_cons, List.length_nil]); first | done | decide | omega) (by (try conv => lhs; simp only [List.set_cons_zero, List.set_cons_succ]); first | done | rfl) (FillS.one (by rfl) (by rfl) (by (try simp only [List.length_append, List.length_set, List.length_cons, List.length_nil]); first | done | decide | omega) (by (try conv => lhs; simp only [List.set_cons_zero, List.set_cons_succ]); first | done | rfl) (FillS.one (by rfl) (by rfl) (by (try simp only [List.length_append, List.length_set, List.length_cons, List.length_nil]); first | done | decide | omega) (by (try conv => lhs; simp only [List.set_cons_zero, List.set_cons_succ]); first | done | rfl) FillS.nil)))))) (hw : Region.wanted o (yielded ops a.tmps) = true := by rfl) (hd : Bp o = false := by rfl) : W (o :: rest) a w := hStp.go hw hd (r_built hop hp (built_at hT (fill_of hc))) hk
theorem Dk {t : TypeId} {parts : Array (Nat × Operand)} {vs : List (Nat × Value)} {cs : List Value} {pl : List (Nat × Nat)} {z : List Value} (hop : o.op = .build t parts := by rfl) (hp : evp a parts.toList = some vs := by rfl) (hT : StT P t pl z := by infer_instance) (hc : FillS (pl.toArray[·]?) z vs cs := by first | exact FillS.nil | exact FillS.one (by rfl) (by rfl) (by (try simp only [List.length_append, List.length_set, List.length_cons, List.length_nil]); first | done | decide | omega) (by (try conv => lhs; simp only [List.set_cons_zero, List.set_cons_succ]); first | done | rfl) FillS.nil | exact FillS.one (by rfl) (by rfl) (by (try simp only [List.length_append, List.length_set, List.length_cons, List.length_nil]); first | done | decide | omega) (by (try conv => lhs; simp only [List.set_cons_zero, List.set_cons_succ]); first | done | rfl) (FillS.one (by rfl) (by rfl) (by (try simp only [List.length_append, List.length_set, List.length_cons, List.length_nil]); first | done | decide | omega) (by (try conv => lhs; simp only [List.set_cons_zero, List.set_cons_succ]); first | done | rfl) FillS.nil) | exact FillS.one (by rfl) (by rfl) (by (try simp only [List.length_append, List.length_set, List.length_cons, List.length_nil]); first | done | decide | omega) (by (try conv => lhs; simp only [List.set_cons_zero, List.set_cons_succ]); first | done | rfl) (FillS.one (by rfl) (by rfl) (by (try simp only [List.length_append, List.length_set, List.length_cons, List.length_nil]); first | done | decide | omega) (by (try conv => lhs; simp only [List.set_cons_zero, List.set_cons_succ]); first | done | rfl) (FillS.one (by rfl) (by rfl) (by (try simp only [List.length_append, List.length_set, List.length_cons, List.length_nil]); first | done | decide | omega) (by (try conv => lhs; simp only [List.set_cons_zero, List.set_cons_succ]); first | done | rfl) FillS.nil)) | exact FillS.one (by rfl) (by rfl) (by (try simp only [List.length_append, List.length_set, List.length_cons, List.length_nil]); first | done | decide | omega) (by (try conv => lhs; simp only [List.set_cons_zero, List.set_cons_succ]); first | done | rfl) (FillS.one (by rfl) (by rfl) (by (try simp only [List.length_append, List.length_set, List.length_cons, List.length_nil]); first | done | decide | omega) (by (try conv => lhs; simp only [List.set_cons_zero, List.set_cons_succ]); first | done | rfl) (FillS.one (by rfl) (by rfl) (by (try simp only [List.length_append, List.length_set, List.length_cons, List.length_nil]); first | done | decide | omega) (by (try conv => lhs; simp only [List.set_cons_zero, List.set_cons_succ]); first | done | rfl) (FillS.one (by rfl) (by rfl) (by (try simp only [List.length_append, List.length_set, List.length_cons, List.length_nil]); first | done | decide | omega) (by (try conv => lhs; simp only [List.set_cons_zero, List.set_cons_succ]); first | done | rfl) FillS.nil))) | exact FillS.one (by rfl) (by rfl) (by (try simp only [List.length_append, List.length_set, List.length_cons, List.length_nil]); first | done | decide | omega) (by (try conv => lhs; simp only [List.set_cons_zero, List.set_cons_succ]); first | done | rfl) (FillS.one (by rfl) (by rfl) (by (try simp only [List.length_append, List.length_set, List.length_cons, List.length_nil]); first | done | decide | omega) (by (try conv => lhs; simp only [List.set_cons_zero, List.set_cons_succ]); first | done | rfl) (FillS.one (by rfl) (by rfl) (by (try simp only [List.length_append, List.length_set, List.length_cons, List.length_nil]); first | done | decide | omega) (by (try conv => lhs; simp only [List.set_cons_zero, List.set_cons_succ]); first | done | rfl) (FillS.one (by rfl) (by rfl) (by (try simp only [List.length_append, List.length_set, List.length_cons, List.length_nil]); first | done | decide | omega) (by (try conv => lhs; simp only [List.set_cons_zero, List.set_cons_succ]); first | done | rfl) (FillS.one (by rfl) (by rfl) (by (try simp only [List.length_append, List.length_set, List.length_cons, List.length_nil]); first | done | decide | omega) (by (try conv => lhs; simp only [List.set_cons_zero, List.set_cons_succ]); first | done | rfl) FillS.nil)))) | exact FillS.one (by rfl) (by rfl) (by (try simp only [List.length_append, List.length_set, List.length_cons, List.length_nil]); first | done | decide | omega) (by (try conv => lhs; simp only [List.set_cons_zero, List.set_cons_succ]); first | done | rfl) (FillS.one (by rfl) (by rfl) (by (try simp only [List.length_append, List.length_set, List.length_cons, List.length_nil]); first | done | decide | omega) (by (try conv => lhs; simp only [List.set_cons_zero, List.set_cons_succ]); first | done | rfl) (FillS.one (by rfl) (by rfl) (by (try simp only [List.length_append, List.length_set, List.length_cons, List.length_nil]); first | done | decide | omega) (by (try conv => lhs; simp only [List.set_cons_zero, List.set_cons_succ]); first | done | rfl) (FillS.one (by rfl) (by rfl) (by (try simp only [List.length_append, List.length_set, List.length_cons, List.length_nil]); first | done | decide | omega) (by (try conv => lhs; simp only [List.set_cons_zero, List.set_cons_succ]); first | done | rfl) (FillS.one (by rfl) (by rfl) (by (try simp only [List.length_append, List.length_set, List.length_cons, List.length_nil]); first | done | decide | omega) (by (try conv => lhs; simp only [List.set_cons_zero, List.set_cons_succ]); first | done | rfl) (FillS.one (by rfl) (by rfl) (by (try simp only [List.length_append, List.length_set, List.length_cons, List.length_nil]); first | done | decide | omega) (by (try conv => lhs; simp only [List.set_cons_zero, List.set_cons_succ]); first | done | rfl) FillS.nil)))))) : o.quietAt P a C w (.agg cs.toArray) := Cn (r_built hop hp (built_st hT (fill_of hc)))
theorem Dl {t : TypeId} {parts : Array (Nat × Operand)} {vs : List (Nat × Value)} {cs : List Value} {n : Nat} {z : List Value} (hop : o.op = .build t parts := by rfl) (hp : evp a parts.toList = some vs := by rfl) (hT : AtT P t n z := by infer_instance) (hc : FillS (fun i => some (i * n, n)) z vs cs := by first | exact FillS.nil | exact FillS.one (by rfl) (by rfl) (by (try simp only [List.length_append, List.length_set, List.length_cons, List.length_nil]); first | done | decide | omega) (by (try conv => lhs; simp only [List.set_cons_zero, List.set_cons_succ]); first | done | rfl) FillS.nil | exact FillS.one (by rfl) (by rfl) (by (try simp only [List.length_append, List.length_set, List.length_cons, List.length_nil]); first | done | decide | omega) (by (try conv => lhs; simp only [List.set_cons_zero, List.set_cons_succ]); first | done | rfl) (FillS.one (by rfl) (by rfl) (by (try simp only [List.length_append, List.length_set, List.length_cons, List.length_nil]); first | done | decide | omega) (by (try conv => lhs; simp only [List.set_cons_zero, List.set_cons_succ]); first | done | rfl) FillS.nil) | exact FillS.one (by rfl) (by rfl) (by (try simp only [List.length_append, List.length_set, List.length_cons, List.length_nil]); first | done | decide | omega) (by (try conv => lhs; simp only [List.set_cons_zero, List.set_cons_succ]); first | done | rfl) (FillS.one (by rfl) (by rfl) (by (try simp only [List.length_append, List.length_set, List.length_cons, List.length_nil]); first | done | decide | omega) (by (try conv => lhs; simp only [List.set_cons_zero, List.set_cons_succ]); first | done | rfl) (FillS.one (by rfl) (by rfl) (by (try simp only [List.length_append, List.length_set, List.length_cons, List.length_nil]); first | done | decide | omega) (by (try conv => lhs; simp only [List.set_cons_zero, List.set_cons_succ]); first | done | rfl) FillS.nil)) | exact FillS.one (by rfl) (by rfl) (by (try simp only [List.length_append, List.length_set, List.length_cons, List.length_nil]); first | done | decide | omega) (by (try conv => lhs; simp only [List.set_cons_zero, List.set_cons_succ]); first | done | rfl) (FillS.one (by rfl) (by rfl) (by (try simp only [List.length_append, List.length_set, List.length_cons, List.length_nil]); first | done | decide | omega) (by (try conv => lhs; simp only [List.set_cons_zero, List.set_cons_succ]); first | done | rfl) (FillS.one (by rfl) (by rfl) (by (try simp only [List.length_append, List.length_set, List.length_cons, List.length_nil]); first | done | decide | omega) (by (try conv => lhs; simp only [List.set_cons_zero, List.set_cons_succ]); first | done | rfl) (FillS.one (by rfl) (by rfl) (by (try simp only [List.length_append, List.length_set, List.length_cons, List.length_nil]); first | done | decide | omega) (by (try conv => lhs; simp only [List.set_cons_zero, List.set_cons_succ]); first | done | rfl) FillS.nil))) | exact FillS.one (by rfl) (by rfl) (by (try simp only [List.length_append, List.length_set, List.length_cons, List.length_nil]); first | done | decide | omega) (by (try conv => lhs; simp only [List.set_cons_zero, List.set_cons_succ]); first | done | rfl) (FillS.one (by rfl) (by rfl) (by (try simp only [List.length_append, List.length_set, List.length_cons, List.length_nil]); first | done | decide | omega) (by (try conv => lhs; simp only [List.set_cons_zero, List.set_cons_succ]); first | done | rfl) (FillS.one (by rfl) (by rfl) (by (try simp only [List.length_append, List.length_set, List.length_cons, List.length_nil]); first | done | decide | omega) (by (try conv => lhs; simp only [List.set_cons_zero, List.set_cons_succ]); first | done | rfl) (FillS.one (by rfl) (by rfl) (by (try simp only [List.length_append, List.length_set, List.length_cons, List.length_nil]); first | done | decide | omega) (by (try conv => lhs; simp only [List.set_cons_zero, List.set_cons_succ]); first | done | rfl) (FillS.one (by rfl) (by rfl) (by (try simp only [List.length_append, List.length_set, List.length_cons, List.length_nil]); first | done | decide | omega) (by (try conv => lhs; simp only [List.set_cons_zero, List.set_cons_succ]); first | done | rfl) FillS.nil)))) | exact FillS.one (by rfl) (by rfl) (by (try simp only [List.length_append, List.length_set, List.length_cons, List.length_nil]); first | done | decide | omega) (by (try conv => lhs; simp only [List.set_cons_zero, List.set_cons_succ]); first | done | rfl) (FillS.one (by rfl) (by rfl) (by (try simp only [List.length_append, List.length_set, List.length_cons, List.length_nil]); first | done | decide | omega) (by (try conv => lhs; simp only [List.set_cons_zero, List.set_cons_succ]); first | done | rfl) (FillS.one (by rfl) (by rfl) (by (try simp only [List.length_append, List.length_set, List.length_cons, List.length_nil]); first | done | decide | omega) (by (try conv => lhs; simp only [List.set_cons_zero, List.set_cons_succ]); first | done | rfl) (FillS.one (by rfl) (by rfl) (by (try simp only [List.length_append, List.length_set, List.length_cons, List.length_nil]); first | done | decide | omega) (by (try conv => lhs; simp only [List.set_cons_zero, List.set_cons_succ]); first | done | rfl) (FillS.one (by rfl) (by rfl) (by (try simp only [List.length_append, List.length_set, List.length_cons, List.length_nil]); first | done | decide | omega) (by (try conv => lhs; simp only [List.set_cons_zero, List.set_cons_succ]); first | done | rfl) (FillS.one (by rfl) (by rfl) (by (try simp only [List.length_append, List.length_set, List.length_cons, List.length_nil]); first | done | decide | omega) (by (try conv => lhs; simp only [List.set_cons_zero, List.set_cons_succ]); first | done | rfl) FillS.nil)))))) : o.quietAt P a C w (.agg cs.toArray) := Cn (r_built hop hp (built_at hT (fill_of hc)))
theorem ones_lit {l : List Value} (h : l.all Value.oneCell' = true) : ones l.toArray = true := by
  unfold ones
  simpa using h
theorem Aq {t : TypeId} {x y : Operand} {n b off : Nat} {cs vs cs' : Array Value} {ty : TypeId} {L' : List Blk} {i : Nat} (hStp : Stp P ops W) (hH : Own B H) (hS : H w L) (hk : ∀ w', H w' L' → W rest (a.put o.dst undef) w') (hop : o.op = .store t x y := by rfl) (hx : evO a x = some (.pointer (some ⟨b, off, none⟩)) := by rfl) (hy : evO a y = some (.agg vs) := by rfl) (h1 : RowT P t n := by infer_instance) (hn : csz vs = n := by (try simp only [Bn, Bg, Bm, List.length_append, List.length_set, zs_len, List.length_take, List.length_drop, List.length_cons, List.length_nil, List.length_map]); first | done | rfl | omega) (hv : ones vs = true := by exact ones_lit (by rfl)) (hi : L[i]? = some (b, cs, ty) := by first | exact at_ 0 rfl | exact at_ 1 rfl | exact at_ 2 rfl | exact at_ 3 rfl | exact at_ 4 rfl | exact at_ 5 rfl | exact at_ 6 rfl | exact at_ 7 rfl | exact at_ 8 rfl | exact at_ 9 rfl | exact at_ 10 rfl | exact at_ 11 rfl | exact at_ 12 rfl | exact at_ 13 rfl) (ho : off + n ≤ csz cs := by (try simp only [Bn, Bg, Bm, List.length_append, List.length_set, zs_len, List.length_take, List.length_drop, List.length_cons, List.length_nil, List.length_map]); first | done | rfl | omega) (hc : paste cs off vs = cs' := by first | exact paste_whole _ _ (by (try simp only [Bn, Bg, Bm, List.length_append, List.length_set, zs_len, List.length_take, List.length_drop, List.length_cons, List.length_nil, List.length_map]); first | done | rfl | omega) | rfl) (hL : L.set i (b, cs', ty) = L' := by (try conv => lhs; simp only [List.setIfInBounds_toArray, List.set_cons_zero, List.set_cons_succ, List.eraseIdx_cons_zero, List.eraseIdx_cons_succ]); first | done | rfl) (hw : Region.wanted o (yielded ops a.tmps) = true := by rfl) : W (o :: rest) a w := s_storeR hStp hH hS hw hop hx hy h1 hn hv hi ho hc hL hk
theorem r_nilCheck {x : Operand} {b off : Nat} (hop : o.op = .nilCheck x) (hx : evO a x = some (.pointer (some ⟨b, off, none⟩))) : (execOp a.eval o).run P w = .ok (.value (.pointer (some ⟨b, off, none⟩))) w := by
  unfold execOp; rw [hop]
  simp only [Bb hx]
  rfl
theorem g_nilCheck {x : Operand} {b off : Nat} (hStp : Stp P ops W) (hk : W rest (a.put o.dst (.pointer (some ⟨b, off, none⟩))) w) (hop : o.op = .nilCheck x := by rfl) (hx : evO a x = some (.pointer (some ⟨b, off, none⟩)) := by rfl) (hw : Region.wanted o (yielded ops a.tmps) = true := by rfl) (hd : Bp o = false := by rfl) : W (o :: rest) a w := hStp.go hw hd (r_nilCheck hop hx) hk
theorem Cs {x : Operand} {b off : Nat} (hop : o.op = .nilCheck x := by rfl) (hx : evO a x = some (.pointer (some ⟨b, off, none⟩)) := by rfl) : o.quietAt P a C w (.pointer (some ⟨b, off, none⟩)) := Cn (r_nilCheck hop hx)
/-- clear: of one's own block the cells behind a place. -/
theorem s_clear {x : Operand} {t e size bytes b off n c i : Nat} {cs : Array Value} {ty : TypeId} {pre mid zc : List Value} (hs : Stp P ops W) (hH : Own B H) (hS : H w L) (hw : Region.wanted o (yielded ops a.tmps) = true)
    (hop : o.op = .call { callee := .builtin .clear, args := #[x], argTypes := #[t] }) (hx : evO a x = some (.slice (some ⟨b, off, none⟩) n c)) (hT : SlT P t e size bytes) (hz : ZeroT P e zc.toArray) (hzl : zc.length = size) (hzo : ∀ v ∈ zc, v.oneCell' = true) (hn : 0 < n)
    (hi : L[i]? = some (b, cs, ty)) (hcs : cs.toList = pre ++ mid) (hpre : pre.length = off) (hmid : n * size ≤ mid.length)
    (hk : ∀ (z : List Value) (w' : World), z.length = mid.length → H w' (L.set i (b, (pre ++ z).toArray, ty)) → W rest (a.put o.dst (.tuple #[])) w') : W (o :: rest) a w := by
  obtain ⟨ht, inf, z, hie, hz1, hsz, hby, hzs, hps⟩ := elemB_iff hT.is
  obtain ⟨z', hr1, hz2⟩ := run_zero (w := w) hz.is
  have hd : Bp o = false := by unfold Bp; rw [hop]
  have hb := hH.blk i hS hi
  have hcl : (Builtin.zeroCells zc.toArray n).toList.length = n * size := by rw [Array.length_toList, size_zeroCells]; simp [hzl]
  have hone : ∀ v ∈ (Builtin.zeroCells zc.toArray n).toList, v.oneCell' = true := by
    intro v hv
    obtain ⟨k, hk2, rfl⟩ := List.getElem_of_mem hv
    rw [hcl] at hk2
    simp only [Builtin.zeroCells, Array.getElem_toList, Array.getElem_map, Array.getElem_range]
    have hlt : k % zc.toArray.size < zc.length := by simp only [List.size_toArray]; exact Nat.mod_lt _ (by rw [hzl]; exact hps)
    have : zc.toArray[k % zc.toArray.size]! = zc[k % zc.toArray.size] := by
      rw [getElem!_pos zc.toArray _ (by simpa using hlt)]
      simp
    rw [this]
    exact hzo _ (List.getElem_mem _)
  have hcsz : cs.size = off + mid.length := by rw [← Array.length_toList, hcs, List.length_append, hpre]
  have hst := run_storeCells_at (P := P) b off ty (Builtin.zeroCells zc.toArray n).toList 0 cs w hb (by rw [hcl, hcsz]; omega) hone
  have hn0 : n ≠ 0 := by omega
  have hrun : (execOp a.eval o).run P w = .ok (.value (.tuple #[])) (w.setRow b (splice cs (off + 0) (Builtin.zeroCells zc.toArray n).toList.toArray)) := by
    unfold execOp; rw [hop]
    simp only [resolve, Sem.run_bind, Sem.run_pure, Result.andThen_ok, invoke, builtin]
    have e1 : #[x].map a.eval = #[.slice (some ⟨b, off, none⟩) n c] := by simp [Bb hx]
    rw [e1]
    obtain ⟨m, rfl⟩ : ∃ m, n = m + 1 := ⟨n - 1, by omega⟩
    simp only [Builtin.clear_, Sem.run_bind, Sem.run_pure, List.getElem?_toArray, List.getElem?_cons_zero, run_underlying ht, Result.andThen_ok, hr1, hz2, hst]
  refine hs.go hw hd hrun ?_
  have hrow : splice cs (off + 0) (Builtin.zeroCells zc.toArray n).toList.toArray = (pre ++ ((Builtin.zeroCells zc.toArray n).toList ++ mid.drop (n * size))).toArray := by
    unfold splice
    rw [hcs, Nat.add_zero, ← hpre, List.take_left, List.append_assoc]
    congr 3
    rw [List.drop_append, List.drop_of_length_le (by omega), List.nil_append]
    congr 1
    have : (Builtin.zeroCells zc.toArray n).size = n * size := by simpa using hcl
    simp [this]
  rw [hrow]
  exact hk _ _ (by rw [List.length_append, hcl, List.length_drop]; omega) (hH.setRow i _ hS hi)
/-- A field of a struct, then its own cells: where a row lies within a struct that came in as one value. -/
theorem r_shr1 {x : Operand} {t t' : TypeId} {n : Nat} {q : Int} (hop : o.op = .binOp .shr t x (.const (.int .u64 1)) t') (hx : evO a x = some (.int .u64 (n : Int))) (hq : ((n / 2 : Nat) : Int) = q) (_hn : n < 18446744073709551616) : (execOp a.eval o).run P w = .ok (.value (.int .u64 q)) w := by
  unfold execOp; rw [hop]; subst hq
  simp [Bb hx, eqGuard, binOp, Op.shift, show a.eval (.const (.int .u64 1)) = .int .u64 1 from rfl]
  rw [show (2 : Int) ^ min 1 IntKind.u64.bits = 2 from rfl, Int.fdiv_eq_ediv_of_nonneg _ (by decide)]
end
end Go.Proofs.Ytcjncidahjneaaa

namespace Go.Proofs.Ytcjncidahjneaaa
open Go.RowKit
set_option maxRecDepth 100000

instance : ZeroT Try.prog 7 #[.int .i64 0, .int .i64 0, .bool false, .int .u8 0] := ⟨by kernel_rfl⟩
instance : StT Try.prog 7 [(0, 1), (1, 1), (2, 1), (3, 1)] [.int .i64 0, .int .i64 0, .bool false, .int .u8 0] := ⟨by kernel_rfl⟩
instance : ZeroT Try.prog 8 #[.int .i64 0, .int .i64 0, .bool false, .int .u8 0] := ⟨by kernel_rfl⟩
instance : StT Try.prog 8 [(0, 1), (1, 1), (2, 1), (3, 1)] [.int .i64 0, .int .i64 0, .bool false, .int .u8 0] := ⟨by kernel_rfl⟩
instance : ZeroT Try.prog 13 #[.string ⟨#[]⟩, .int .u64 0] := ⟨by kernel_rfl⟩
instance : StT Try.prog 13 [(0, 1), (1, 1)] [.string ⟨#[]⟩, .int .u64 0] := ⟨by kernel_rfl⟩
instance : ZeroT Try.prog 14 #[.string ⟨#[]⟩, .int .u64 0] := ⟨by kernel_rfl⟩
instance : StT Try.prog 14 [(0, 1), (1, 1)] [.string ⟨#[]⟩, .int .u64 0] := ⟨by kernel_rfl⟩
instance : ZeroT Try.prog 18 #[.pointer none] := ⟨by kernel_rfl⟩
instance : StT Try.prog 18 [(0, 1)] [.pointer none] := ⟨by kernel_rfl⟩
instance : ZeroT Try.prog 19 #[.pointer none] := ⟨by kernel_rfl⟩
instance : StT Try.prog 19 [(0, 1)] [.pointer none] := ⟨by kernel_rfl⟩
instance : AtT Try.prog 23 1 [.int .u8 0, .int .u8 0, .int .u8 0, .int .u8 0, .int .u8 0, .int .u8 0, .int .u8 0, .int .u8 0, .int .u8 0, .int .u8 0, .int .u8 0, .int .u8 0, .int .u8 0, .int .u8 0, .int .u8 0, .int .u8 0, .int .u8 0, .int .u8 0, .int .u8 0, .int .u8 0, .int .u8 0, .int .u8 0, .int .u8 0, .int .u8 0, .int .u8 0, .int .u8 0, .int .u8 0, .int .u8 0, .int .u8 0, .int .u8 0, .int .u8 0, .int .u8 0] := ⟨by kernel_rfl⟩
instance : AtT Try.prog 24 1 [.int .u8 0, .int .u8 0, .int .u8 0, .int .u8 0, .int .u8 0, .int .u8 0, .int .u8 0, .int .u8 0, .int .u8 0, .int .u8 0, .int .u8 0, .int .u8 0, .int .u8 0, .int .u8 0, .int .u8 0, .int .u8 0, .int .u8 0, .int .u8 0, .int .u8 0, .int .u8 0, .int .u8 0, .int .u8 0, .int .u8 0, .int .u8 0, .int .u8 0, .int .u8 0, .int .u8 0, .int .u8 0, .int .u8 0, .int .u8 0, .int .u8 0, .int .u8 0] := ⟨by kernel_rfl⟩
instance : ZeroT Try.prog 25 #[.int .u8 0, .int .u8 0, .int .u8 0, .int .u8 0, .int .u8 0, .int .u8 0, .int .u8 0, .int .u8 0, .int .u8 0, .int .u8 0, .int .u8 0, .int .u8 0, .int .u8 0, .int .u8 0, .int .u8 0, .int .u8 0, .int .u8 0, .int .u8 0, .int .u8 0, .int .u8 0, .int .u8 0, .int .u8 0, .int .u8 0, .int .u8 0, .int .u8 0, .int .u8 0, .int .u8 0, .int .u8 0, .int .u8 0, .int .u8 0, .int .u8 0, .int .u8 0, .int .u8 0, .int .u8 0, .int .u8 0, .int .u8 0, .int .u8 0, .int .u8 0, .int .u8 0, .int .u8 0, .int .u8 0, .int .u8 0, .int .u8 0, .int .u8 0, .int .u8 0, .int .u8 0, .int .u8 0, .int .u8 0, .int .u8 0, .int .u8 0, .int .u8 0, .int .u8 0, .int .u8 0, .int .u8 0, .int .u8 0, .int .u8 0, .int .u8 0, .int .u8 0, .int .u8 0, .int .u8 0, .int .u8 0, .int .u8 0, .int .u8 0, .int .u8 0] := ⟨by kernel_rfl⟩
instance : AtT Try.prog 25 32 [.int .u8 0, .int .u8 0, .int .u8 0, .int .u8 0, .int .u8 0, .int .u8 0, .int .u8 0, .int .u8 0, .int .u8 0, .int .u8 0, .int .u8 0, .int .u8 0, .int .u8 0, .int .u8 0, .int .u8 0, .int .u8 0, .int .u8 0, .int .u8 0, .int .u8 0, .int .u8 0, .int .u8 0, .int .u8 0, .int .u8 0, .int .u8 0, .int .u8 0, .int .u8 0, .int .u8 0, .int .u8 0, .int .u8 0, .int .u8 0, .int .u8 0, .int .u8 0, .int .u8 0, .int .u8 0, .int .u8 0, .int .u8 0, .int .u8 0, .int .u8 0, .int .u8 0, .int .u8 0, .int .u8 0, .int .u8 0, .int .u8 0, .int .u8 0, .int .u8 0, .int .u8 0, .int .u8 0, .int .u8 0, .int .u8 0, .int .u8 0, .int .u8 0, .int .u8 0, .int .u8 0, .int .u8 0, .int .u8 0, .int .u8 0, .int .u8 0, .int .u8 0, .int .u8 0, .int .u8 0, .int .u8 0, .int .u8 0, .int .u8 0, .int .u8 0] := ⟨by kernel_rfl⟩
instance : AtT Try.prog 26 1 [.int .u8 0, .int .u8 0, .int .u8 0, .int .u8 0, .int .u8 0, .int .u8 0, .int .u8 0, .int .u8 0, .int .u8 0, .int .u8 0, .int .u8 0, .int .u8 0, .int .u8 0, .int .u8 0, .int .u8 0, .int .u8 0, .int .u8 0, .int .u8 0, .int .u8 0, .int .u8 0, .int .u8 0, .int .u8 0, .int .u8 0, .int .u8 0] := ⟨by kernel_rfl⟩
instance : ZeroT Try.prog 65 #[.slice none 0 0, .int .i64 0, .slice none 0 0, .int .i64 0] := ⟨by kernel_rfl⟩
instance : StT Try.prog 65 [(0, 1), (1, 1), (2, 1), (3, 1)] [.slice none 0 0, .int .i64 0, .slice none 0 0, .int .i64 0] := ⟨by kernel_rfl⟩
instance : ZeroT Try.prog 66 #[.slice none 0 0, .int .i64 0, .slice none 0 0, .int .i64 0] := ⟨by kernel_rfl⟩
instance : StT Try.prog 66 [(0, 1), (1, 1), (2, 1), (3, 1)] [.slice none 0 0, .int .i64 0, .slice none 0 0, .int .i64 0] := ⟨by kernel_rfl⟩
instance : ZeroT Try.prog 73 #[.slice none 0 0, .slice none 0 0, .int .i64 0, .slice none 0 0] := ⟨by kernel_rfl⟩
instance : StT Try.prog 73 [(0, 1), (1, 1), (2, 1), (3, 1)] [.slice none 0 0, .slice none 0 0, .int .i64 0, .slice none 0 0] := ⟨by kernel_rfl⟩
instance : ZeroT Try.prog 74 #[.slice none 0 0, .slice none 0 0, .int .i64 0, .slice none 0 0] := ⟨by kernel_rfl⟩
instance : StT Try.prog 74 [(0, 1), (1, 1), (2, 1), (3, 1)] [.slice none 0 0, .slice none 0 0, .int .i64 0, .slice none 0 0] := ⟨by kernel_rfl⟩
instance : ZeroT Try.prog 92 #[.int .i64 0, .slice none 0 0] := ⟨by kernel_rfl⟩
instance : StT Try.prog 92 [(0, 1), (1, 1)] [.int .i64 0, .slice none 0 0] := ⟨by kernel_rfl⟩
instance : ZeroT Try.prog 93 #[.int .i64 0, .slice none 0 0] := ⟨by kernel_rfl⟩
instance : StT Try.prog 93 [(0, 1), (1, 1)] [.int .i64 0, .slice none 0 0] := ⟨by kernel_rfl⟩
instance : AtT Try.prog 108 1 [.int .u8 0, .int .u8 0, .int .u8 0, .int .u8 0, .int .u8 0, .int .u8 0, .int .u8 0, .int .u8 0, .int .u8 0, .int .u8 0, .int .u8 0, .int .u8 0, .int .u8 0, .int .u8 0, .int .u8 0, .int .u8 0, .int .u8 0, .int .u8 0, .int .u8 0, .int .u8 0, .int .u8 0, .int .u8 0, .int .u8 0, .int .u8 0, .int .u8 0, .int .u8 0, .int .u8 0, .int .u8 0, .int .u8 0, .int .u8 0, .int .u8 0, .int .u8 0, .int .u8 0, .int .u8 0, .int .u8 0, .int .u8 0, .int .u8 0, .int .u8 0, .int .u8 0, .int .u8 0, .int .u8 0, .int .u8 0, .int .u8 0, .int .u8 0, .int .u8 0, .int .u8 0, .int .u8 0, .int .u8 0, .int .u8 0, .int .u8 0, .int .u8 0, .int .u8 0, .int .u8 0, .int .u8 0, .int .u8 0, .int .u8 0, .int .u8 0, .int .u8 0, .int .u8 0, .int .u8 0, .int .u8 0, .int .u8 0, .int .u8 0, .int .u8 0] := ⟨by kernel_rfl⟩
instance : ZeroT Try.prog 119 #[.int .u32 0, .int .u32 0, .int .u32 0, .int .u32 0, .int .u32 0, .int .u32 0, .int .u32 0, .int .u32 0, .int .u32 0, .int .u32 0, .int .u32 0, .int .u32 0, .int .u32 0, .int .u32 0, .int .u32 0, .int .u32 0, .int .u32 0, .int .u32 0, .int .u32 0, .int .u32 0, .int .u32 0, .int .u32 0, .int .u32 0, .int .u32 0, .int .u32 0, .int .u32 0, .int .u32 0, .int .u32 0, .int .u32 0, .int .u32 0, .int .u32 0, .int .u32 0, .int .u32 0, .int .u32 0, .int .u32 0, .int .u32 0, .int .u32 0, .int .u32 0, .int .u32 0, .int .u32 0, .int .u32 0, .int .u32 0, .int .u32 0, .int .u32 0, .int .u32 0, .int .u32 0, .int .u32 0, .int .u32 0, .int .u32 0, .int .u32 0, .int .u32 0, .int .u32 0, .int .u32 0, .int .u32 0, .int .u32 0, .int .u32 0, .int .u32 0, .int .u32 0, .int .u32 0, .int .u32 0, .int .u32 0, .int .u32 0, .int .u32 0, .int .u32 0] := ⟨by kernel_rfl⟩
instance : AtT Try.prog 119 1 [.int .u32 0, .int .u32 0, .int .u32 0, .int .u32 0, .int .u32 0, .int .u32 0, .int .u32 0, .int .u32 0, .int .u32 0, .int .u32 0, .int .u32 0, .int .u32 0, .int .u32 0, .int .u32 0, .int .u32 0, .int .u32 0, .int .u32 0, .int .u32 0, .int .u32 0, .int .u32 0, .int .u32 0, .int .u32 0, .int .u32 0, .int .u32 0, .int .u32 0, .int .u32 0, .int .u32 0, .int .u32 0, .int .u32 0, .int .u32 0, .int .u32 0, .int .u32 0, .int .u32 0, .int .u32 0, .int .u32 0, .int .u32 0, .int .u32 0, .int .u32 0, .int .u32 0, .int .u32 0, .int .u32 0, .int .u32 0, .int .u32 0, .int .u32 0, .int .u32 0, .int .u32 0, .int .u32 0, .int .u32 0, .int .u32 0, .int .u32 0, .int .u32 0, .int .u32 0, .int .u32 0, .int .u32 0, .int .u32 0, .int .u32 0, .int .u32 0, .int .u32 0, .int .u32 0, .int .u32 0, .int .u32 0, .int .u32 0, .int .u32 0, .int .u32 0] := ⟨by kernel_rfl⟩
instance : ZeroT Try.prog 120 #[.int .u32 0, .int .u32 0, .int .u32 0, .int .u32 0, .int .u32 0, .int .u32 0, .int .u32 0, .int .u32 0] := ⟨by kernel_rfl⟩
instance : AtT Try.prog 120 1 [.int .u32 0, .int .u32 0, .int .u32 0, .int .u32 0, .int .u32 0, .int .u32 0, .int .u32 0, .int .u32 0] := ⟨by kernel_rfl⟩
instance : ZeroT Try.prog 168 #[.pointer none, .pointer none, .pointer none, .string ⟨#[]⟩] := ⟨by kernel_rfl⟩
instance : StT Try.prog 168 [(0, 1), (1, 1), (2, 1), (3, 1)] [.pointer none, .pointer none, .pointer none, .string ⟨#[]⟩] := ⟨by kernel_rfl⟩
instance : ZeroT Try.prog 169 #[.pointer none, .pointer none, .pointer none, .string ⟨#[]⟩] := ⟨by kernel_rfl⟩
instance : StT Try.prog 169 [(0, 1), (1, 1), (2, 1), (3, 1)] [.pointer none, .pointer none, .pointer none, .string ⟨#[]⟩] := ⟨by kernel_rfl⟩
instance : ZeroT Try.prog 180 #[.int .u64 0, .int .u64 0, .int .u32 0, .int .u8 0, .int .u8 0, .int .u8 0, .int .u8 0, .nilFunc, .pointer none, .int .i32 0, .int .i32 0] := ⟨by kernel_rfl⟩
instance : StT Try.prog 180 [(0, 1), (1, 1), (2, 1), (3, 1), (4, 1), (5, 1), (6, 1), (7, 1), (8, 1), (9, 1), (10, 1)] [.int .u64 0, .int .u64 0, .int .u32 0, .int .u8 0, .int .u8 0, .int .u8 0, .int .u8 0, .nilFunc, .pointer none, .int .i32 0, .int .i32 0] := ⟨by kernel_rfl⟩
instance : ZeroT Try.prog 181 #[.int .u64 0, .int .u64 0, .int .u32 0, .int .u8 0, .int .u8 0, .int .u8 0, .int .u8 0, .nilFunc, .pointer none, .int .i32 0, .int .i32 0] := ⟨by kernel_rfl⟩
instance : StT Try.prog 181 [(0, 1), (1, 1), (2, 1), (3, 1), (4, 1), (5, 1), (6, 1), (7, 1), (8, 1), (9, 1), (10, 1)] [.int .u64 0, .int .u64 0, .int .u32 0, .int .u8 0, .int .u8 0, .int .u8 0, .int .u8 0, .nilFunc, .pointer none, .int .i32 0, .int .i32 0] := ⟨by kernel_rfl⟩

end Go.Proofs.Ytcjncidahjneaaa
