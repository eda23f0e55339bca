/-
  Laws that the claims of this seat use, of several texts in one: AppC, RdK, RdL. No condition of their own.
-/
import Derived.Test.YtcjncidahjneaaaJO0

namespace Go.Proofs.Ytcjncidahjneaaa
open Go.RowKit
attribute [local irreducible] wpList wpListIn
section
variable {P : Program} {ops : Array Oper} {W : List Oper → Act → World → Prop} {o : Oper} {rest : List Oper} {a : Act} {w : World} {v : Value} {B : Nat} {H : World → List Blk → Prop} {L : List Blk}
theorem zeroCells_sect (n : Nat) : Builtin.zeroCells (bvs (zs 128)) n = bvs (zs (128 * n)) := by
  have hz : (bvs (zs 128)).size = 128 := by rw [bvs_size, zs_len]
  have h := made_cells (128 * n)
  unfold madeCells at h
  unfold Builtin.zeroCells
  rw [← h, hz, Nat.mul_comm n 128]
theorem run_append_room_zC (t tn ty e : TypeId) (i : TypeInfo) (z : Value) (kq kn : IntKind) (ht : P.underlying t = some (.slice e)) (htn : P.underlying tn = some (.int kn)) (hi : P.info? e = some i) (hz : i.zero = some z) (hz1 : z.cells = bvs (zs 128)) (h1 : i.size = 128) (hb1 : i.bytes = 128)
    (g sLen sCap : Nat) (cur : Array Value) (hg : blk w g = some (.cells cur e (0, 0))) (k : Nat) (hroom : sLen + k ≤ sCap) (hk : k ≤ 1000000000) (hfit : (sLen + k) * 128 ≤ cur.size) :
    (Builtin.append_ #[t, tn] ty #[.slice (some ⟨g, 0, none⟩) sLen sCap, .int kq k]).run P w =
      .ok (.slice (some ⟨g, 0, none⟩) (sLen + k) sCap) (w.setRow g (cur.toList.take (sLen * 128) ++ (zs (128 * k)).map bv ++ cur.toList.drop (sLen * 128 + 128 * k)).toArray) := by
  have hzl : ((zs (128 * k)).map bv).length = 128 * k := by rw [List.length_map, zs_len]
  have hst := run_storeCells_at (P := P) g (sLen * 128) e ((zs (128 * k)).map bv) 0 cur w hg (by rw [hzl]; omega) (by intro v hv; obtain ⟨x, _, rfl⟩ := List.mem_map.1 hv; rfl)
  simp only [Nat.add_zero] at hst
  have hspl : splice cur (sLen * 128) ((zs (128 * k)).map bv).toArray = (cur.toList.take (sLen * 128) ++ (zs (128 * k)).map bv ++ cur.toList.drop (sLen * 128 + 128 * k)).toArray := by
    unfold splice
    rw [List.size_toArray, hzl]
  rw [hspl] at hst
  have hw : IntKind.i64.wrap (k : Int) = k := by rw [IntKind.wrap_i64]; omega
  have hneg : ¬ ((k : Int) < 0) := by omega
  have h48 : ¬ ((281474976710656 : Int) < (k : Int) * 128) := by omega
  have hzc : (Builtin.zeroCells z.cells k).toList = (zs (128 * k)).map bv := by
    rw [hz1, zeroCells_sect]
    simp [bvs]
  by_cases hk0 : k = 0
  · subst hk0
    have e0 : (zs (128 * 0)).map bv = [] := by rw [List.length_eq_zero_iff.1 (zs_len 0)]; rfl
    rw [e0] at hst ⊢
    have hw0 : IntKind.i64.wrap 0 = 0 := hw
    have hr0 : sLen ≤ sCap := by omega
    simp only [Nat.mul_zero, List.append_nil, Nat.add_zero, List.take_append_drop] at hst ⊢
    simp [Builtin.append_, run_underlying ht, run_underlying htn, sizeOf, typeInfo, zeroValue, hi, hz, asInt, asIntOf, hw0, hr0, h1, hb1, Addr.add_lit, hst]
  · simp [Builtin.append_, run_underlying ht, run_underlying htn, sizeOf, typeInfo, zeroValue, hi, hz, asInt, asIntOf, hw, hneg, h48, hroom, h1, hb1, hk0, show ¬ (k * 128 = 0) by omega, hzc, Addr.add_lit, hst]
/-- append(x, make([]byte, k)...) to an own slice of bytes. -/
theorem s_appendZC {x y : Operand} {t tn e b n c i k nk : Nat} {kq kn : IntKind} {cs : Array Value} {l : List UInt8} {spare : List Value} (hs : Stp P ops W) (hH : Own B H) (hS : H w L) (hw : Region.wanted o (yielded ops a.tmps) = true)
    (hop : o.op = .call { callee := .builtin .append, args := #[x, y], argTypes := #[t, tn] }) (hx : evO a x = some (.slice (some ⟨b, 0, none⟩) n c)) (hy : evO a y = some (.int kq (k : Int))) (hT : SlT P t e 128 128) (hz : ZeroT P e (bvs (zs 128))) (htn : IntT P tn kn)
    (hi : L[i]? = some (b, cs, e)) (hcs : cs.toList = l.map bv ++ spare) (hl : l.length = 128 * n) (hnc : n ≤ c) (hsp : spare.length = (c - n) * 128) (hmax : n + k ≤ 1000000 ∧ c ≤ maxLen) (hnk : n + k = nk)
    (hk : ∀ (b' c' : Nat) (sp' : List Value) (w' : World), nk ≤ c' → c' ≤ maxLen → sp'.length = (c' - nk) * 128 → H w' ((b', ((l ++ zs (128 * k)).map bv ++ sp').toArray, e) :: L.eraseIdx i) → W rest (a.put o.dst (.slice (some ⟨b', 0, none⟩) nk c')) w') : W (o :: rest) a w := by
  subst hnk
  obtain ⟨ht, inf, zz, hie, hz1, hsz, hby, hzs, hpos⟩ := elemB_iff hT.is
  have hz2 : zz.cells = bvs (zs 128) := by
    have := hz.is
    unfold zeroT at this
    simp [hie, hz1] at this
    exact this
  have hd : Bp o = false := by unfold Bp; rw [hop]
  have hb := hH.blk i hS hi
  have hil : i < L.length := (List.getElem?_eq_some_iff.1 hi).1
  have hcsz : cs.size = 128 * n + spare.length := by rw [← Array.length_toList, hcs, List.length_append, List.length_map, hl]
  have e1 : #[x, y].map a.eval = #[.slice (some ⟨b, 0, none⟩) n c, .int kq (k : Int)] := by simp [Bb hx, Bb hy]
  by_cases hroom : n + k ≤ c
  · have hr := run_append_room_zC (P := P) (w := w) t tn o.type e inf zz kq kn ht htn.is hie hz1 hz2 hsz hby b n c cs hb k hroom (by omega) (by omega)
    have hrow : (cs.toList.take (n * 128) ++ (zs (128 * k)).map bv ++ cs.toList.drop (n * 128 + 128 * k)).toArray = ((l ++ zs (128 * k)).map bv ++ spare.drop (128 * k)).toArray := by
      rw [hcs, List.take_left' (by rw [List.length_map, hl, Nat.mul_comm]), List.drop_append, List.drop_of_length_le (by rw [List.length_map]; omega), List.nil_append, List.length_map, hl, show n * 128 + 128 * k - 128 * n = 128 * k by omega, List.map_append]
    rw [hrow] at hr
    have h1 := hH.setRow i ((l ++ zs (128 * k)).map bv ++ spare.drop (128 * k)).toArray hS hi
    have h2 := hH.front h1 (i := i) (x := (b, ((l ++ zs (128 * k)).map bv ++ spare.drop (128 * k)).toArray, e)) (by rw [List.getElem?_set_self hil])
    rw [List.eraseIdx_set_eq] at h2
    refine hs.go hw hd ?_ (hk b c _ _ hroom hmax.2 (by rw [List.length_drop, hsp]; omega) h2)
    unfold execOp; rw [hop]
    simp only [resolve, Sem.run_bind, Sem.run_pure, Result.andThen_ok, invoke, builtin, e1, hr]
    all_goals rfl
  · have hold : (Builtin.firstCells inf.size n (.slice (some ⟨b, 0, none⟩) n c)).run P w.drew = .ok (l.map bv).toArray w.drew := by
      have hl2 := run_loadCells_list (P := P) w.drew ⟨b, 0, none⟩ (l.map bv) (fun j u hu => by
        rw [addr_add, Nat.zero_add]
        refine (cell_of_row w b j cs e (0, 0) hb).trans ?_
        rw [← Array.getElem?_toList, hcs, List.getElem?_append_left (List.getElem?_eq_some_iff.1 hu).1]; exact hu)
      rw [List.length_map, hl, Nat.mul_comm] at hl2
      simp [Builtin.firstCells, hsz, hl2]
    have hnx : Builtin.nextslicecap (n + k) c ≤ 2 * (n + k) := nextslicecap_le (by omega)
    have hr := Lib.run_append_grow_zeros (P := P) w t tn o.type e inf zz kq kn ht htn.is hie hz1 (some ⟨b, 0, none⟩) n c (l.map bv) hold k (by omega) (by omega) (by omega) (by omega) (by rw [hby]; omega) (by rw [hby]; omega)
    have hcap := grownCap_ge w (n + k) c e
    have hcm := grownCap_le_maxLen w (n + k) c e (by unfold maxLen; omega)
    generalize grownCap w (n + k) c e = c' at *
    have hcell : (l.map bv).toArray ++ Builtin.zeroCells zz.cells k ++ Builtin.zeroCells zz.cells (c' - (n + k)) = ((l ++ zs (128 * k)).map bv ++ (zs (128 * (c' - (n + k)))).map bv).toArray := by
      rw [hz2, zeroCells_sect, zeroCells_sect]
      apply Array.ext'
      simp [bvs]
    rw [hcell] at hr
    have hS1 : H w.drew L := hH.call hS ⟨rfl, rfl, rfl, Nat.le_refl _, fun _ _ => rfl⟩
    have h2 := hH.alloc ((l ++ zs (128 * k)).map bv ++ (zs (128 * (c' - (n + k)))).map bv).toArray e hS1
    have h3 := hH.sub (L' := (w.drew.heap.size, ((l ++ zs (128 * k)).map bv ++ (zs (128 * (c' - (n + k)))).map bv).toArray, e) :: L.eraseIdx i) h2 (fun y hy => by
      rcases List.mem_cons.1 hy with rfl | hy
      · exact List.mem_cons_self ..
      · exact List.mem_cons_of_mem _ (List.mem_of_mem_eraseIdx hy)) (by
      have hn := hH.nodup h2
      simp only [List.map_cons, List.nodup_cons] at hn ⊢
      exact ⟨fun hm => hn.1 (by
        obtain ⟨y, hy, he⟩ := List.mem_map.1 hm
        exact List.mem_map.2 ⟨y, List.mem_of_mem_eraseIdx hy, he⟩), (hn.2.sublist ((List.eraseIdx_sublist L i).map _))⟩)
    refine hs.go hw hd ?_ (hk _ c' _ _ hcap hcm (by rw [List.length_map, zs_len, Nat.mul_comm]) h3)
    unfold execOp; rw [hop]
    simp only [resolve, Sem.run_bind, Sem.run_pure, Result.andThen_ok, invoke, builtin, e1, hr]
    all_goals rfl
end
end Go.Proofs.Ytcjncidahjneaaa

namespace Go.Proofs.Ytcjncidahjneaaa
open Go.ChangeShapes Go.WideShapes Go.ChangeAt Go.RowKit
attribute [local irreducible] wpList wpListIn Oper.quietAt wpM
attribute [local irreducible] tagL
theorem bodyL_snoc2 (l : List Pt) (x : Pt) : bodyL (l ++ [x]) = bodyL l ++ x.2 := by unfold bodyL; rw [List.flatMap_append, List.flatMap_singleton]
theorem take_body2 (X : List UInt8) : ∀ i, i ≤ saysR (celX X 0) → X.take (128 * (i + 2)) = celX X 0 ++ (celX X 1 ++ bodyL ((putsD X).take i))
  | 0, _ => by
    rw [List.take_zero, show bodyL [] = [] from rfl, List.append_nil]
    have h1 := celX_next X 1
    have h0 := celX_next X 0
    rw [Nat.mul_zero, List.take_zero, List.nil_append] at h0
    rw [show (0 + 2 : Nat) = 1 + 1 from rfl, h1, show (1 : Nat) = 0 + 1 from rfl, h0]
  | i + 1, h => by
    have ih := take_body2 X i (by omega)
    have h1 := celX_next X (i + 2)
    rw [show i + 1 + 2 = i + 2 + 1 by omega, h1, ih, putsD_next (by omega), bodyL_snoc2, List.append_assoc, List.append_assoc, Nat.add_comm 2 i]
theorem celX_get {X : List UInt8} {j i : Nat} (h : i < 128) : (celX X j)[i]? = X[128 * j + i]? := by
  unfold celX
  rw [List.getElem?_take, if_pos h, List.getElem?_drop]
theorem celX_ext {X Y : List UInt8} {j : Nat} (h : ∀ i, i < 128 → X[128 * j + i]? = Y[128 * j + i]?) : celX X j = celX Y j := by
  apply List.ext_getElem?
  intro i
  by_cases hi : i < 128
  · rw [celX_get hi, celX_get hi, h i hi]
  · unfold celX
    rw [List.getElem?_take, if_neg hi, List.getElem?_take, if_neg hi]
theorem celX_set {X : List UInt8} {at' j : Nat} {y : UInt8} (h : at' / 128 ≠ j) : celX (X.set at' y) j = celX X j := celX_ext fun i hi => by
  rw [List.getElem?_set, if_neg]
  intro e
  exact h (by omega)
theorem set_ne {X : List UInt8} {at' : Nat} {y : UInt8} (h : at' < X.length) (hy : X[at']? ≠ some y) : X.set at' y ≠ X := fun e => hy (by
  rw [← e, List.getElem?_set, if_pos rfl, if_pos h])
/-- Sectors of an entry, but for one byte, that are an entry's: another text has the tag. -/
theorem flip_law {key : List UInt8} {n : Int} {l : List Pt} {at' : Nat} {y : UInt8} (ho : okP l) (hs : soundP l) (ha : at' < 128 * (l.length + 2)) (hy : (encL key n l)[at']? ≠ some y) (hd : DecOk key ((encL key n l).set at' y) (l.length + 2)) :
    celX ((encL key n l).set at' y) 0 ++ bodyL (putsD ((encL key n l).set at' y)) ≠ firstC n l ++ bodyL l ∧ tagL key (celX ((encL key n l).set at' y) 0 ++ bodyL (putsD ((encL key n l).set at' y))) = tagL key (firstC n l ++ bodyL l) := by
  have h56 := hs.2.2
  have lE := encL_len key n ho h56
  have e0 := encL_0 key n h56
  have e1 := encL_1 key n h56
  have eb := fun i x hx => encL_body key n [] ho h56 (i := i) (x := x) hx
  rw [List.append_nil] at eb
  have hne := set_ne (X := encL key n l) (by omega) hy
  have hset := fun j h => celX_set (X := encL key n l) (at' := at') (j := j) (y := y) h
  have lY : ((encL key n l).set at' y).length = 128 * (l.length + 2) := by rw [List.length_set, lE]
  have hq := saysR_of n h56
  have hfull : (encL key n l).take (128 * (l.length + 2)) = encL key n l := List.take_of_length_le (by omega)
  have hE : encL key n l = firstC n l ++ (tagC key (firstC n l) l ++ bodyL l) := rfl
  obtain ⟨E, hEE⟩ : ∃ E, encL key n l = E := ⟨_, rfl⟩
  rw [hEE] at lE e0 e1 hne lY hset hfull hE hd ⊢
  simp only [hEE] at eb
  obtain ⟨Y, hY⟩ : ∃ Y, E.set at' y = Y := ⟨_, rfl⟩
  rw [hY] at hne lY hd ⊢
  simp only [hY] at hset
  have l0 := celX_len lY (show 0 < l.length + 2 by omega)
  have lF := firstC_len n h56
  obtain ⟨d1, d2, _, _, _, d6⟩ := hd
  have hdiff : ¬ (celX Y 0 ++ bodyL (putsD Y) = firstC n l ++ bodyL l ∧ celX Y 1 = celX E 1) := by
    rintro ⟨h, h1⟩
    obtain ⟨h2, h3⟩ := List.append_inj h (by rw [l0, lF])
    have hb := take_body2 Y (saysR (celX Y 0)) (Nat.le_refl _)
    rw [List.take_of_length_le (l := putsD Y) (by rw [putsD_len]; exact Nat.le_refl _), h2, hq, List.take_of_length_le (by omega), h1, h3, e1] at hb
    exact hne (by rw [hb, hE])
  by_cases hs1 : at' / 128 = 1
  · exfalso
    have h0 := hset 0 (by omega)
    have hP : putsD Y = l := putsD_of hs (h0.trans e0) (fun i x hx => (hset (2 + i) (by omega)).trans (eb i x hx))
    have h1 : celX Y 1 = celX E 1 := by rw [← d6, h0, hP, e0, e1]
    exact hdiff ⟨by rw [h0, hP, e0], h1⟩
  · have h1 := hset 1 hs1
    refine ⟨fun h => hdiff ⟨h, h1⟩, ?_⟩
    rw [h1, e1] at d6
    unfold tagC at d6
    exact (List.append_inj d6 (by rw [tagL_len, tagL_len])).1
theorem dec_true2 {key X : List UInt8} {n : Nat} (hX : X.length = 128 * n) (h : DecOk key X n) : okP (putsD X) ∧ (putsD X).length ≤ 56 ∧ tagL key (celX X 0 ++ bodyL (putsD X)) = (celX X 1).take 32 ∧ 2 ≤ n := by
  obtain ⟨h1, h2, h3⟩ : 2 ≤ n ∧ 2 + saysR (celX X 0) ≤ n ∧ tagC key (celX X 0) (putsD X) = celX X 1 := by
    unfold DecOk at h
    exact ⟨h.1, h.2.1, h.2.2.2.2.2⟩
  have h4 := putsD_ok hX (k := saysR (celX X 0)) h2
  have h5 := putsD_len X
  rw [List.take_of_length_le (by rw [h5]; exact Nat.le_refl _)] at h4
  refine ⟨h4, by rw [h5]; exact saysR_le _, ?_, h1⟩
  rw [← h3]
  unfold tagC
  rw [List.take_left' (tagL_len _ _)]
end Go.Proofs.Ytcjncidahjneaaa

namespace Go.Proofs.Ytcjncidahjneaaa
open Go.ChangeShapes Go.WideShapes Go.ChangeAt Go.RowKit
attribute [local irreducible] wpList wpListIn Oper.quietAt wpM
attribute [local irreducible] tagL
/-- A byte with one bit. -/
def bitB (s : Nat) : UInt8 := UInt8.ofNat (2 ^ s)
theorem bitB_ne {s : Nat} (h : s < 8) : bitB s ≠ 0 := by
  unfold bitB
  match s, h with
  | 0, _ => decide
  | 1, _ => decide
  | 2, _ => decide
  | 3, _ => decide
  | 4, _ => decide
  | 5, _ => decide
  | 6, _ => decide
  | 7, _ => decide
theorem xor_bit_ne {b : UInt8} {s : Nat} (h : s < 8) : b ^^^ bitB s ≠ b := fun e => bitB_ne h (by
  have h2 : b ^^^ (b ^^^ bitB s) = b ^^^ b := by rw [e]
  rwa [← UInt8.xor_assoc, UInt8.xor_self, UInt8.zero_xor] at h2)
theorem shl8_val {s : Nat} (h : s < 8) : IntKind.u8.wrap ((1 : Int) * 2 ^ s) = ((bitB s).toNat : Int) := by
  unfold bitB
  match s, h with
  | 0, _ => decide +kernel
  | 1, _ => decide +kernel
  | 2, _ => decide +kernel
  | 3, _ => decide +kernel
  | 4, _ => decide +kernel
  | 5, _ => decide +kernel
  | 6, _ => decide +kernel
  | 7, _ => decide +kernel
theorem r_shl8 {P : Program} {o : Oper} {a : Act} {w : World} {t t' : TypeId} {x y : Operand} {s : Nat} {ks : IntKind} (hop : o.op = .binOp .shl t x y t') (hx : evO a x = some (.int .u8 1)) (hy : evO a y = some (.int ks (s : Int))) (hs : s < 8) : (execOp a.eval o).run P w = .ok (.value (.int .u8 ((bitB s).toNat : Int))) w := by
  have h4 : Op.shift .shl .u8 1 ks (s : Int) = pure (.int .u8 ((bitB s).toNat : Int)) := by
    have e1 : ¬ ((s : Int) < 0) := by omega
    have e2 : min ((s : Int).toNat) IntKind.u8.bits = s := by rw [Int.toNat_natCast]; exact Nat.min_eq_left (by show s ≤ 8; omega)
    unfold Op.shift
    rw [if_neg e1]
    dsimp only
    rw [e2, ← shl8_val hs]
  unfold execOp; rw [hop]
  simp only [Bb hx, Bb hy, Sem.run_bind]
  rw [show (eqGuard .shl t x y (.int .u8 1) (.int ks (s : Int))).run P w = .ok () w by unfold eqGuard; rfl]
  rw [Result.andThen_ok, show binOp .shl t (.int .u8 1) (.int ks (s : Int)) = Op.shift .shl .u8 1 ks (s : Int) from rfl, h4]
  rfl
theorem set_row {X : List UInt8} {sp : List Value} {i : Nat} {y : UInt8} (h : i < X.length) : ((X.map bv ++ sp).toArray).setIfInBounds i (.int .u8 (y.toNat : Int)) = ((X.set i y).map bv ++ sp).toArray := by
  rw [List.setIfInBounds_toArray, List.set_append_left _ _ (by rw [List.length_map]; exact h), List.map_set]
  rfl
set_option maxRecDepth 100000 in
theorem same_txt (l m : List UInt8) (v1 v2 : Value) (w0 : World) (h1 : BytesAt w0 v1 l) (h2 : BytesAt w0 v2 m) : Calls Try.prog 48 #[v1, v2] w0 fun e w' => e = .returned (.bool (decide (l = m))) ∧ Below w0.heap.size w0 w' := by
  obtain ⟨p1, c1, rfl, _⟩ := h1.slice
  obtain ⟨p2, c2, rfl, _⟩ := h2.slice
  have hS := St.start w0
  go_enter Try.func48, Try.ntmps48
  repeat' (first | ((with_reducible refine Ac ?_); first | ((first | refine Ai Aa ?_ | refine Al Aa ?_ | refine Af Aa ?_ | refine Ak Aa ?_ | refine Aj Aa ?_ | refine Aw Aa (fun hc => ?_) (fun hc => ?_) | refine Bq Aa ?_) <;> refine Ad ?_) | (refine Stp.go Aa (by rfl) (by rfl) (r_txt (by rfl) (by rfl) Try.underlying22 Try.underlying5 Try.underlying9 (by first | exact h1.below hS.below | exact h2.below hS.below)) ?_; refine Ad ?_) | (refine Stp.go Aa (by rfl) (by rfl) (r_eqTx (by rfl) (by rfl) (by rfl) rfl) ?_; refine Ad ?_)) | ((fail_if_success (with_reducible refine Ac ?_)); first | go_step | go_step3 | rw [Exit.noGoto_normal] | rw [Exit.noGoto_ret] | rw [Exit.noGoto_exit]))
  go_ret
  exact ⟨rfl, hS.below⟩
/-- A first sector and those from the third on. -/
def txtL (X : List UInt8) : List UInt8 := celX X 0 ++ X.drop 256
theorem drop_next (X : List UInt8) (k : Nat) : (X.drop 256).take (128 * (k + 1)) = (X.drop 256).take (128 * k) ++ celX X (2 + k) := by
  unfold celX
  rw [show 128 * (k + 1) = 128 * k + 128 by omega, List.take_add, List.drop_drop, show 256 + 128 * k = 128 * (2 + k) by omega]
set_option maxRecDepth 100000 in
set_option maxHeartbeats 4000000 in
theorem back1_any (X : List UInt8) (n : Nat) (h2 : 2 ≤ n) (hn : n ≤ 1000) (v : Value) (w0 : World) (hv : CellsAt w0 v X n) :
    Calls Try.prog 47 #[v] w0 fun e w' => ∃ g c, e = .returned (.slice (some ⟨g, 0, none⟩) (128 * (n - 1)) c) ∧ BytesAt w' (.slice (some ⟨g, 0, none⟩) (128 * (n - 1)) c) (txtL X) ∧ Below w0.heap.size w0 w' := by
  obtain ⟨hX, p, c, rfl, hc, hp0, hcell⟩ := id hv
  obtain ⟨b0, o0, cs, ty, fr, rfl, hb, hcc⟩ := hcell (by omega)
  have hS := St.start w0
  have lY0 := celX_len hX (show 0 < n by omega)
  have hb0 : ∀ w', blk w' b0 = some (.cells cs ty fr) → BytesAt w' (.slice (some ⟨b0, o0 + 0 * 128, none⟩) 128 128) (celX X 0) := fun w' h => celX_bytes hX (by omega) h hcc rfl (Nat.le_refl _)
  obtain ⟨q, hq⟩ : ∃ q, n = q + 2 := ⟨n - 2, by omega⟩
  subst hq
  go_enter Try.func47, Try.ntmps47
  repeat' (first | ((with_reducible refine Ac ?_); first | ((first | refine Ai Aa ?_ | refine Al Aa ?_ | refine Af Aa ?_ | refine Ba Aa Ab hS ?_ | refine Da Aa (by first | exact ((hS).far hb).1) ?_ | refine Ag Aa ?_ | refine Ae Aa ?_ | refine Be Aa ?_ | refine Bd Aa ?_ | refine Ak Aa ?_ | refine Aj Aa ?_ | refine Aw Aa (fun hc => ?_) (fun hc => ?_) | refine Bh Aa ?_ | refine Bc Aa ?_ | refine Au Aa ?_ | refine Ar Aa ?_) <;> refine Ad ?_) | ((first | refine Ay Aa Ab hS ?_ | refine Ao Aa Ab hS ?_ | refine As Aa Ab hS ?_); clear hS; intro b w hS; refine Ad ?_) | ((first | refine Ap Aa Ab hS ?_ | refine Aq Aa Ab hS ?_); clear hS; intro w hS; refine Ad ?_)) | ((fail_if_success (with_reducible refine Ac ?_)); first | go_step | go_step3 | rw [Exit.noGoto_normal] | rw [Exit.noGoto_ret] | rw [Exit.noGoto_exit]))
  refine s_appX Aa Ab hS (by rfl) (by rfl) (by rfl) (by rfl) (by infer_instance) (by exact at_ 0 rfl) (l := []) (spare := []) (by rfl) rfl (Nat.le_refl _) (by rfl) (hb0 _ (hS.far hb).1) (by rw [lY0]; decide) (nm := 128) (by rw [lY0]; rfl) ?_
  clear hS
  intro bt ct spt w5 j1 j2 j3 hS
  rw [List.nil_append] at hS
  refine Ad ?_
  obtain ⟨Y0, hY0⟩ : ∃ x, celX X 0 = x := ⟨_, rfl⟩
  rw [hY0] at hS lY0
  have hT : txtL X = Y0 ++ X.drop 256 := by rw [← hY0]; rfl
  clear hb0
  by_cases hc2 : c = 2
  · have hq0 : q = 0 := by omega
    subst hq0
    have hX0 : X.drop 256 = [] := List.drop_of_length_le (by omega)
    repeat' (first | ((with_reducible refine Ac ?_); first | ((first | refine Ai Aa ?_ | refine Al Aa ?_ | refine Af Aa ?_ | refine Ba Aa Ab hS ?_ | refine Ag Aa ?_ | refine Ae Aa ?_ | refine Be Aa ?_ | refine Bd Aa ?_ | refine Ak Aa ?_ | refine Aj Aa ?_ | refine Aw Aa (fun hc => ?_) (fun hc => ?_) | refine Bh Aa ?_ | refine Bc Aa ?_ | refine Au Aa ?_ | refine Ar Aa ?_) <;> refine Ad ?_) | ((first | refine Ay Aa Ab hS ?_ | refine Ao Aa Ab hS ?_ | refine As Aa Ab hS ?_); clear hS; intro b w hS; refine Ad ?_) | ((first | refine Ap Aa Ab hS ?_ | refine Aq Aa Ab hS ?_); clear hS; intro w hS; refine Ad ?_) | (refine Stp.go Aa (by rfl) (by rfl) (r_sliceE (by rfl) (by rfl) (by infer_instance) (by rfl) (by rfl) (by constructor <;> simp [hc2])) ?_; refine Ad ?_)) | ((fail_if_success (with_reducible refine Ac ?_)); first | go_step | go_step3 | rw [Exit.noGoto_normal] | rw [Exit.noGoto_ret] | rw [Exit.noGoto_exit]))
    go_loopw [3, 5, 14] (fun u3 u5 u14 wr => u14 = .int .i64 0 ∧ u3 = .slice (some ⟨bt, 0, none⟩) 128 ct ∧ St w0 wr [(bt, (Y0.map bv ++ spt).toArray, 5)]) (fun _ _ _ _ => 0)
    case atStart => exact ⟨rfl, rfl, hS⟩
    case round =>
      clear hS
      obtain ⟨rfl, rfl, hS⟩ := hrel
      repeat' (first | ((with_reducible refine Ac ?_); first | ((first | refine Ai Aa ?_ | refine Al Aa ?_ | refine Af Aa ?_ | refine Ba Aa Ab hS ?_ | refine Ag Aa ?_ | refine Ae Aa ?_ | refine Be Aa ?_ | refine Bd Aa ?_ | refine Ak Aa ?_ | refine Aj Aa ?_ | refine Aw Aa (fun hc => ?_) (fun hc => ?_) | refine Bh Aa ?_ | refine Bc Aa ?_ | refine Au Aa ?_ | refine Ar Aa ?_) <;> refine Ad ?_) | ((first | refine Ay Aa Ab hS ?_ | refine Ao Aa Ab hS ?_ | refine As Aa Ab hS ?_); clear hS; intro b w hS; refine Ad ?_) | ((first | refine Ap Aa Ab hS ?_ | refine Aq Aa Ab hS ?_); clear hS; intro w hS; refine Ad ?_)) | ((fail_if_success (with_reducible refine Ac ?_)); first | go_step | go_step3 | rw [Exit.noGoto_normal] | rw [Exit.noGoto_ret] | rw [Exit.noGoto_exit]))
      go_ret
      exact ⟨bt, ct, rfl, bytesAt_blk (hS.blk 0 rfl) (by rw [hT, hX0, List.append_nil, lY0]) j1 (fun j x hj => by
        rw [hT, hX0, List.append_nil] at hj
        rw [Nat.zero_add, List.getElem?_toArray, List.getElem?_append_left (by rw [List.length_map]; exact (List.getElem?_eq_some_iff.1 hj).1), List.getElem?_map, hj]; rfl), hS.below⟩
  · have hc3 : 2 < c := by omega
    repeat' (first | ((with_reducible refine Ac ?_); first | ((first | refine Ai Aa ?_ | refine Al Aa ?_ | refine Af Aa ?_ | refine Ba Aa Ab hS ?_ | refine Ag Aa ?_ | refine Ae Aa ?_ | refine Be Aa ?_ | refine Bd Aa ?_ | refine Ak Aa ?_ | refine Aj Aa ?_ | refine Aw Aa (fun hc => ?_) (fun hc => ?_) | refine Bh Aa ?_ | refine Bc Aa ?_ | refine Au Aa ?_ | refine Ar Aa ?_) <;> refine Ad ?_) | ((first | refine Ay Aa Ab hS ?_ | refine Ao Aa Ab hS ?_ | refine As Aa Ab hS ?_); clear hS; intro b w hS; refine Ad ?_) | ((first | refine Ap Aa Ab hS ?_ | refine Aq Aa Ab hS ?_); clear hS; intro w hS; refine Ad ?_)) | ((fail_if_success (with_reducible refine Ac ?_)); first | go_step | go_step3 | rw [Exit.noGoto_normal] | rw [Exit.noGoto_ret] | rw [Exit.noGoto_exit]))
    go_loopw [3, 5, 14] (fun u3 u5 u14 wr => ∃ (k g c : Nat) (sp : List Value), k ≤ q ∧ u14 = .int .i64 (k : Int) ∧ u3 = .slice (some ⟨g, 0, none⟩) (128 + 128 * k) c ∧ 128 + 128 * k ≤ c ∧ c ≤ maxLen ∧ sp.length = c - (128 + 128 * k) ∧ St w0 wr [(g, ((Y0 ++ (X.drop 256).take (128 * k)).map bv ++ sp).toArray, 5)]) (fun _ _ u14 _ => q - (intOf u14).toNat)
    case atStart => exact ⟨0, bt, ct, spt, by omega, rfl, rfl, j1, j2, j3, by rw [Nat.mul_zero, List.take_zero, List.append_nil]; exact hS⟩
    case round =>
      clear hS j1 j2 j3
      obtain ⟨k, g, c4, sp, hk1, rfl, rfl, j1, j2, j3, hS⟩ := hrel
      have j2' := j2
      unfold maxLen at j2'
      have hlk : (Y0 ++ (X.drop 256).take (128 * k)).length = 128 + 128 * k := by
        rw [List.length_append, lY0, List.length_take, List.length_drop]; omega
      by_cases hlt : k < q
      · obtain ⟨d1, d2, d3⟩ := celX_cut hX (show 2 + k < q + 2 by omega) hcc
        have lC := celX_len hX (show 2 + k < q + 2 by omega)
        have hbd := drop_next X k
        rw [show o0 + (2 + k) * 128 = o0 + 256 + k * 128 by omega] at d1 d2
        obtain ⟨C, hC⟩ : ∃ C, celX X (2 + k) = C := ⟨_, rfl⟩
        rw [hC] at d2 lC hbd
        have sC : csz (bvs C) = 128 := by rw [Bg, lC]
        obtain ⟨Z, hZ⟩ : ∃ Z, Y0 ++ (X.drop 256).take (128 * k) = Z := ⟨_, rfl⟩
        rw [hZ] at hS hlk
        have hZ2 : Z ++ C = Y0 ++ (X.drop 256).take (128 * (k + 1)) := by rw [hbd, ← hZ, List.append_assoc]
        clear hZ d3
        repeat' (first | ((with_reducible refine Ac ?_); first | ((first | refine Ai Aa ?_ | refine Al Aa ?_ | refine Af Aa ?_ | refine Ba Aa Ab hS ?_ (hv := by first | exact Bo _ _ (by (try simp only [Bn, Bg, Bm, List.length_append, List.length_set, zs_len, List.length_take, List.length_drop, List.length_cons, List.length_nil]); first | done | rfl | omega) | (exact d2) | rfl) | refine Da Aa (by first | exact ((hS).far hb).1) ?_ (hv := by first | exact Bo _ _ (by (try simp only [Bn, Bg, Bm, List.length_append, List.length_set, zs_len, List.length_take, List.length_drop, List.length_cons, List.length_nil]); first | done | rfl | omega) | (exact d2) | rfl) | refine Ag Aa ?_ | refine Ae Aa ?_ | refine Be Aa ?_ | refine Bd Aa ?_ | refine Ak Aa ?_ | refine Aj Aa ?_ | refine Aw Aa (fun hc => ?_) (fun hc => ?_) | refine Bh Aa ?_ | refine Bc Aa ?_ | refine Au Aa ?_ | refine Ar Aa ?_) <;> refine Ad ?_) | ((first | refine Ay Aa Ab hS ?_ | refine Ao Aa Ab hS ?_ | refine As Aa Ab hS ?_); clear hS; intro b w hS; refine Ad ?_) | ((first | refine Ap Aa Ab hS ?_ | refine Aq Aa Ab hS ?_); clear hS; intro w hS; refine Ad ?_)) | ((fail_if_success (with_reducible refine Ac ?_)); first | go_step | go_step3 | rw [Exit.noGoto_normal] | rw [Exit.noGoto_ret] | rw [Exit.noGoto_exit]))
        refine s_appX Aa Ab hS (by rfl) (by rfl) (by rfl) (by rfl) (by infer_instance) (by exact at_ 1 rfl) (l := Z) (spare := sp) (by rfl) hlk j1 j3 (bytesAt_whole (hS.blk 0 rfl) lC) (by unfold maxLen; omega) (nm := 128 + 128 * (k + 1)) (by omega) ?_
        clear hS
        intro bt ct spt w6 z1 z2 z3 hS
        rw [hZ2] at hS
        replace hS := hS.take 1
        refine Ad ?_
        repeat' (first | ((with_reducible refine Ac ?_); first | ((first | refine Ai Aa ?_ | refine Al Aa ?_ | refine Af Aa ?_ | refine Ba Aa Ab hS ?_ | refine Ag Aa ?_ | refine Ae Aa ?_ | refine Be Aa ?_ | refine Bd Aa ?_ | refine Ak Aa ?_ | refine Aj Aa ?_ | refine Aw Aa (fun hc => ?_) (fun hc => ?_) | refine Bh Aa ?_ | refine Bc Aa ?_ | refine Au Aa ?_ | refine Ar Aa ?_) <;> refine Ad ?_) | ((first | refine Ay Aa Ab hS ?_ | refine Ao Aa Ab hS ?_ | refine As Aa Ab hS ?_); clear hS; intro b w hS; refine Ad ?_) | ((first | refine Ap Aa Ab hS ?_ | refine Aq Aa Ab hS ?_); clear hS; intro w hS; refine Ad ?_)) | ((fail_if_success (with_reducible refine Ac ?_)); first | go_step | go_step3 | rw [Exit.noGoto_normal] | rw [Exit.noGoto_ret] | rw [Exit.noGoto_exit]))
        go_roundw
        case rel => exact ⟨k + 1, bt, ct, spt, by omega, by push_cast; rfl, rfl, z1, z2, z3, hS⟩
        case measure => first | (simp [intOf]; done) | (simp [intOf]; omega)
      · obtain rfl : k = q := by omega
        rw [List.take_of_length_le (l := X.drop 256) (by rw [List.length_drop]; omega)] at hS hlk
        repeat' (first | ((with_reducible refine Ac ?_); first | ((first | refine Ai Aa ?_ | refine Al Aa ?_ | refine Af Aa ?_ | refine Ba Aa Ab hS ?_ | refine Ag Aa ?_ | refine Ae Aa ?_ | refine Be Aa ?_ | refine Bd Aa ?_ | refine Ak Aa ?_ | refine Aj Aa ?_ | refine Aw Aa (fun hc => ?_) (fun hc => ?_) | refine Bh Aa ?_ | refine Bc Aa ?_ | refine Au Aa ?_ | refine Ar Aa ?_) <;> refine Ad ?_) | ((first | refine Ay Aa Ab hS ?_ | refine Ao Aa Ab hS ?_ | refine As Aa Ab hS ?_); clear hS; intro b w hS; refine Ad ?_) | ((first | refine Ap Aa Ab hS ?_ | refine Aq Aa Ab hS ?_); clear hS; intro w hS; refine Ad ?_)) | ((fail_if_success (with_reducible refine Ac ?_)); first | go_step | go_step3 | rw [Exit.noGoto_normal] | rw [Exit.noGoto_ret] | rw [Exit.noGoto_exit]))
        go_ret
        exact ⟨g, c4, by rw [show 128 * (k + 2 - 1) = 128 + 128 * k by omega]; rfl, by
          rw [show 128 * (k + 2 - 1) = 128 + 128 * k by omega, hT]
          exact bytesAt_blk (hS.blk 0 rfl) hlk j1 (fun j x hj => by rw [Nat.zero_add, List.getElem?_toArray, List.getElem?_append_left (by rw [List.length_map]; exact (List.getElem?_eq_some_iff.1 hj).1), List.getElem?_map, hj]; rfl), hS.below⟩
end Go.Proofs.Ytcjncidahjneaaa
