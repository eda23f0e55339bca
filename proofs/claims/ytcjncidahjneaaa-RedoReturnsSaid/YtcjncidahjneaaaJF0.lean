/-
  Laws that the claims of this seat use, of several texts in one: Slices7, Sh7, AppZ, Sh8, Sh9, Sh10. No condition of their own.
-/
import Derived.Test.YtcjncidahjneaaaJE1

namespace Go.Proofs.Ytcjncidahjneaaa
open Go.ChangeShapes Go.WideShapes Go.ChangeAt Go.RowKit
attribute [local irreducible] wpList wpListIn
set_option maxRecDepth 100000 in
set_option maxHeartbeats 1000000 in
theorem grow_none (n : Nat) (hn : 0 < n) (hm : n ≤ 1000000000) (w : World) :
    Calls Try.prog 75 #[.slice none 0 0, .int .i64 (n : Int)] w fun e w' => ∃ g c, e = .returned (.slice (some ⟨g, 0, none⟩) 0 c) ∧ n ≤ c ∧ c ≤ maxLen ∧ w.heap.size ≤ g ∧ blk w' g = some (.cells (bvs (zs c)) 5 (0, 0)) ∧ Below w.heap.size w w' := by
  have hS := St.start w
  go_enter Try.func75, Try.ntmps75
  repeat' (first | ((with_reducible refine Ac ?_); first | ((first | refine Ai Aa ?_ | refine Al Aa ?_ | refine Af Aa ?_ | refine Be Aa ?_ | refine g_cap Aa ?_ | refine Cj Aa ?_ | refine Ak Aa ?_ | refine Aj Aa ?_ | refine Aw Aa (fun hc => ?_) (fun hc => ?_) | refine Ax Aa ?_ | refine Bh Aa ?_ | refine Bc Aa ?_ | refine Au Aa ?_) <;> refine Ad ?_)) | ((fail_if_success (with_reducible refine Ac ?_)); first | go_step | go_step3 | rw [Exit.noGoto_normal] | rw [Exit.noGoto_ret] | rw [Exit.noGoto_exit]))
  refine s_appendZ Aa Ab hS (by rfl) (by rfl) (by rfl) (by rfl) (by infer_instance) (by infer_instance) (by exact Try.underlying3) ⟨hn, hm⟩ ?_
  clear hS
  intro b' c' w' h1 h2 hS
  refine Ad ?_
  repeat' (first | ((with_reducible refine Ac ?_); first | ((first | refine Ai Aa ?_ | refine Al Aa ?_ | refine Af Aa ?_ | refine Be Aa ?_ | refine g_cap Aa ?_ | refine Cj Aa ?_ | refine Ak Aa ?_ | refine Aj Aa ?_ | refine Aw Aa (fun hc => ?_) (fun hc => ?_) | refine Ax Aa ?_ | refine Bh Aa ?_ | refine Bc Aa ?_ | refine Au Aa ?_) <;> refine Ad ?_)) | ((fail_if_success (with_reducible refine Ac ?_)); first | go_step | go_step3 | rw [Exit.noGoto_normal] | rw [Exit.noGoto_ret] | rw [Exit.noGoto_exit]))
  go_ret
  exact ⟨b', c', rfl, h1, h2, (hS.2.1 _ (List.mem_cons_self ..)).1, hS.blk 0 rfl, hS.below⟩
end Go.Proofs.Ytcjncidahjneaaa

namespace Go.Proofs.Ytcjncidahjneaaa
open Go.ChangeShapes Go.WideShapes Go.ChangeAt Go.RowKit
attribute [local irreducible] wpList wpListIn Oper.quietAt wpM
/-- Slices of bytes, each with what it holds; none is empty. -/
def PartsAt (w : World) (vs : List Value) (ls : List (List UInt8)) : Prop := vs.length = ls.length ∧ ∀ (i : Nat) (v : Value) (l : List UInt8), vs[i]? = some v → ls[i]? = some l → BytesAt w v l ∧ l ≠ []
theorem PartsAt.below {w w' : World} {vs : List Value} {ls : List (List UInt8)} (h : PartsAt w vs ls) (hb : Below w.heap.size w w') : PartsAt w' vs ls :=
  ⟨h.1, fun i v l hi hl => ⟨(h.2 i v l hi hl).1.below hb, (h.2 i v l hi hl).2⟩⟩
theorem PartsAt.nil (w : World) : PartsAt w [] [] := ⟨rfl, fun i v l h => by simp at h⟩
theorem PartsAt.cons {w : World} {v : Value} {l : List UInt8} {vs : List Value} {ls : List (List UInt8)} (h1 : BytesAt w v l) (hne : l ≠ []) (h : PartsAt w vs ls) : PartsAt w (v :: vs) (l :: ls) := by
  refine ⟨by simp [h.1], fun i v' l' hi hl => ?_⟩
  cases i with
  | zero => simp at hi hl; subst hi hl; exact ⟨h1, hne⟩
  | succ i => exact h.2 i v' l' (by simpa using hi) (by simpa using hl)
theorem flat_take {ls : List (List UInt8)} {k : Nat} {l : List UInt8} (h : ls[k]? = some l) : (ls.take (k + 1)).flatten = (ls.take k).flatten ++ l := by
  rw [List.take_add_one, h, List.flatten_append]
  simp
theorem flat_le {ls : List (List UInt8)} (k : Nat) : (ls.take k).flatten.length ≤ ls.flatten.length := by
  have h : ls.flatten = (ls.take k).flatten ++ (ls.drop k).flatten := by rw [← List.flatten_append, List.take_append_drop]
  rw [h, List.length_append]; omega
set_option maxRecDepth 100000 in
set_option maxHeartbeats 4000000 in
theorem concat_n (vs : List Value) (ls : List (List UInt8)) (hne : ls ≠ []) (hm : ls.flatten.length ≤ 1000000000) (bb off c : Nat) (cs : Array Value) (ty : TypeId) (fr : Nat × Nat) (w : World) (hv : PartsAt w vs ls) (hbb : blk w bb = some (.cells cs ty fr)) (hcs : ∀ i v, vs[i]? = some v → cs[off + i]? = some v) (hl9 : ls.length ≤ 1000000000) :
    Calls Try.prog 71 #[.slice (some ⟨bb, off, none⟩) ls.length c] w fun e w' => ∃ g c sp, e = .returned (.slice (some ⟨g, 0, none⟩) ls.flatten.length c) ∧ (ls.flatten.length ≤ c ∧ c ≤ maxLen ∧ sp.length = c - ls.flatten.length) ∧ w.heap.size ≤ g ∧ blk w' g = some (.cells (ls.flatten.map bv ++ sp).toArray 5 (0, 0)) ∧ Below w.heap.size w w' := by
  have hS := St.start w
  obtain ⟨hvl, hva⟩ := hv
  have hpick : ∀ k, k < ls.length → ∃ v l, vs[k]? = some v ∧ ls[k]? = some l ∧ BytesAt w v l ∧ l ≠ [] := fun k hk => by
    have h1 := List.getElem?_eq_getElem (l := vs) (i := k) (by omega)
    have h2 := List.getElem?_eq_getElem (l := ls) (i := k) hk
    exact ⟨_, _, h1, h2, hva k _ _ h1 h2⟩
  have hpos : 0 < ls.flatten.length := by
    obtain ⟨v, l, _, h2, _, h4⟩ := hpick 0 (List.length_pos_iff.2 hne)
    have h5 := flat_le (ls := ls) 1
    rw [flat_take h2, List.length_append] at h5
    have := List.length_pos_iff.2 h4
    omega
  go_enter Try.func71, Try.ntmps71
  repeat' (first | ((with_reducible refine Ac ?_); first | ((first | refine Ai Aa ?_ | refine Al Aa ?_ | refine Af Aa ?_ | refine Av Aa Ab hS ?_ | refine Bs Aa (by first | exact ((hS).far hbb).1) ?_ | refine Ag Aa ?_ | refine Ae Aa ?_ | refine Be Aa ?_ | refine Bd Aa ?_ | refine Ak Aa ?_ | refine Aj Aa ?_ | refine Aw Aa (fun hc => ?_) (fun hc => ?_) | refine Ax Aa ?_) <;> refine Ad ?_)) | ((fail_if_success (with_reducible refine Ac ?_)); first | go_step | go_step3 | rw [Exit.noGoto_normal] | rw [Exit.noGoto_ret] | rw [Exit.noGoto_exit]))
  go_loopw [3, 5, 11] (fun u3 u5 u11 wr => ∃ k : Nat, k ≤ ls.length ∧ u11 = .int .i64 (k : Int) ∧ u3 = .int .i64 (((ls.take k).flatten.length : Nat) : Int) ∧ St w wr []) (fun _ _ u11 _ => ls.length - (intOf u11).toNat)
  case atStart => exact ⟨0, by omega, rfl, by simp, hS⟩
  case round =>
    obtain ⟨k, hk, rfl, rfl, hS⟩ := hrel
    by_cases hlt : k < ls.length
    · obtain ⟨v, l, h1, h2, h3, h4⟩ := hpick k hlt
      have hc := hcs k v h1
      obtain ⟨p, c', rfl, _⟩ := h3.slice
      have hs := congrArg List.length (flat_take h2)
      rw [List.length_append] at hs
      have hle := flat_le (ls := ls) (k + 1)
      obtain ⟨s, hss⟩ : ∃ s, (ls.take k).flatten.length = s := ⟨_, rfl⟩
      rw [hss] at hs ⊢
      repeat' (first | ((with_reducible refine Ac ?_); first | ((first | refine Ai Aa ?_ | refine Al Aa ?_ | refine Af Aa ?_ | refine Av Aa Ab hS ?_ (hv := by first | rfl | exact Bi | (rw [Array.getElem?_toList]; exact hc)) | refine Bs Aa (by first | exact ((hS).far hbb).1) ?_ (hv := by first | rfl | exact Bi | (rw [Array.getElem?_toList]; exact hc)) | refine Ag Aa ?_ | refine Ae Aa ?_ | refine Be Aa ?_ | refine Bd Aa ?_ | refine Ak Aa ?_ | refine Aj Aa ?_ | refine Aw Aa (fun hc => ?_) (fun hc => ?_) | refine Ax Aa ?_) <;> refine Ad ?_)) | ((fail_if_success (with_reducible refine Ac ?_)); first | go_step | go_step3 | rw [Exit.noGoto_normal] | rw [Exit.noGoto_ret] | rw [Exit.noGoto_exit]))
      go_roundw
      case rel => exact ⟨k + 1, by omega, by push_cast; rfl, by rw [hs]; push_cast; rfl, hS⟩
      case measure => first | (simp [intOf]; done) | (simp [intOf]; omega)
    · obtain rfl : k = ls.length := by omega
      rw [List.take_length]
      obtain ⟨n, hn⟩ : ∃ n, ls.flatten.length = n := ⟨_, rfl⟩
      rw [hn] at hm hpos ⊢
      repeat' (first | ((with_reducible refine Ac ?_); first | ((first | refine Ai Aa ?_ | refine Al Aa ?_ | refine Af Aa ?_ | refine Av Aa Ab hS ?_ | refine Bs Aa (by first | exact ((hS).far hbb).1) ?_ | refine Ag Aa ?_ | refine Ae Aa ?_ | refine Be Aa ?_ | refine Bd Aa ?_ | refine Ak Aa ?_ | refine Aj Aa ?_ | refine Aw Aa (fun hc => ?_) (fun hc => ?_) | refine Ax Aa ?_) <;> refine Ad ?_)) | ((fail_if_success (with_reducible refine Ac ?_)); first | go_step | go_step3 | rw [Exit.noGoto_normal] | rw [Exit.noGoto_ret] | rw [Exit.noGoto_exit]))
      refine s_call Aa (by rfl) (by rfl) (by rfl) (by rfl) (by rfl) (by infer_instance) (grow_none n hpos hm _) ?_
      rintro e w' ⟨g, c, rfl, hg1, hg2, hg, hgb, hgB⟩
      refine ⟨_, rfl, ?_⟩
      refine Ad ?_
      replace hS := Ab.new hS hgB hg hgb
      repeat' (first | ((with_reducible refine Ac ?_); first | ((first | refine Ai Aa ?_ | refine Al Aa ?_ | refine Af Aa ?_ | refine Av Aa Ab hS ?_ | refine Bs Aa (by first | exact ((hS).far hbb).1) ?_ | refine Ag Aa ?_ | refine Ae Aa ?_ | refine Be Aa ?_ | refine Bd Aa ?_ | refine Ak Aa ?_ | refine Aj Aa ?_ | refine Aw Aa (fun hc => ?_) (fun hc => ?_) | refine Ax Aa ?_) <;> refine Ad ?_)) | ((fail_if_success (with_reducible refine Ac ?_)); first | go_step | go_step3 | rw [Exit.noGoto_normal] | rw [Exit.noGoto_ret] | rw [Exit.noGoto_exit]))
      go_loopw [6, 8, 27] (fun u6 u8 u27 wr => ∃ (k g c : Nat) (sp : List Value), k ≤ ls.length ∧ u27 = .int .i64 (k : Int) ∧ u6 = .slice (some ⟨g, 0, none⟩) (ls.take k).flatten.length c ∧ (ls.take k).flatten.length ≤ c ∧ c ≤ maxLen ∧ sp.length = c - (ls.take k).flatten.length ∧ St w wr [(g, ((ls.take k).flatten.map bv ++ sp).toArray, 5)]) (fun _ _ u27 _ => ls.length - (intOf u27).toNat)
      case atStart => exact ⟨0, g, c, (zs c).map bv, by omega, rfl, by simp, by simp, hg2, by simp [zs_len], hS⟩
      case round =>
        clear hS
        obtain ⟨k, g, c, sp, hk, rfl, rfl, k1, k2, k3, hS⟩ := hrel
        have hle0 := flat_le (ls := ls) k
        by_cases hlt : k < ls.length
        · obtain ⟨v, l, h1, h2, h3, h4⟩ := hpick k hlt
          have hc := hcs k v h1
          have hs := flat_take h2
          have hsl := congrArg List.length hs
          rw [List.length_append] at hsl
          have hle := flat_le (ls := ls) (k + 1)
          obtain ⟨p, c', rfl, _, _, hcell⟩ := id h3
          obtain ⟨pb, po, _, _, _, rfl, _⟩ := hcell h4
          obtain ⟨S, hSS⟩ : ∃ S, (ls.take k).flatten = S := ⟨_, rfl⟩
          rw [hSS] at hS hs hsl k1 k3 hle0 ⊢
          repeat' (first | ((with_reducible refine Ac ?_); first | ((first | refine Ai Aa ?_ | refine Al Aa ?_ | refine Af Aa ?_ | refine Av Aa Ab hS ?_ (hv := by first | rfl | exact Bi | (rw [Array.getElem?_toList]; exact hc)) | refine Bs Aa (by first | exact ((hS).far hbb).1) ?_ (hv := by first | rfl | exact Bi | (rw [Array.getElem?_toList]; exact hc)) | refine Ag Aa ?_ | refine Ae Aa ?_ | refine Be Aa ?_ | refine Bd Aa ?_ | refine Ak Aa ?_ | refine Aj Aa ?_ | refine Aw Aa (fun hc => ?_) (fun hc => ?_) | refine Ax Aa ?_) <;> refine Ad ?_)) | ((fail_if_success (with_reducible refine Ac ?_)); first | go_step | go_step3 | rw [Exit.noGoto_normal] | rw [Exit.noGoto_ret] | rw [Exit.noGoto_exit]))
          refine s_append Aa Ab hS (by rfl) (by rfl) (by rfl) (by rfl) (by infer_instance) (by exact at_ 0 rfl) (olds := S.map bv) (spare := sp) (by rfl) (by rw [List.length_map, Nat.mul_one]) (by omega) (by rw [k3, Nat.mul_one]) (h3.below hS.below).srcs (by rw [List.length_map, Nat.mul_one]) (bv_one l) (by unfold maxLen at k2 ⊢; omega) rfl ?_
          clear hS
          intro b1 d1 sp1 w1 q1 q2 q3 hS
          refine Ad ?_
          repeat' (first | ((with_reducible refine Ac ?_); first | ((first | refine Ai Aa ?_ | refine Al Aa ?_ | refine Af Aa ?_ | refine Av Aa Ab hS ?_ | refine Bs Aa (by first | exact ((hS).far hbb).1) ?_ | refine Ag Aa ?_ | refine Ae Aa ?_ | refine Be Aa ?_ | refine Bd Aa ?_ | refine Ak Aa ?_ | refine Aj Aa ?_ | refine Aw Aa (fun hc => ?_) (fun hc => ?_) | refine Ax Aa ?_) <;> refine Ad ?_)) | ((fail_if_success (with_reducible refine Ac ?_)); first | go_step | go_step3 | rw [Exit.noGoto_normal] | rw [Exit.noGoto_ret] | rw [Exit.noGoto_exit]))
          go_roundw
          case rel => exact ⟨k + 1, b1, d1, sp1, by omega, by push_cast; rfl, by rw [hsl], by rw [hsl]; exact q1, q2, by rw [hsl, q3, Nat.mul_one], by rw [hs, List.map_append]; exact hS⟩
          case measure => first | (simp [intOf]; done) | (simp [intOf]; omega)
        · obtain rfl : k = ls.length := by omega
          rw [List.take_length] at hS k1 k3 hle0 ⊢
          repeat' (first | ((with_reducible refine Ac ?_); first | ((first | refine Ai Aa ?_ | refine Al Aa ?_ | refine Af Aa ?_ | refine Av Aa Ab hS ?_ | refine Bs Aa (by first | exact ((hS).far hbb).1) ?_ | refine Ag Aa ?_ | refine Ae Aa ?_ | refine Be Aa ?_ | refine Bd Aa ?_ | refine Ak Aa ?_ | refine Aj Aa ?_ | refine Aw Aa (fun hc => ?_) (fun hc => ?_) | refine Ax Aa ?_) <;> refine Ad ?_)) | ((fail_if_success (with_reducible refine Ac ?_)); first | go_step | go_step3 | rw [Exit.noGoto_normal] | rw [Exit.noGoto_ret] | rw [Exit.noGoto_exit]))
          go_ret
          subst hn
          exact ⟨g, c, sp, rfl, ⟨k1, k2, k3⟩, (hS.2.1 _ (List.mem_cons_self ..)).1, hS.blk 0 rfl, hS.below⟩
end Go.Proofs.Ytcjncidahjneaaa

namespace Go.Proofs.Ytcjncidahjneaaa
open Go.RowKit
attribute [local irreducible] wpList wpListIn
section
variable {P : Program} {ops : Array Oper} {W : List Oper → Act → World → Prop} {o : Oper} {rest : List Oper} {a : Act} {w : World} {v : Value} {B : Nat} {H : World → List Blk → Prop} {L : List Blk}
theorem run_append_room_zeros (t tn ty e : TypeId) (i : TypeInfo) (z : Value) (kq kn : IntKind) (ht : P.underlying t = some (.slice e)) (htn : P.underlying tn = some (.int kn)) (hi : P.info? e = some i) (hz : i.zero = some z) (hz1 : z.cells = #[.int .u8 0]) (h1 : i.size = 1) (hb1 : i.bytes = 1)
    (g sLen sCap : Nat) (cur : Array Value) (hg : blk w g = some (.cells cur e (0, 0))) (k : Nat) (hroom : sLen + k ≤ sCap) (hk : k ≤ 1000000000) (hfit : sLen + k ≤ cur.size) :
    (Builtin.append_ #[t, tn] ty #[.slice (some ⟨g, 0, none⟩) sLen sCap, .int kq k]).run P w =
      .ok (.slice (some ⟨g, 0, none⟩) (sLen + k) sCap) (w.setRow g (cur.toList.take sLen ++ (zs k).map bv ++ cur.toList.drop (sLen + k)).toArray) := by
  have hzl : ((zs k).map bv).length = k := by rw [List.length_map, zs_len]
  have hst := run_storeCells_at (P := P) g sLen e ((zs k).map bv) 0 cur w hg (by rw [hzl]; simpa using hfit) (by intro v hv; obtain ⟨x, _, rfl⟩ := List.mem_map.1 hv; rfl)
  simp only [Nat.add_zero] at hst
  have hspl : splice cur sLen ((zs k).map bv).toArray = (cur.toList.take sLen ++ (zs k).map bv ++ cur.toList.drop (sLen + k)).toArray := by
    unfold splice
    rw [List.size_toArray, hzl]
  rw [hspl] at hst
  have hw : IntKind.i64.wrap (k : Int) = k := by rw [IntKind.wrap_i64]; omega
  have hneg : ¬ ((k : Int) < 0) := by omega
  have h48 : ¬ ((281474976710656 : Int) < (k : Int)) := by omega
  have hzc : (Builtin.zeroCells z.cells k).toList = (zs k).map bv := by
    rw [hz1, show #[Value.int .u8 0] = (Value.int .u8 0).cells from rfl, zeroCells_bytes]
    simp [bvs]
  by_cases hk0 : k = 0
  · subst hk0
    have e0 : (zs 0).map bv = [] := by rw [List.length_eq_zero_iff.1 (zs_len 0)]; rfl
    rw [e0] at hst ⊢
    have hw0 : IntKind.i64.wrap 0 = 0 := hw
    have hr0 : sLen ≤ sCap := by omega
    simp only [List.append_nil, Nat.add_zero, List.take_append_drop] at hst ⊢
    simp [Builtin.append_, run_underlying ht, run_underlying htn, sizeOf, typeInfo, zeroValue, hi, hz, asInt, asIntOf, hw0, hr0, h1, hb1, Addr.add_lit, hst]
  · simp [Builtin.append_, run_underlying ht, run_underlying htn, sizeOf, typeInfo, zeroValue, hi, hz, asInt, asIntOf, hw, hneg, h48, hroom, h1, hb1, hk0, hzc, Addr.add_lit, hst]
/-- append(x, make([]byte, k)...) to an own slice of bytes. -/
theorem s_appendZB {x y : Operand} {t tn e b n c i k nk : Nat} {kq kn : IntKind} {cs : Array Value} {l : List UInt8} {spare : List Value} (hs : Stp P ops W) (hH : Own B H) (hS : H w L) (hw : Region.wanted o (yielded ops a.tmps) = true)
    (hop : o.op = .call { callee := .builtin .append, args := #[x, y], argTypes := #[t, tn] }) (hx : evO a x = some (.slice (some ⟨b, 0, none⟩) n c)) (hy : evO a y = some (.int kq (k : Int))) (hT : SlT P t e 1 1) (hz : ZeroT P e #[.int .u8 0]) (htn : IntT P tn kn)
    (hi : L[i]? = some (b, cs, e)) (hcs : cs.toList = l.map bv ++ spare) (hl : l.length = n) (hnc : n ≤ c) (hsp : spare.length = c - n) (hmax : n + k ≤ 1000000000 ∧ c ≤ maxLen) (hnk : n + k = nk)
    (hk : ∀ (b' c' : Nat) (sp' : List Value) (w' : World), nk ≤ c' → c' ≤ maxLen → sp'.length = c' - nk → H w' ((b', ((l ++ zs k).map bv ++ sp').toArray, e) :: L.eraseIdx i) → W rest (a.put o.dst (.slice (some ⟨b', 0, none⟩) nk c')) w') : W (o :: rest) a w := by
  subst hnk
  obtain ⟨ht, inf, zz, hie, hz1, hsz, hby, hzs, hpos⟩ := elemB_iff hT.is
  have hz2 : zz.cells = #[.int .u8 0] := by
    have := hz.is
    unfold zeroT at this
    simp [hie, hz1] at this
    exact this
  have hd : Bp o = false := by unfold Bp; rw [hop]
  have hb := hH.blk i hS hi
  have hil : i < L.length := (List.getElem?_eq_some_iff.1 hi).1
  have hcsz : cs.size = n + spare.length := by rw [← Array.length_toList, hcs, List.length_append, List.length_map, hl]
  have e1 : #[x, y].map a.eval = #[.slice (some ⟨b, 0, none⟩) n c, .int kq (k : Int)] := by simp [Bb hx, Bb hy]
  by_cases hroom : n + k ≤ c
  · have hr := run_append_room_zeros (P := P) (w := w) t tn o.type e inf zz kq kn ht htn.is hie hz1 hz2 hsz hby b n c cs hb k hroom (by omega) (by omega)
    have hrow : (cs.toList.take n ++ (zs k).map bv ++ cs.toList.drop (n + k)).toArray = ((l ++ zs k).map bv ++ spare.drop k).toArray := by
      rw [hcs, List.take_left' (by rw [List.length_map, hl]), List.drop_append, List.drop_of_length_le (by rw [List.length_map]; omega), List.nil_append, List.length_map, hl, Nat.add_sub_cancel_left, List.map_append]
    rw [hrow] at hr
    have h1 := hH.setRow i ((l ++ zs k).map bv ++ spare.drop k).toArray hS hi
    have h2 := hH.front h1 (i := i) (x := (b, ((l ++ zs k).map bv ++ spare.drop k).toArray, e)) (by rw [List.getElem?_set_self hil])
    rw [List.eraseIdx_set_eq] at h2
    refine hs.go hw hd ?_ (hk b c _ _ hroom hmax.2 (by rw [List.length_drop, hsp]; omega) h2)
    unfold execOp; rw [hop]
    simp only [resolve, Sem.run_bind, Sem.run_pure, Result.andThen_ok, invoke, builtin, e1, hr]
    all_goals rfl
  · have hold : (Builtin.firstCells inf.size n (.slice (some ⟨b, 0, none⟩) n c)).run P w.drew = .ok (l.map bv).toArray w.drew := by
      have hl2 := run_loadCells_list (P := P) w.drew ⟨b, 0, none⟩ (l.map bv) (fun j u hu => by
        rw [addr_add, Nat.zero_add]
        refine (cell_of_row w b j cs e (0, 0) hb).trans ?_
        rw [← Array.getElem?_toList, hcs, List.getElem?_append_left (List.getElem?_eq_some_iff.1 hu).1]; exact hu)
      rw [List.length_map, hl] at hl2
      simp [Builtin.firstCells, hsz, hl2]
    have hnx : Builtin.nextslicecap (n + k) c ≤ 2 * (n + k) := nextslicecap_le (by omega)
    have hr := Lib.run_append_grow_zeros (P := P) w t tn o.type e inf zz kq kn ht htn.is hie hz1 (some ⟨b, 0, none⟩) n c (l.map bv) hold k (by omega) (by omega) (by omega) (by omega) (by rw [hby]; omega) (by rw [hby]; omega)
    have hcap := grownCap_ge w (n + k) c e
    have hcm := grownCap_le_maxLen w (n + k) c e (by unfold maxLen; omega)
    generalize grownCap w (n + k) c e = c' at *
    have hcell : (l.map bv).toArray ++ Builtin.zeroCells zz.cells k ++ Builtin.zeroCells zz.cells (c' - (n + k)) = ((l ++ zs k).map bv ++ (zs (c' - (n + k))).map bv).toArray := by
      rw [hz2, show #[Value.int .u8 0] = (Value.int .u8 0).cells from rfl, zeroCells_bytes, zeroCells_bytes]
      apply Array.ext'
      simp [bvs]
    rw [hcell] at hr
    have hS1 : H w.drew L := hH.call hS ⟨rfl, rfl, rfl, Nat.le_refl _, fun _ _ => rfl⟩
    have h2 := hH.alloc ((l ++ zs k).map bv ++ (zs (c' - (n + k))).map bv).toArray e hS1
    have h3 := hH.sub (L' := (w.drew.heap.size, ((l ++ zs k).map bv ++ (zs (c' - (n + k))).map bv).toArray, e) :: L.eraseIdx i) h2 (fun y hy => by
      rcases List.mem_cons.1 hy with rfl | hy
      · exact List.mem_cons_self ..
      · exact List.mem_cons_of_mem _ (List.mem_of_mem_eraseIdx hy)) (by
      have hn := hH.nodup h2
      simp only [List.map_cons, List.nodup_cons] at hn ⊢
      exact ⟨fun hm => hn.1 (by
        obtain ⟨y, hy, he⟩ := List.mem_map.1 hm
        exact List.mem_map.2 ⟨y, List.mem_of_mem_eraseIdx hy, he⟩), (hn.2.sublist ((List.eraseIdx_sublist L i).map _))⟩)
    refine hs.go hw hd ?_ (hk _ c' _ _ hcap hcm (by rw [List.length_map, zs_len]) h3)
    unfold execOp; rw [hop]
    simp only [resolve, Sem.run_bind, Sem.run_pure, Result.andThen_ok, invoke, builtin, e1, hr]
    all_goals rfl
end
end Go.Proofs.Ytcjncidahjneaaa

namespace Go.Proofs.Ytcjncidahjneaaa
open Go.ChangeShapes Go.WideShapes Go.ChangeAt Go.RowKit
attribute [local irreducible] wpList wpListIn Oper.quietAt wpM
instance instSh8_1 : GoF Try.prog 97 := ⟨by kernel_rfl⟩
instance instSh8_2 : GoF Try.prog 32 := ⟨by kernel_rfl⟩
theorem ovw_tail (l m x : List UInt8) (sp : List Value) (hm : x.length = m.length) : ovw (((l ++ x).map bv ++ sp).toArray) l.length m = ((l ++ m).map bv ++ sp).toArray := by
  unfold ovw
  have e1 : (((l ++ x).map bv ++ sp).toArray).toList = l.map bv ++ (x.map bv ++ sp) := by simp
  rw [e1, List.take_left' (List.length_map ..), List.drop_append, List.drop_of_length_le (by rw [List.length_map]; omega), List.nil_append, List.length_map, Nat.add_sub_cancel_left, List.drop_left' (by rw [List.length_map]; exact hm)]
  simp
set_option maxRecDepth 100000 in
set_option maxHeartbeats 1000000 in
theorem appendBig_any (g n c : Nat) (l : List UInt8) (sp : List Value) (x : Nat) (W0 w : World) (L : List Blk) (hS : St W0 w ((g, (l.map bv ++ sp).toArray, 5) :: L)) (hl : l.length = n) (hnc : n ≤ c) (hsp : sp.length = c - n) (hm : n ≤ 1000000 ∧ c ≤ maxLen) :
    Calls Try.prog 97 #[.slice (some ⟨g, 0, none⟩) n c, .int .i64 8, .int .u64 (x : Int)] w fun e w' => ∃ g' c' sp', e = .returned (.slice (some ⟨g', 0, none⟩) (n + 8) c') ∧ n + 8 ≤ c' ∧ c' ≤ maxLen ∧ sp'.length = c' - (n + 8) ∧ St W0 w' ((g', ((l ++ beB x 8).map bv ++ sp').toArray, 5) :: L) := by
  go_enter Try.func97, Try.ntmps97
  repeat' (first | ((with_reducible refine Ac ?_); first | ((first | refine Ai Aa ?_ | refine Al Aa ?_ | refine Af Aa ?_ | refine Be Aa ?_ | refine Bh Aa ?_ | refine Bc Aa ?_ | refine Au Aa ?_) <;> refine Ad ?_)) | ((fail_if_success (with_reducible refine Ac ?_)); first | go_step | go_step3 | rw [Exit.noGoto_normal] | rw [Exit.noGoto_ret] | rw [Exit.noGoto_exit]))
  refine s_appendZB (k := 8) Aa Ab hS (by rfl) (by rfl) (by rfl) (by rfl) (by infer_instance) (by infer_instance) (by infer_instance) (by exact at_ 0 rfl) (by rfl) hl hnc hsp ⟨by omega, hm.2⟩ rfl ?_
  clear hS
  intro b' c' sp' w' h1 h2 h3 hS
  replace hS : St W0 w' ((b', ((l ++ zs 8).map bv ++ sp').toArray, 5) :: L) := hS
  refine Ad ?_
  have h2' := h2
  unfold maxLen at h2'
  repeat' (first | ((with_reducible refine Ac ?_); first | ((first | refine Ai Aa ?_ | refine Al Aa ?_ | refine Af Aa ?_ | refine Be Aa ?_ | refine Bh Aa ?_ | refine Bc Aa ?_ | refine Au Aa ?_) <;> refine Ad ?_)) | ((fail_if_success (with_reducible refine Ac ?_)); first | go_step | go_step3 | rw [Exit.noGoto_normal] | rw [Exit.noGoto_ret] | rw [Exit.noGoto_exit]))
  rw [show n + 8 - n = 8 by omega]
  refine s_call Aa (by rfl) (by rfl) (by rfl) (by rfl) (by rfl) (by infer_instance) (putBig_any b' n 8 (c' - n) _ 5 x _ (hS.blk 0 rfl) (by simp [csz, zs_len, hl]) (by omega) (by omega)) ?_
  rintro e w2 ⟨rfl, rfl⟩
  refine ⟨_, rfl, ?_⟩
  refine Ad ?_
  have e1 := ovw_tail l (beB x 8) (zs 8) sp' (by rw [zs_len, beB_len])
  rw [hl] at e1
  replace hS := Ab.setRow 0 (ovw (((l ++ zs 8).map bv ++ sp').toArray) n (beB x 8)) hS rfl
  rw [e1] at hS ⊢
  replace hS : St W0 _ ((b', ((l ++ beB x 8).map bv ++ sp').toArray, 5) :: L) := hS
  repeat' (first | ((with_reducible refine Ac ?_); first | ((first | refine Ai Aa ?_ | refine Al Aa ?_ | refine Af Aa ?_ | refine Be Aa ?_ | refine Bh Aa ?_ | refine Bc Aa ?_ | refine Au Aa ?_) <;> refine Ad ?_)) | ((fail_if_success (with_reducible refine Ac ?_)); first | go_step | go_step3 | rw [Exit.noGoto_normal] | rw [Exit.noGoto_ret] | rw [Exit.noGoto_exit]))
  go_ret
  exact ⟨b', c', sp', rfl, h1, h2, h3, hS⟩
set_option maxRecDepth 100000 in
set_option maxHeartbeats 1000000 in
theorem pad_any (n : Nat) (hn : n ≤ 1000000000) (w0 : World) :
    Calls Try.prog 83 #[.int .i64 (n : Int)] w0 fun e w' => ∃ g c sp, e = .returned (.slice (some ⟨g, 0, none⟩) (padL n).length c) ∧ (padL n).length ≤ c ∧ c ≤ maxLen ∧ sp.length = c - (padL n).length ∧ w0.heap.size ≤ g ∧ blk w' g = some (.cells ((padL n).map bv ++ sp).toArray 5 (0, 0)) ∧ Below w0.heap.size w0 w' := by
  have hS := St.start w0
  have hk : (119 - (n : Int) % 64) % 64 = (((119 - n % 64) % 64 : Nat) : Int) := by omega
  obtain ⟨k, hkk⟩ : ∃ k, (119 - n % 64) % 64 = k := ⟨_, rfl⟩
  have hk64 : k < 64 := by omega
  have hp : padL n = [0x80] ++ zs k ++ beB (n * 8) 8 := by unfold padL; rw [hkk]; rfl
  have hpl : (padL n).length = 1 + k + 8 := by rw [hp, List.length_append, List.length_append, zs_len, beB_len]; rfl
  rw [hkk] at hk
  rw [hpl, hp]
  clear hp hpl
  go_enter Try.func83, Try.ntmps83
  repeat' (first | ((with_reducible refine Ac ?_); first | ((first | refine Ai Aa ?_ | refine Al Aa ?_ | refine Af Aa ?_ | refine Cj Aa ?_ | refine Ca Aa ?_ | refine Cq Aa ?_ | refine Ak Aa ?_ | refine Aj Aa ?_ | refine Aw Aa (fun hc => ?_) (fun hc => ?_) | refine Bq Aa ?_ | refine Bk Aa ?_ | refine Ar Aa ?_) <;> refine Ad ?_) | ((first | refine Ao Aa Ab hS ?_ | refine As Aa Ab hS ?_); clear hS; intro b w hS; refine Ad ?_)) | ((fail_if_success (with_reducible refine Ac ?_)); first | go_step | go_step3 | rw [Exit.noGoto_normal] | rw [Exit.noGoto_ret] | rw [Exit.noGoto_exit]))
  rw [hk]
  refine s_appendZB Aa Ab hS (by rfl) (by rfl) (by rfl) (by rfl) (by infer_instance) (by infer_instance) (by infer_instance) (by exact at_ 0 rfl) (l := [0x80]) (spare := []) (by rfl) (by rfl) (by omega) (by rfl) (by unfold maxLen; omega) rfl ?_
  clear hS
  intro b' c' sp' w' h1 h2 h3 hS
  replace hS : St w0 w' [(b', (([0x80] ++ zs k).map bv ++ sp').toArray, 5)] := hS
  refine Ad ?_
  repeat' (first | ((with_reducible refine Ac ?_); first | ((first | refine Ai Aa ?_ | refine Al Aa ?_ | refine Af Aa ?_ | refine Cj Aa ?_ | refine Ca Aa ?_ | refine Cq Aa ?_ | refine Ak Aa ?_ | refine Aj Aa ?_ | refine Aw Aa (fun hc => ?_) (fun hc => ?_) | refine Bq Aa ?_ | refine Bk Aa ?_ | refine Ar Aa ?_) <;> refine Ad ?_) | ((first | refine Ao Aa Ab hS ?_ | refine As Aa Ab hS ?_); clear hS; intro b w hS; refine Ad ?_) | (refine Stp.go Aa (by rfl) (by rfl) (r_convM (u := n) (by rfl) (by rfl) (by infer_instance) (by infer_instance) (by omega)) ?_; refine Ad ?_) | (refine Stp.go Aa (by rfl) (by rfl) (r_mul (k := .u64) (q := ((n * 8 : Nat) : Int)) (by rfl) (by rfl) (by rfl) (fits_u64 (by omega)) (by push_cast; rfl)) ?_; refine Ad ?_)) | ((fail_if_success (with_reducible refine Ac ?_)); first | go_step | go_step3 | rw [Exit.noGoto_normal] | rw [Exit.noGoto_ret] | rw [Exit.noGoto_exit]))
  refine s_call Aa (by rfl) (by rfl) (by rfl) (by rfl) (by rfl) (by infer_instance) (appendBig_any b' (1 + k) c' ([0x80] ++ zs k) sp' (n * 8) w0 _ [] hS (by rw [List.length_append, zs_len]; rfl) h1 h3 ⟨by omega, h2⟩) ?_
  rintro e w2 ⟨g', c2, sp2, rfl, k1, k2, k3, hS⟩
  refine ⟨_, rfl, ?_⟩
  refine Ad ?_
  repeat' (first | ((with_reducible refine Ac ?_); first | ((first | refine Ai Aa ?_ | refine Al Aa ?_ | refine Af Aa ?_ | refine Cj Aa ?_ | refine Ca Aa ?_ | refine Cq Aa ?_ | refine Ak Aa ?_ | refine Aj Aa ?_ | refine Aw Aa (fun hc => ?_) (fun hc => ?_) | refine Bq Aa ?_ | refine Bk Aa ?_ | refine Ar Aa ?_) <;> refine Ad ?_) | ((first | refine Ao Aa Ab hS ?_ | refine As Aa Ab hS ?_); clear hS; intro b w hS; refine Ad ?_)) | ((fail_if_success (with_reducible refine Ac ?_)); first | go_step | go_step3 | rw [Exit.noGoto_normal] | rw [Exit.noGoto_ret] | rw [Exit.noGoto_exit]))
  go_ret
  exact ⟨g', c2, sp2, rfl, k1, k2, k3, (hS.2.1 _ (List.mem_cons_self ..)).1, hS.blk 0 rfl, hS.below⟩
end Go.Proofs.Ytcjncidahjneaaa

namespace Go.Proofs.Ytcjncidahjneaaa
open Go.ChangeShapes Go.WideShapes Go.ChangeAt Go.RowKit
attribute [local irreducible] wpList wpListIn Oper.quietAt wpM
theorem zs0 : zs 0 = [] := List.length_eq_zero_iff.1 (zs_len 0)
theorem zs_snoc (k : Nat) : zs (k + 1) = zs k ++ [0] := by unfold zs; exact List.replicate_succ'
set_option maxRecDepth 100000 in
set_option maxHeartbeats 4000000 in
theorem refPad_any (n : Nat) (hn : n ≤ 1000000000) (w0 : World) :
    Calls Try.prog 60 #[.int .i64 (n : Int)] w0 fun e w' => ∃ sv, e = .returned sv ∧ OwnB w0.heap.size w' sv (padL n) ∧ Below w0.heap.size w0 w' := by
  have hS := St.start w0
  obtain ⟨K, hK⟩ : ∃ K, (119 - n % 64) % 64 = K := ⟨_, rfl⟩
  have hK64 : K < 64 := by omega
  have hKr : K + n % 64 = 55 ∨ K + n % 64 = 119 := by omega
  have hp : padL n = (0x80 :: zs K) ++ beB (n * 8) 8 := by unfold padL; rw [hK]; rfl
  rw [hp]
  clear hp
  go_enter Try.func60, Try.ntmps60
  repeat' (first | ((with_reducible refine Ac ?_); first | ((first | refine Ai Aa ?_ | refine Al Aa ?_ | refine Af Aa ?_ | refine Be Aa ?_ | refine Bd Aa ?_ | refine Ca Aa ?_ | refine Cz Aa ?_ | refine Cq Aa ?_ | refine Ak Aa ?_ | refine Aj Aa ?_ | refine Aw Aa (fun hc => ?_) (fun hc => ?_) | refine Bq Aa ?_ | refine Bk Aa ?_ | refine Ar Aa ?_) <;> refine Ad ?_) | ((first | refine Ao Aa Ab hS ?_ | refine As Aa Ab hS ?_); clear hS; intro b w hS; refine Ad ?_)) | ((fail_if_success (with_reducible refine Ac ?_)); first | go_step | go_step3 | rw [Exit.noGoto_normal] | rw [Exit.noGoto_ret] | rw [Exit.noGoto_exit]))
  go_loopw [3] (fun u3 wr => ∃ (k : Nat) (Lr : List Blk), k ≤ K ∧ BL (0x80 :: zs k) u3 Lr ∧ St w0 wr Lr) (fun u3 _ => match u3 with | .slice _ m _ => K + 1 - m | _ => 0)
  case atStart => exact ⟨0, [_], by omega, by rw [zs0]; exact .inr ⟨b, 1, [], rfl, Nat.le_refl _, by decide, rfl, rfl⟩, hS⟩
  case round =>
    obtain ⟨k, Lr, hk, hR, hS⟩ := hrel
    have hlk : (0x80 :: zs k).length = k + 1 := by rw [List.length_cons, zs_len]
    by_cases hlt : k < K
    · have hmod : ¬ ((n : Int) + ((k : Int) + 1) + 8) % 64 = 0 := by rcases hKr with h | h <;> omega
      obtain ⟨p, c, hsv⟩ := hR.slice
      rw [hlk] at hsv
      subst hsv
      repeat' (first | ((with_reducible refine Ac ?_); first | ((first | refine Ai Aa ?_ | refine Al Aa ?_ | refine Af Aa ?_ | refine Be Aa ?_ | refine Bd Aa ?_ | refine Ca Aa ?_ | refine Cz Aa ?_ | refine Cq Aa ?_ | refine Ak Aa ?_ | refine Aj Aa ?_ | refine Aw Aa (fun hc => ?_) (fun hc => ?_) | refine Bq Aa ?_ | refine Bk Aa ?_ | refine Ar Aa ?_) <;> refine Ad ?_) | ((first | refine Ao Aa Ab hS ?_ | refine As Aa Ab hS ?_); clear hS; intro b w hS; refine Ad ?_)) | ((fail_if_success (with_reducible refine Ac ?_)); first | go_step | go_step3 | rw [Exit.noGoto_normal] | rw [Exit.noGoto_ret] | rw [Exit.noGoto_exit]))
      refine s_appB (z := 0) (L := []) (show St w0 w ((b, #[.int .u8 (((0 : UInt8).toNat : Nat) : Int)], 5) :: (Lr ++ [])) by rw [List.append_nil]; exact hS) hR (by rw [hlk]; omega) (by rfl) (by rfl) (by rfl) (by rfl) ?_
      clear hS
      intro sv' Lr' w' hR' hS
      obtain ⟨p', c', hsv⟩ := hR'.slice
      rw [List.length_append, hlk] at hsv
      subst hsv
      refine Ad ?_
      repeat' (first | ((with_reducible refine Ac ?_); first | ((first | refine Ai Aa ?_ | refine Al Aa ?_ | refine Af Aa ?_ | refine Be Aa ?_ | refine Bd Aa ?_ | refine Ca Aa ?_ | refine Cz Aa ?_ | refine Cq Aa ?_ | refine Ak Aa ?_ | refine Aj Aa ?_ | refine Aw Aa (fun hc => ?_) (fun hc => ?_) | refine Bq Aa ?_ | refine Bk Aa ?_ | refine Ar Aa ?_) <;> refine Ad ?_) | ((first | refine Ao Aa Ab hS ?_ | refine As Aa Ab hS ?_); clear hS; intro b w hS; refine Ad ?_)) | ((fail_if_success (with_reducible refine Ac ?_)); first | go_step | go_step3 | rw [Exit.noGoto_normal] | rw [Exit.noGoto_ret] | rw [Exit.noGoto_exit]))
      go_roundw
      case rel => exact ⟨k + 1, Lr', by omega, by rw [zs_snoc]; exact hR', by rw [List.append_nil] at hS; exact hS⟩
      case measure => first | (dsimp only; omega) | (simp only [List.length_cons]; omega)
    · obtain rfl : k = K := by omega
      have hmod : ((n : Int) + ((k : Int) + 1) + 8) % 64 = 0 := by rcases hKr with h | h <;> omega
      obtain ⟨N, hN⟩ : ∃ N, n * 8 = N := ⟨_, rfl⟩
      have hNlt : N ≤ 8000000000 := by omega
      rcases hR with ⟨_, hbad, _⟩ | ⟨go, co, spo, rfl, ho1, ho2, ho3, rfl⟩
      · cases hbad
      rw [hlk] at ho1 ho3 ⊢
      have ho2' := ho2
      unfold maxLen at ho2'
      obtain ⟨O, hO⟩ : ∃ O, (0x80 :: zs k) = O := ⟨_, rfl⟩
      rw [hO] at hS hlk
      repeat' (first | ((with_reducible refine Ac ?_); first | ((first | refine Ai Aa ?_ | refine Al Aa ?_ | refine Af Aa ?_ | refine Be Aa ?_ | refine Bd Aa ?_ | refine Ca Aa ?_ | refine Cz Aa ?_ | refine Cq Aa ?_ | refine Ak Aa ?_ | refine Aj Aa ?_ | refine Aw Aa (fun hc => ?_) (fun hc => ?_) | refine Bq Aa ?_ | refine Bk Aa ?_ | refine Ar Aa ?_) <;> refine Ad ?_) | ((first | refine Ao Aa Ab hS ?_ | refine As Aa Ab hS ?_); clear hS; intro b w hS; refine Ad ?_)) | ((fail_if_success (with_reducible refine Ac ?_)); first | go_step | go_step3 | rw [Exit.noGoto_normal] | rw [Exit.noGoto_ret] | rw [Exit.noGoto_exit]))
      rw [show (n : Int) * 8 = (N : Int) by omega]
      go_loopw [4, 5, 6] (fun u4 u5 u6 wr => ∃ (j : Nat) (Lr : List Blk), j ≤ 8 ∧ u6 = .int .i64 (j : Int) ∧ u4 = .int .i64 ((N / 256 ^ j : Nat) : Int) ∧ BL (beB N j) u5 Lr ∧ St w0 wr (Lr ++ [(go, (O.map bv ++ spo).toArray, 5)])) (fun _ _ u6 _ => 8 - (intOf u6).toNat)
      case atStart => exact ⟨0, [], by omega, rfl, by simp, .inl ⟨rfl, beB_zero N, rfl⟩, hS⟩
      case round =>
        clear hS
        obtain ⟨j, Lr, hj, rfl, rfl, hR, hS⟩ := hrel
        by_cases hlt : j < 8
        · obtain ⟨M, hM⟩ : ∃ M, N / 256 ^ j = M := ⟨_, rfl⟩
          have hMlt : M ≤ 8000000000 := by rw [← hM]; exact Nat.le_trans (Nat.div_le_self _ _) hNlt
          have hM2 : N / 256 ^ (j + 1) = M / 256 := by rw [← hM, Nat.pow_succ, Nat.div_div_eq_div_mul]
          have hbe : beB N (j + 1) = UInt8.ofNat M :: beB N j := by rw [beB_succ, hM]
          have hz : ((M : Int) % 256) % 256 = ((UInt8.ofNat M).toNat : Int) := by
            have : (UInt8.ofNat M).toNat = M % 256 := by simp
            rw [this]; omega
          have hl : (beB N j).length = j := beB_len _ _
          rw [hM]
          repeat' (first | ((with_reducible refine Ac ?_); first | ((first | refine Ai Aa ?_ | refine Al Aa ?_ | refine Af Aa ?_ | refine Be Aa ?_ | refine Bd Aa ?_ | refine Ca Aa ?_ | refine Cz Aa ?_ | refine Cq Aa ?_ | refine Ak Aa ?_ | refine Aj Aa ?_ | refine Aw Aa (fun hc => ?_) (fun hc => ?_) | refine Bq Aa ?_ | refine Bk Aa ?_ | refine Ar Aa ?_) <;> refine Ad ?_) | ((first | refine Ao Aa Ab hS ?_ | refine As Aa Ab hS ?_); clear hS; intro b w hS; refine Ad ?_) | (refine Stp.go Aa (by rfl) (by rfl) (r_convQ (by rfl) (by rfl) (by infer_instance) (by infer_instance) hz) ?_; refine Ad ?_)) | ((fail_if_success (with_reducible refine Ac ?_)); first | go_step | go_step3 | rw [Exit.noGoto_normal] | rw [Exit.noGoto_ret] | rw [Exit.noGoto_exit]))
          rcases hR with ⟨rfl, e0, rfl⟩ | ⟨g, c, sp, rfl, h1, h2, h3, rfl⟩
          · refine Stp.go Aa (by rfl) (by rfl) (r_appendN (by rfl) (by rfl) (by rfl) (by infer_instance) (Nat.le_refl _)) ?_
            refine Ad ?_
            repeat' (first | ((with_reducible refine Ac ?_); first | ((first | refine Ai Aa ?_ | refine Al Aa ?_ | refine Af Aa ?_ | refine Be Aa ?_ | refine Bd Aa ?_ | refine Ca Aa ?_ | refine Cz Aa ?_ | refine Cq Aa ?_ | refine Ak Aa ?_ | refine Aj Aa ?_ | refine Aw Aa (fun hc => ?_) (fun hc => ?_) | refine Bq Aa ?_ | refine Bk Aa ?_ | refine Ar Aa ?_) <;> refine Ad ?_) | ((first | refine Ao Aa Ab hS ?_ | refine As Aa Ab hS ?_); clear hS; intro b w hS; refine Ad ?_)) | ((fail_if_success (with_reducible refine Ac ?_)); first | go_step | go_step3 | rw [Exit.noGoto_normal] | rw [Exit.noGoto_ret] | rw [Exit.noGoto_exit]))
            go_roundw
            case rel => exact ⟨j + 1, [_], by omega, by push_cast; rfl, by rw [hM2]; push_cast; rfl, by rw [hbe, e0]; exact .inr ⟨_, 1, [], rfl, Nat.le_refl _, by decide, rfl, rfl⟩, hS⟩
            case measure => first | (simp [intOf]; done) | (simp [intOf]; omega)
          · have h2' := h2
            unfold maxLen at h2'
            refine s_append Aa Ab hS (by rfl) (by rfl) (by rfl) (by rfl) (by infer_instance) (by exact at_ 0 rfl) (olds := [UInt8.ofNat M].map bv) (spare := []) (by rfl) (by rfl) (Nat.le_refl _) (by rfl) (bytesAt_mid (pre := []) (off := 0) (hS.blk 1 rfl) rfl rfl rfl h1).srcs (by rw [List.length_map, Nat.mul_one]) (bv_one _) (by unfold maxLen; omega) rfl ?_
            clear hS
            intro b' c' sp' w' k1 k2 k3 hS
            refine Ad ?_
            repeat' (first | ((with_reducible refine Ac ?_); first | ((first | refine Ai Aa ?_ | refine Al Aa ?_ | refine Af Aa ?_ | refine Be Aa ?_ | refine Bd Aa ?_ | refine Ca Aa ?_ | refine Cz Aa ?_ | refine Cq Aa ?_ | refine Ak Aa ?_ | refine Aj Aa ?_ | refine Aw Aa (fun hc => ?_) (fun hc => ?_) | refine Bq Aa ?_ | refine Bk Aa ?_ | refine Ar Aa ?_) <;> refine Ad ?_) | ((first | refine Ao Aa Ab hS ?_ | refine As Aa Ab hS ?_); clear hS; intro b w hS; refine Ad ?_)) | ((fail_if_success (with_reducible refine Ac ?_)); first | go_step | go_step3 | rw [Exit.noGoto_normal] | rw [Exit.noGoto_ret] | rw [Exit.noGoto_exit]))
            go_roundw
            case rel => exact ⟨j + 1, [_], by omega, by push_cast; rfl, by rw [hM2]; push_cast; rfl, by rw [hbe]; exact .inr ⟨b', c', sp', by rw [List.length_cons, Nat.add_comm], by rw [List.length_cons]; omega, k2, by rw [List.length_cons]; omega, rfl⟩, hS.erase 1⟩
            case measure => first | (simp [intOf]; done) | (simp [intOf]; omega)
        · obtain rfl : j = 8 := by omega
          have hl : (beB N 8).length = 8 := beB_len _ _
          rcases hR with ⟨_, hbad, _⟩ | ⟨g, c, sp, rfl, h1, h2, h3, rfl⟩
          · rw [hbad] at hl; cases hl
          obtain ⟨E, hE⟩ : ∃ E, beB N 8 = E := ⟨_, rfl⟩
          rw [hE] at hS hl h1 h3 ⊢
          rw [hl] at h1 h3 ⊢
          repeat' (first | ((with_reducible refine Ac ?_); first | ((first | refine Ai Aa ?_ | refine Al Aa ?_ | refine Af Aa ?_ | refine Be Aa ?_ | refine Bd Aa ?_ | refine Ca Aa ?_ | refine Cz Aa ?_ | refine Cq Aa ?_ | refine Ak Aa ?_ | refine Aj Aa ?_ | refine Aw Aa (fun hc => ?_) (fun hc => ?_) | refine Bq Aa ?_ | refine Bk Aa ?_ | refine Ar Aa ?_) <;> refine Ad ?_) | ((first | refine Ao Aa Ab hS ?_ | refine As Aa Ab hS ?_); clear hS; intro b w hS; refine Ad ?_)) | ((fail_if_success (with_reducible refine Ac ?_)); first | go_step | go_step3 | rw [Exit.noGoto_normal] | rw [Exit.noGoto_ret] | rw [Exit.noGoto_exit]))
          refine s_append Aa Ab hS (by rfl) (by rfl) (by rfl) (by rfl) (by infer_instance) (by exact at_ 1 rfl) (olds := O.map bv) (spare := spo) (by rfl) (by rw [List.length_map, hlk]; omega) ho1 (by rw [ho3]; omega) (bytesAt_mid (pre := []) (off := 0) (hS.blk 0 rfl) rfl rfl hl h1).srcs (by rw [List.length_map, hl]) (bv_one _) (by unfold maxLen; omega) rfl ?_
          clear hS
          intro b' c' sp' w' k1 k2 k3 hS
          refine Ad ?_
          repeat' (first | ((with_reducible refine Ac ?_); first | ((first | refine Ai Aa ?_ | refine Al Aa ?_ | refine Af Aa ?_ | refine Be Aa ?_ | refine Bd Aa ?_ | refine Ca Aa ?_ | refine Cz Aa ?_ | refine Cq Aa ?_ | refine Ak Aa ?_ | refine Aj Aa ?_ | refine Aw Aa (fun hc => ?_) (fun hc => ?_) | refine Bq Aa ?_ | refine Bk Aa ?_ | refine Ar Aa ?_) <;> refine Ad ?_) | ((first | refine Ao Aa Ab hS ?_ | refine As Aa Ab hS ?_); clear hS; intro b w hS; refine Ad ?_)) | ((fail_if_success (with_reducible refine Ac ?_)); first | go_step | go_step3 | rw [Exit.noGoto_normal] | rw [Exit.noGoto_ret] | rw [Exit.noGoto_exit]))
          go_ret
          have hle : (O ++ E).length = k + 1 + 8 := by rw [List.length_append, hlk, hl]
          have hfin : OwnB w0.heap.size w' (.slice (some ⟨b', 0, none⟩) (k + 1 + 8) c') (O ++ E) := by
            refine .inr ⟨b', c', sp', by rw [hle], by rw [hle]; exact k1, k2, by rw [hle]; omega, (hS.2.1 _ (List.mem_cons_self ..)).1, ?_⟩
            rw [List.map_append]
            exact hS.blk 0 rfl
          rw [← hO, ← hE, ← hN] at hfin
          exact ⟨_, rfl, hfin, hS.below⟩
end Go.Proofs.Ytcjncidahjneaaa

namespace Go.Proofs.Ytcjncidahjneaaa
open Go.ChangeShapes Go.WideShapes Go.ChangeAt Go.RowKit
attribute [local irreducible] wpList wpListIn Oper.quietAt wpM
instance instSh10_1 : GoF Try.prog 63 := ⟨by kernel_rfl⟩
instance instSh10_2 : GoF Try.prog 62 := ⟨by kernel_rfl⟩
instance instSh10_3 : ZeroT Try.prog 24 (bvs (zs 32)) := ⟨by kernel_rfl⟩
theorem outL_at (h : S8) : ∀ i, i < 32 → (outL h).getD i 0 = UInt8.ofNat ((h.toL.getD (i / 4) 0 >>> (24 - 8 * (i % 4))).toNat % 256) := by
  intro i hi
  have hb : ∀ (x : W32) (r : Nat), r < 4 → (beB x.toNat 4).getD r 0 = UInt8.ofNat ((x >>> (24 - 8 * r)).toNat % 256) := by
    intro x r hr
    have e : beB x.toNat 4 = [UInt8.ofNat (x.toNat / 256 ^ 3), UInt8.ofNat (x.toNat / 256 ^ 2), UInt8.ofNat (x.toNat / 256 ^ 1), UInt8.ofNat (x.toNat / 256 ^ 0)] := by
      rw [beB_succ, beB_succ, beB_succ, beB_succ, beB_zero]
    rw [e]
    have h4 : r = 0 ∨ r = 1 ∨ r = 2 ∨ r = 3 := by omega
    apply UInt8.toNat_inj.1
    rcases h4 with rfl | rfl | rfl | rfl <;> simp [Nat.shiftRight_eq_div_pow]
  have e : outL h = beB h.a.toNat 4 ++ (beB h.b.toNat 4 ++ (beB h.c.toNat 4 ++ (beB h.d.toNat 4 ++ (beB h.e.toNat 4 ++ (beB h.f.toNat 4 ++ (beB h.g.toNat 4 ++ beB h.h.toNat 4)))))) := by
    simp [outL, S8.toL]
  rw [e]
  have step : ∀ (x : W32) (R : List UInt8) (i : Nat), (beB x.toNat 4 ++ R).getD i 0 = if i < 4 then (beB x.toNat 4).getD i 0 else R.getD (i - 4) 0 := by
    intro x R i
    by_cases hi : i < 4
    · rw [if_pos hi, List.getD_eq_getElem?_getD, List.getElem?_append_left (by rw [beB_len]; exact hi), List.getD_eq_getElem?_getD]
    · rw [if_neg hi, List.getD_eq_getElem?_getD, List.getElem?_append_right (by rw [beB_len]; omega), beB_len, List.getD_eq_getElem?_getD]
  have hq : i / 4 = 0 ∨ i / 4 = 1 ∨ i / 4 = 2 ∨ i / 4 = 3 ∨ i / 4 = 4 ∨ i / 4 = 5 ∨ i / 4 = 6 ∨ i / 4 = 7 := by omega
  obtain ⟨r, hr⟩ : ∃ r, i % 4 = r := ⟨_, rfl⟩
  have hr4 : r < 4 := by omega
  rw [hr]
  have hi2 : i = 4 * (i / 4) + r := by omega
  rcases hq with h0 | h0 | h0 | h0 | h0 | h0 | h0 | h0
  all_goals
    rw [h0] at hi2 ⊢
    subst hi2
    simp only [step]
  · rw [if_pos (by omega), show 4 * 0 + r = r by omega]; exact hb _ _ hr4
  · rw [if_neg (by omega), if_pos (by omega), show 4 * 1 + r - 4 = r by omega]; exact hb _ _ hr4
  · rw [if_neg (by omega), if_neg (by omega), if_pos (by omega), show 4 * 2 + r - 4 - 4 = r by omega]; exact hb _ _ hr4
  · rw [if_neg (by omega), if_neg (by omega), if_neg (by omega), if_pos (by omega), show 4 * 3 + r - 4 - 4 - 4 = r by omega]; exact hb _ _ hr4
  · rw [if_neg (by omega), if_neg (by omega), if_neg (by omega), if_neg (by omega), if_pos (by omega), show 4 * 4 + r - 4 - 4 - 4 - 4 = r by omega]; exact hb _ _ hr4
  · rw [if_neg (by omega), if_neg (by omega), if_neg (by omega), if_neg (by omega), if_neg (by omega), if_pos (by omega), show 4 * 5 + r - 4 - 4 - 4 - 4 - 4 = r by omega]; exact hb _ _ hr4
  · rw [if_neg (by omega), if_neg (by omega), if_neg (by omega), if_neg (by omega), if_neg (by omega), if_neg (by omega), if_pos (by omega), show 4 * 6 + r - 4 - 4 - 4 - 4 - 4 - 4 = r by omega]; exact hb _ _ hr4
  · rw [if_neg (by omega), if_neg (by omega), if_neg (by omega), if_neg (by omega), if_neg (by omega), if_neg (by omega), if_neg (by omega), show 4 * 7 + r - 4 - 4 - 4 - 4 - 4 - 4 - 4 = r by omega]; exact hb _ _ hr4
theorem hashL_succ (l : List UInt8) (i : Nat) : hashL l (i + 1) = takeL (hashL l i) (schedL ((l.drop (64 * i)).take 64) 64) := rfl
theorem takeL_is (h : S8) (W : List W32) : addL h (rndsL h conL W 64) = takeL h W := rfl
theorem bvs_fill {l : List UInt8} {i n : Nat} (hi : i < n) (hl : l.length = n) : (bvs (l.take i ++ zs (n - i))).setIfInBounds i (.int .u8 ((l.getD i 0).toNat : Int)) = bvs (l.take (i + 1) ++ zs (n - (i + 1))) := by
  have e1 : n - i = (n - (i + 1)) + 1 := by omega
  have e2 : zs (n - i) = 0 :: zs (n - (i + 1)) := by rw [e1]; unfold zs; exact List.replicate_succ
  have e3 : (l.take i).length = i := by rw [List.length_take]; omega
  have e4 : l.take (i + 1) = l.take i ++ [l.getD i 0] := by
    rw [List.take_add_one, List.getD_eq_getElem?_getD, List.getElem?_eq_getElem (by omega)]; rfl
  rw [e2, e4]
  unfold bvs
  rw [List.setIfInBounds_toArray, List.map_append, List.set_append_right _ _ (by rw [List.length_map, e3]; exact Nat.le_refl _), List.length_map, e3, Nat.sub_self]
  simp [bv]
theorem cells_split (A : List UInt8) (sp : List Value) (o n : Nat) : ((A.map bv ++ sp).toArray).toList = (A.take o).map bv ++ (((A.drop o).take n).map bv ++ ((A.drop (o + n)).map bv ++ sp)) := by
  have e : A.take o ++ ((A.drop o).take n ++ A.drop (o + n)) = A := by
    rw [← List.drop_drop, List.take_append_drop, List.take_append_drop]
  show A.map bv ++ sp = _
  rw [← List.append_assoc ((A.drop o |>.take n).map bv), ← List.map_append, ← List.append_assoc, ← List.map_append, e]
attribute [local irreducible] schedL takeL hashL
set_option maxRecDepth 100000 in
set_option maxHeartbeats 4000000 in
theorem refOf_any (l : List UInt8) (hne : l ≠ []) (hl : l.length ≤ 1000000) (v : Value) (w0 : World) (hv : BytesAt w0 v l) :
    Calls Try.prog 50 #[v] w0 fun e w' => e = .returned (.agg (bvs (shaL l))) ∧ Below w0.heap.size w0 w' := by
  obtain ⟨p, c, rfl, hc, _, hcell⟩ := id hv
  obtain ⟨tb, ti, cs, ty, fr, rfl, htb, hx⟩ := hcell hne
  have hn1 := List.length_pos_iff.2 hne
  have hS := St.start w0
  have hpl := padL_len l.length
  go_enter Try.func50, Try.ntmps50
  repeat' (first | ((with_reducible refine Ac ?_); first | ((first | refine Ai Aa ?_ | refine Al Aa ?_ | refine Af Aa ?_ | refine Av Aa Ab hS ?_ | refine Ba Aa Ab hS ?_ | refine Ag Aa ?_ | refine Ae Aa ?_ | refine Be Aa ?_ | refine Bl Aa ?_ | refine Bd Aa ?_ | refine Cj Aa ?_ | refine Ca Aa ?_ | refine Cz Aa ?_ | refine Cq Aa ?_ | refine Ak Aa ?_ | refine Aj Aa ?_ | refine Aw Aa (fun hc => ?_) (fun hc => ?_) | refine Bq Aa ?_ | refine Bh Aa ?_ | refine Bc Aa ?_ | refine Au Aa ?_ | refine Ar Aa ?_) <;> refine Ad ?_) | ((first | refine Ay Aa Ab hS ?_ | refine Ao Aa Ab hS ?_ | refine As Aa Ab hS ?_); clear hS; intro b w hS; refine Ad ?_) | ((first | refine Br Aa Ab hS ?_ | refine Ap Aa Ab hS ?_ | refine Aq Aa Ab hS ?_); clear hS; intro w hS; refine Ad ?_)) | ((fail_if_success (with_reducible refine Ac ?_)); first | go_step | go_step3 | rw [Exit.noGoto_normal] | rw [Exit.noGoto_ret] | rw [Exit.noGoto_exit]))
  refine s_append Aa Ab hS (by rfl) (by rfl) (by rfl) (by rfl) (by infer_instance) (by exact at_ 0 rfl) (olds := []) (spare := []) (by rfl) (by rfl) (by omega) (by rfl) (hv.below hS.below).srcs (by rw [Nat.mul_one, List.length_map]) (bv_one l) (by unfold maxLen; omega) rfl ?_
  clear hS
  intro b1 d1 sp1 w1 q1 q2 q3 hS
  refine Ad ?_
  repeat' (first | ((with_reducible refine Ac ?_); first | ((first | refine Ai Aa ?_ | refine Al Aa ?_ | refine Af Aa ?_ | refine Av Aa Ab hS ?_ | refine Ba Aa Ab hS ?_ | refine Ag Aa ?_ | refine Ae Aa ?_ | refine Be Aa ?_ | refine Bl Aa ?_ | refine Bd Aa ?_ | refine Cj Aa ?_ | refine Ca Aa ?_ | refine Cz Aa ?_ | refine Cq Aa ?_ | refine Ak Aa ?_ | refine Aj Aa ?_ | refine Aw Aa (fun hc => ?_) (fun hc => ?_) | refine Bq Aa ?_ | refine Bh Aa ?_ | refine Bc Aa ?_ | refine Au Aa ?_ | refine Ar Aa ?_) <;> refine Ad ?_) | ((first | refine Ay Aa Ab hS ?_ | refine Ao Aa Ab hS ?_ | refine As Aa Ab hS ?_); clear hS; intro b w hS; refine Ad ?_) | ((first | refine Br Aa Ab hS ?_ | refine Ap Aa Ab hS ?_ | refine Aq Aa Ab hS ?_); clear hS; intro w hS; refine Ad ?_)) | ((fail_if_success (with_reducible refine Ac ?_)); first | go_step | go_step3 | rw [Exit.noGoto_normal] | rw [Exit.noGoto_ret] | rw [Exit.noGoto_exit]))
  refine s_call Aa (by rfl) (by rfl) (by rfl) (by rfl) (by rfl) (by infer_instance) (refPad_any l.length (by omega) _) ?_
  rintro e w2 ⟨sv, rfl, hR, hB⟩
  refine ⟨_, rfl, ?_⟩
  refine Ad ?_
  rcases hR with ⟨_, hbad⟩ | ⟨g, c2, sp2, rfl, k1, k2, k3, k4, k5⟩
  · rw [hbad] at hpl; simp at hpl; omega
  replace hS := Ab.new hS hB k4 k5
  refine s_append Aa Ab hS (by rfl) (by rfl) (by rfl) (by rfl) (by infer_instance) (by exact at_ 1 rfl) (olds := l.map bv) (spare := sp1) (by rfl) (by rw [List.length_map]; omega) (by omega) (by rw [q3]) (bytesAt_mid (pre := []) (off := 0) (hS.blk 0 rfl) rfl rfl rfl k1).srcs (by rw [List.length_map]; omega) (bv_one _) (by unfold maxLen at q2 ⊢; omega) (nm := (l ++ padL l.length).length) (by rw [List.length_append]; omega) ?_
  clear hS
  intro b2 d2 sp2' w3 r1 r2 r3 hS
  rw [← List.map_append] at hS
  refine Ad ?_
  have hT : shaL l = outL (hashL (l ++ padL l.length) ((l ++ padL l.length).length / 64)) := rfl
  have hw := whole l
  have hAl : (l ++ padL l.length).length ≤ 1000100 := by rw [List.length_append]; omega
  obtain ⟨A, hA⟩ : ∃ A, l ++ padL l.length = A := ⟨_, rfl⟩
  rw [hA] at hS hT hw hAl r1 r3 ⊢
  obtain ⟨m, hm⟩ : ∃ m, A.length / 64 = m := ⟨_, rfl⟩
  rw [hm] at hT hw
  rw [hw] at r1 r3 hAl ⊢
  replace hS := hS.erase 1
  have s8 := csz_zw 8
  have s64 := csz_con
  have s0 := csz_zw 64
  have sb := csz_toL begL
  repeat' (first | ((with_reducible refine Ac ?_); first | ((first | refine Ai Aa ?_ | refine Al Aa ?_ | refine Af Aa ?_ | refine Av Aa Ab hS ?_ | refine Ba Aa Ab hS ?_ | refine Ag Aa ?_ | refine Ae Aa ?_ | refine Be Aa ?_ | refine Bl Aa ?_ | refine Bd Aa ?_ | refine Cj Aa ?_ | refine Ca Aa ?_ | refine Cz Aa ?_ | refine Cq Aa ?_ | refine Ak Aa ?_ | refine Aj Aa ?_ | refine Aw Aa (fun hc => ?_) (fun hc => ?_) | refine Bq Aa ?_ | refine Bh Aa ?_ | refine Bc Aa ?_ | refine Au Aa ?_ | refine Ar Aa ?_) <;> refine Ad ?_) | ((first | refine Ay Aa Ab hS ?_ | refine Ao Aa Ab hS ?_ | refine As Aa Ab hS ?_); clear hS; intro b w hS; refine Ad ?_) | ((first | refine Br Aa Ab hS ?_ | refine Ap Aa Ab hS ?_ | refine Aq Aa Ab hS ?_); clear hS; intro w hS; refine Ad ?_) | (refine Ce Aa Ab hS (refTable_any _) ?_; clear hS; intro w hS; refine Ad ?_) | (refine Ap Aa Ab hS ?_ (hv := ones_wvs _); clear hS; intro w hS; refine Ad ?_)) | ((fail_if_success (with_reducible refine Ac ?_)); first | go_step | go_step3 | rw [Exit.noGoto_normal] | rw [Exit.noGoto_ret] | rw [Exit.noGoto_exit]))
  rename_i bR y0 y1 y2 y3 bK y5 y6 y7 KK hKK
  have h0 : hashL A 0 = begL := by unfold hashL; rfl
  go_loopw [6] (fun u6 wr => ∃ k : Nat, k ≤ m ∧ u6 = .int .i64 (64 * (k : Int)) ∧ St w0 wr [(b, wvs (hashL A k).toL, 120), (bK, wvs conL, 119), (b2, (A.map bv ++ sp2').toArray, 5), (bR, bvs (zs 32), 24)]) (fun u6 _ => 64 * m - (intOf u6).toNat)
  case atStart => exact ⟨0, by omega, by simp, by rw [h0]; exact hS⟩
  case round =>
    clear hS
    obtain ⟨k, hk, rfl, hS⟩ := hrel
    have s9 := csz_toL (hashL A k)
    by_cases hlt : k < m
    · have hsp := cells_split A sp2' (64 * k) 64
      have hl64 : ((A.drop (64 * k)).take 64).length = 64 := by rw [List.length_take, List.length_drop]; omega
      have hl2 : (A.take (64 * k)).length = 64 * k := by rw [List.length_take]; omega
      have hn := hashL_succ A k
      obtain ⟨p, hp⟩ : ∃ p, (A.drop (64 * k)).take 64 = p := ⟨_, rfl⟩
      rw [hp] at hsp hl64 hn
      obtain ⟨h, hh⟩ : ∃ h, hashL A k = h := ⟨_, rfl⟩
      rw [hh] at hS s9 hn
      have e2 : (64 * (k : Int) + 64).toNat - (64 * (k : Int)).toNat = 64 := by omega
      have e1 : (64 * (k : Int)).toNat = 64 * k := by omega
      have hlS : (schedL p 64).length = 64 := schedL_len p 64
      have hsch := fun v w hv => refSchedule_any p hl64 v w hv
      obtain ⟨W, hW⟩ : ∃ W, schedL p 64 = W := ⟨_, rfl⟩
      rw [hW] at hlS hn hsch
      have htk := fun w => refTake_any h W conL hlS (by rfl) w
      rw [takeL_is] at htk
      obtain ⟨T, hT2⟩ : ∃ T, takeL h W = T := ⟨_, rfl⟩
      rw [hT2] at htk hn
      clear hT2 hW hp hh
      have sS : csz (wvs T.toL) = 8 := csz_toL _
      obtain ⟨C, hC⟩ : ∃ C, conL = C := ⟨_, rfl⟩
      rw [hC] at hS htk s64
      repeat' (first | ((with_reducible refine Ac ?_); first | ((first | refine Ai Aa ?_ | refine Al Aa ?_ | refine Af Aa ?_ | refine Av Aa Ab hS ?_ | refine Ba Aa Ab hS ?_ | refine Ag Aa ?_ | refine Ae Aa ?_ | refine Be Aa ?_ | refine Bl Aa ?_ | refine Bd Aa ?_ | refine Cj Aa ?_ | refine Ca Aa ?_ | refine Cz Aa ?_ | refine Cq Aa ?_ | refine Ak Aa ?_ | refine Aj Aa ?_ | refine Aw Aa (fun hc => ?_) (fun hc => ?_) | refine Bq Aa ?_ | refine Bh Aa ?_ | refine Bc Aa ?_ | refine Au Aa ?_ | refine Ar Aa ?_) <;> refine Ad ?_) | ((first | refine Ay Aa Ab hS ?_ | refine Ao Aa Ab hS ?_ | refine As Aa Ab hS ?_); clear hS; intro b w hS; refine Ad ?_) | ((first | refine Br Aa Ab hS ?_ | refine Ap Aa Ab hS ?_ | refine Aq Aa Ab hS ?_); clear hS; intro w hS; refine Ad ?_)) | ((fail_if_success (with_reducible refine Ac ?_)); first | go_step | go_step3 | rw [Exit.noGoto_normal] | rw [Exit.noGoto_ret] | rw [Exit.noGoto_exit]))
      refine Bv 9 (by kernel_rfl) (by kernel_rfl) ?_
      dsimp only [List.take, List.drop]
      iterate 9 (first | (refine Dc (fun _ => rfl) ?_; simp only [Act.put, List.setIfInBounds_toArray, List.set_cons_zero, List.set_cons_succ]) | (refine Cw (by rfl) (fun _ => rfl) _ (fun w => r_alloc (a := ⟨#[], []⟩) rfl (by infer_instance)) ?_; simp only [Act.put, List.setIfInBounds_toArray, List.set_cons_zero, List.set_cons_succ]) | (refine Cr rfl (fun _ => rfl) (fun K hK => ?_); apply Exists.intro; apply Exists.intro; apply Exists.intro; apply Exists.intro; refine ⟨fun pB w' hw' hF => ?_, hK _ _ ?_⟩; (focus (exact Cf (by rfl) (by rfl) (by infer_instance) (by rfl) (by repeat (first | exact (fun _ h => absurd h List.not_mem_nil) | refine List.forall_mem_cons.2 ⟨by first | rfl | (simp only [Value.cells]; first | rfl | omega), ?_⟩)) (by (try conv => lhs; simp only [List.flatMap_cons, List.flatMap_nil, Value.cells, List.append_nil, List.cons_append, List.nil_append]); first | done | rfl) (by decide) (by decide))); clear hK K; simp only [Act.put, List.setIfInBounds_toArray, List.set_cons_zero, List.set_cons_succ]) | (refine Dd (fun _ => rfl) (fun K hK => ?_); apply Exists.intro; refine ⟨fun pB w' hw' hF => ?_, hK _ _ ?_⟩; (focus (have hZ := (Ab).call hS hw'; first | exact (g_qcall (hsch (.slice (some ⟨b2, (64 * (k : Int)).toNat, none⟩) ((64 * (k : Int) + 64).toNat - (64 * (k : Int)).toNat) (d2 - (64 * (k : Int)).toNat)) _ (by rw [e2, e1]; exact bytesAt_mid (pre := (A.take (64 * k)).map bv) (hZ.blk 2 rfl) hsp (by rw [List.length_map, hl2]) hl64 (by omega)))) | exact (g_qcall (htk _)) | exact q_move | exact Dh | exact q_load1 Ab hZ | exact q_loadR Ab hZ | exact Ci | exact Cb | exact q_len | exact q_cap | exact Cy | exact q_add | exact q_sub | exact q_mul | exact q_quo | exact q_rem | exact q_cmp_t | exact q_cmp_f | exact De | exact Cx | exact Df | exact Cv | exact Ch | exact Di | exact Dg | exact Cm | exact Co | exact Bt | exact Cl | exact q_conv | exact q_pick | exact q_not | exact Db | exact Ct | exact Cc | exact Dk | exact Dl | exact Cs)); clear hK K; simp only [Act.put, List.setIfInBounds_toArray, List.set_cons_zero, List.set_cons_succ]))
      refine wpM_nil ?_
      intro pB w hcq hfq hnq
      replace hS := (Ab).news hS hcq _ (by first | decide | simp) hfq hnq
      first | simp only [List.map_nil, List.nil_append] at hS | simp only [List.map_cons, List.map_nil, List.cons_append, List.nil_append] at hS
      clear hcq hfq hnq
      try dsimp only
      repeat' (first | ((with_reducible refine Ac ?_); first | ((first | refine Ai Aa ?_ | refine Al Aa ?_ | refine Af Aa ?_ | refine Av Aa Ab hS ?_ | refine Ba Aa Ab hS ?_ | refine Ag Aa ?_ | refine Ae Aa ?_ | refine Be Aa ?_ | refine Bl Aa ?_ | refine Bd Aa ?_ | refine Cj Aa ?_ | refine Ca Aa ?_ | refine Cz Aa ?_ | refine Cq Aa ?_ | refine Ak Aa ?_ | refine Aj Aa ?_ | refine Aw Aa (fun hc => ?_) (fun hc => ?_) | refine Bq Aa ?_ | refine Bh Aa ?_ | refine Bc Aa ?_ | refine Au Aa ?_ | refine Ar Aa ?_) <;> refine Ad ?_) | ((first | refine Ay Aa Ab hS ?_ | refine Ao Aa Ab hS ?_ | refine As Aa Ab hS ?_); clear hS; intro b w hS; refine Ad ?_) | ((first | refine Br Aa Ab hS ?_ | refine Ap Aa Ab hS ?_ | refine Aq Aa Ab hS ?_); clear hS; intro w hS; refine Ad ?_) | (refine Ap Aa Ab hS ?_ (hv := ones_wvs _); clear hS; intro w hS; refine Ad ?_)) | ((fail_if_success (with_reducible refine Ac ?_)); first | go_step | go_step3 | rw [Exit.noGoto_normal] | rw [Exit.noGoto_ret] | rw [Exit.noGoto_exit]))
      rw [← hn, ← hC] at hS
      go_roundw
      case rel => exact ⟨k + 1, by omega, by push_cast; simp [Int.mul_add], hS⟩
      case measure => simp [intOf]; omega
    · obtain rfl : k = m := by omega
      obtain ⟨r, hr⟩ : ∃ r, hashL A k = r := ⟨_, rfl⟩
      rw [hr] at hS s9 hT
      have hol := outL_len r
      have hat := outL_at r
      obtain ⟨O, hO⟩ : ∃ O, outL r = O := ⟨_, rfl⟩
      rw [hO] at hol hat hT
      obtain ⟨bb, hbb⟩ : ∃ x, x = b := ⟨_, rfl⟩
      rw [← hbb] at hS ⊢
      clear hbb
      repeat' (first | ((with_reducible refine Ac ?_); first | ((first | refine Ai Aa ?_ | refine Al Aa ?_ | refine Af Aa ?_ | refine Av Aa Ab hS ?_ | refine Ba Aa Ab hS ?_ | refine Ag Aa ?_ | refine Ae Aa ?_ | refine Be Aa ?_ | refine Bl Aa ?_ | refine Bd Aa ?_ | refine Cj Aa ?_ | refine Ca Aa ?_ | refine Cz Aa ?_ | refine Cq Aa ?_ | refine Ak Aa ?_ | refine Aj Aa ?_ | refine Aw Aa (fun hc => ?_) (fun hc => ?_) | refine Bq Aa ?_ | refine Bh Aa ?_ | refine Bc Aa ?_ | refine Au Aa ?_ | refine Ar Aa ?_) <;> refine Ad ?_) | ((first | refine Ay Aa Ab hS ?_ | refine Ao Aa Ab hS ?_ | refine As Aa Ab hS ?_); clear hS; intro b w hS; refine Ad ?_) | ((first | refine Br Aa Ab hS ?_ | refine Ap Aa Ab hS ?_ | refine Aq Aa Ab hS ?_); clear hS; intro w hS; refine Ad ?_)) | ((fail_if_success (with_reducible refine Ac ?_)); first | go_step | go_step3 | rw [Exit.noGoto_normal] | rw [Exit.noGoto_ret] | rw [Exit.noGoto_exit]))
      go_loopw [8] (fun u8 wr => ∃ i : Nat, i ≤ 32 ∧ u8 = .int .i64 (i : Int) ∧ St w0 wr [(b, bvs (O.take i ++ zs (32 - i)), 24), (bb, wvs r.toL, 120), (bK, wvs conL, 119), (b2, (A.map bv ++ sp2').toArray, 5), (bR, bvs (zs 32), 24)]) (fun u8 _ => 32 - (intOf u8).toNat)
      case atStart => exact ⟨0, by omega, rfl, hS⟩
      case round =>
        clear hS
        obtain ⟨i, hi, rfl, hS⟩ := hrel
        have s5 : csz (bvs (O.take i ++ zs (32 - i))) = 32 := by rw [Bg, List.length_append, List.length_take, zs_len]; omega
        by_cases hlt : i < 32
        · have hset := bvs_fill (l := O) (i := i) (n := 32) hlt hol
          rw [hat i hlt] at hset
          have hc := wvs_get (l := r.toL) (k := i / 4) (by show i / 4 < 8; omega)
          obtain ⟨x, hx⟩ : ∃ x, r.toL.getD (i / 4) 0 = x := ⟨_, rfl⟩
          rw [hx] at hc hset
          obtain ⟨X, hX⟩ : ∃ X, bvs (O.take i ++ zs (32 - i)) = X := ⟨_, rfl⟩
          rw [hX] at hS s5 hset
          have hd : (i : Int) / 4 = ((i / 4 : Nat) : Int) := by omega
          have hd2 : ((i : Int) / 4).toNat = i / 4 := by omega
          repeat' (first | ((with_reducible refine Ac ?_); first | ((first | refine Ai Aa ?_ | refine Al Aa ?_ | refine Af Aa ?_ | refine Av Aa Ab hS ?_ (hv := by first | rfl | exact Bi | (rw [Array.getElem?_toList]; (rw [hd2]; exact hc))) | refine Ba Aa Ab hS ?_ (hv := by first | exact Bo _ _ (by (try simp only [Bn, Bg, Bm, List.length_append, List.length_set, zs_len, List.length_take, List.length_drop, List.length_cons, List.length_nil]); first | done | rfl | omega) | ((rw [hd2]; exact hc)) | rfl) | refine Ag Aa ?_ | refine Ae Aa ?_ | refine Be Aa ?_ | refine Bl Aa ?_ | refine Bd Aa ?_ | refine Cj Aa ?_ | refine Ca Aa ?_ | refine Cz Aa ?_ | refine Cq Aa ?_ | refine Ak Aa ?_ | refine Aj Aa ?_ | refine Aw Aa (fun hc => ?_) (fun hc => ?_) | refine Bq Aa ?_ | refine Bh Aa ?_ | refine Bc Aa ?_ | refine Au Aa ?_ | refine Ar Aa ?_) <;> refine Ad ?_) | ((first | refine Ay Aa Ab hS ?_ | refine Ao Aa Ab hS ?_ | refine As Aa Ab hS ?_); clear hS; intro b w hS; refine Ad ?_) | ((first | refine Br Aa Ab hS ?_ | refine Ap Aa Ab hS ?_ | refine Aq Aa Ab hS ?_); clear hS; intro w hS; refine Ad ?_)) | ((fail_if_success (with_reducible refine Ac ?_)); first | go_step | go_step3 | rw [Exit.noGoto_normal] | rw [Exit.noGoto_ret] | rw [Exit.noGoto_exit]))
          obtain ⟨s, hs⟩ : ∃ s, 24 - 8 * (i % 4) = s := ⟨_, rfl⟩
          rw [hs] at hset
          rw [show (24 : Int) - 8 * ((i : Int) % 4) = (s : Int) by omega]
          have hs31 : s ≤ 31 := by omega
          (refine Ce Aa Ab hS (refShr_any x s hs31 _) ?_; clear hS; intro w hS; refine Ad ?_)
          obtain ⟨y, hy⟩ : ∃ y, x >>> s = y := ⟨_, rfl⟩
          rw [hy] at hset ⊢
          have hyl := y.isLt
          have hz : ((UInt8.ofNat (y.toNat % 256)).toNat : Int) = (y.toNat : Int) % 256 := by
            have : (UInt8.ofNat (y.toNat % 256)).toNat = y.toNat % 256 := by simp
            rw [this]; omega
          rw [hz] at hset
          repeat' (first | ((with_reducible refine Ac ?_); first | ((first | refine Ai Aa ?_ | refine Al Aa ?_ | refine Af Aa ?_ | refine Av Aa Ab hS ?_ | refine Ba Aa Ab hS ?_ | refine Ag Aa ?_ | refine Ae Aa ?_ | refine Be Aa ?_ | refine Bl Aa ?_ | refine Bd Aa ?_ | refine Cj Aa ?_ | refine Ca Aa ?_ | refine Cz Aa ?_ | refine Cq Aa ?_ | refine Ak Aa ?_ | refine Aj Aa ?_ | refine Aw Aa (fun hc => ?_) (fun hc => ?_) | refine Bq Aa ?_ | refine Bh Aa ?_ | refine Bc Aa ?_ | refine Au Aa ?_ | refine Ar Aa ?_) <;> refine Ad ?_) | ((first | refine Ay Aa Ab hS ?_ | refine Ao Aa Ab hS ?_ | refine As Aa Ab hS ?_); clear hS; intro b w hS; refine Ad ?_) | ((first | refine Br Aa Ab hS ?_ | refine Ap Aa Ab hS ?_ | refine Aq Aa Ab hS ?_); clear hS; intro w hS; refine Ad ?_)) | ((fail_if_success (with_reducible refine Ac ?_)); first | go_step | go_step3 | rw [Exit.noGoto_normal] | rw [Exit.noGoto_ret] | rw [Exit.noGoto_exit]))
          rw [hset] at hS
          go_roundw
          case rel => exact ⟨i + 1, by omega, by push_cast; rfl, hS⟩
          case measure => first | (simp [intOf]; done) | (simp [intOf]; omega)
        · obtain rfl : i = 32 := by omega
          replace hS : St w0 wr [(b, bvs O, 24), (bb, wvs r.toL, 120), (bK, wvs conL, 119), (b2, (A.map bv ++ sp2').toArray, 5), (bR, bvs (zs 32), 24)] := by
            have e : O.take 32 ++ zs (32 - 32) = O := by rw [Nat.sub_self, zs0, List.append_nil, List.take_of_length_le (by omega)]
            rw [e] at hS; exact hS
          have s6 : csz (bvs O) = 32 := by rw [Bg, hol]
          have s7 : csz (bvs (zs 32)) = 32 := by rw [Bg, zs_len]
          repeat' (first | ((with_reducible refine Ac ?_); first | ((first | refine Ai Aa ?_ | refine Al Aa ?_ | refine Af Aa ?_ | refine Av Aa Ab hS ?_ | refine Ba Aa Ab hS ?_ | refine Ag Aa ?_ | refine Ae Aa ?_ | refine Be Aa ?_ | refine Bl Aa ?_ | refine Bd Aa ?_ | refine Cj Aa ?_ | refine Ca Aa ?_ | refine Cz Aa ?_ | refine Cq Aa ?_ | refine Ak Aa ?_ | refine Aj Aa ?_ | refine Aw Aa (fun hc => ?_) (fun hc => ?_) | refine Bq Aa ?_ | refine Bh Aa ?_ | refine Bc Aa ?_ | refine Au Aa ?_ | refine Ar Aa ?_) <;> refine Ad ?_) | ((first | refine Ay Aa Ab hS ?_ | refine Ao Aa Ab hS ?_ | refine As Aa Ab hS ?_); clear hS; intro b w hS; refine Ad ?_) | ((first | refine Br Aa Ab hS ?_ | refine Ap Aa Ab hS ?_ | refine Aq Aa Ab hS ?_); clear hS; intro w hS; refine Ad ?_)) | ((fail_if_success (with_reducible refine Ac ?_)); first | go_step | go_step3 | rw [Exit.noGoto_normal] | rw [Exit.noGoto_ret] | rw [Exit.noGoto_exit]))
          exact post_cell (n := 32) Try.results50 (by kernel_rfl) (.inl rfl) _ _ _ _ rfl rfl (hS.blk 4 rfl) (by rw [← csz_is]; exact s6) ⟨by rw [hT], hS.below⟩
end Go.Proofs.Ytcjncidahjneaaa
