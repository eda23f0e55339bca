/-
  Laws that the claims of this seat use, of several texts in one: LayS, RmF, RmG, RmH, RmI. No condition of their own.
-/
import Derived.Shelf.SlSortCmp.WholeK
import Derived.Test.YtcjncidahjneaaaJP0

namespace Go.Proofs.Ytcjncidahjneaaa
open Go.Proofs
def sortPut_ren : Go.Shelf.Ren := ⟨fun | 6 => 66 | 15 => 80 | 14 => 79 | 28 => 94 | 29 => 95 | 20 => 86 | 21 => 87 | 22 => 88 | 23 => 89 | 24 => 90 | 25 => 91 | 26 => 92 | 27 => 93 | 46 => 99 | 47 => 100 | 48 => 101 | 49 => 102 | 50 => 103 | 57 => 104 | n => n, fun | 22 => 47 | 24 => 70 | 25 => 107 | 3 => 3 | 39 => 98 | 0 => 0 | 53 => 118 | 55 => 81 | 4 => 4 | 46 => 149 | 45 => 148 | 50 => 86 | 5 => 5 | 9 => 9 | 66 => 158 | 70 => 162 | 76 => 164 | 77 => 165 | n => n, fun | n => n⟩
theorem sortPut : Go.Proofs.SlLaysF0.n6 Try.prog sortPut_ren := {
  mixed := by kernel_rfl
  f6 := ⟨Try.f66.name, by decide, Try.func66.trans (congrArg some (by kernel_rfl))⟩
  f14 := ⟨Try.f79.name, by decide, Try.func79.trans (congrArg some (by kernel_rfl))⟩
  f15 := Try.func80.trans (congrArg some (by kernel_rfl))
  f20 := ⟨Try.f86.name, by decide, Try.func86.trans (congrArg some (by kernel_rfl))⟩
  f21 := ⟨Try.f87.name, by decide, Try.func87.trans (congrArg some (by kernel_rfl))⟩
  f22 := ⟨Try.f88.name, by decide, Try.func88.trans (congrArg some (by kernel_rfl))⟩
  f23 := ⟨Try.f89.name, by decide, Try.func89.trans (congrArg some (by kernel_rfl))⟩
  f24 := ⟨Try.f90.name, by decide, Try.func90.trans (congrArg some (by kernel_rfl))⟩
  f25 := ⟨Try.f91.name, by decide, Try.func91.trans (congrArg some (by kernel_rfl))⟩
  f26 := ⟨Try.f92.name, by decide, Try.func92.trans (congrArg some (by kernel_rfl))⟩
  f27 := ⟨Try.f93.name, by decide, Try.func93.trans (congrArg some (by kernel_rfl))⟩
  f28 := Try.func94.trans (congrArg some (by kernel_rfl))
  f29 := Try.func95.trans (congrArg some (by kernel_rfl))
  f46 := ⟨Try.f99.name, by decide, Try.func99.trans (congrArg some (by kernel_rfl))⟩
  f47 := Try.func100.trans (congrArg some (by kernel_rfl))
  f48 := Try.func101.trans (congrArg some (by kernel_rfl))
  f49 := ⟨Try.f102.name, by decide, Try.func102.trans (congrArg some (by kernel_rfl))⟩
  f50 := ⟨Try.f103.name, by decide, Try.func103.trans (congrArg some (by kernel_rfl))⟩
  f57 := ⟨Try.f104.name, by decide, Try.func104.trans (congrArg some (by kernel_rfl))⟩
  t0 := Try.underlying0
  a0 := Try.isAgg0
  z0 := Try.sizeOf0
  v0 := Try.zeroValue0
  t3 := Try.underlying3
  a3 := Try.isAgg3
  z3 := Try.sizeOf3
  v3 := Try.zeroValue3
  t4 := Try.underlying4
  a4 := Try.isAgg4
  z4 := Try.sizeOf4
  v4 := Try.zeroValue4
  t5 := Try.underlying5
  a5 := Try.isAgg5
  z5 := Try.sizeOf5
  v5 := Try.zeroValue5
  t9 := Try.underlying9
  a9 := Try.isAgg9
  z9 := Try.sizeOf9
  v9 := Try.zeroValue9
  t22 := Try.underlying47
  a22 := Try.isAgg47
  z22 := Try.sizeOf47
  v22 := Try.zeroValue47
  t25 := Try.underlying107
  a25 := Try.isAgg107
  z25 := Try.sizeOf107
  v25 := Try.zeroValue107
  t39 := Try.underlying98
  a39 := Try.isAgg98
  z39 := Try.sizeOf98
  v39 := Try.zeroValue98
  t45 := Try.underlying148
  a45 := Try.isAgg148
  z45 := Try.sizeOf148
  v45 := Try.zeroValue148
  t46 := Try.underlying149
  a46 := Try.isAgg149
  z46 := Try.sizeOf149
  v46 := Try.zeroValue149
  t50 := Try.underlying86
  a50 := Try.isAgg86
  z50 := Try.sizeOf86
  v50 := Try.zeroValue86
  t53 := Try.underlying118
  a53 := Try.isAgg118
  z53 := Try.sizeOf118
  v53 := Try.zeroValue118
  t55 := Try.underlying81
  a55 := Try.isAgg81
  z55 := Try.sizeOf81
  v55 := Try.zeroValue81
  t66 := Try.underlying158
  a66 := Try.isAgg158
  z66 := Try.sizeOf158
  v66 := Try.zeroValue158
  t70 := Try.underlying162
  a70 := Try.isAgg162
  z70 := Try.sizeOf162
  v70 := Try.zeroValue162
  t76 := Try.underlying164
  a76 := Try.isAgg164
  z76 := Try.sizeOf164
  v76 := Try.zeroValue164
  t77 := Try.underlying165
  a77 := Try.isAgg165
  z77 := Try.sizeOf165
  v77 := Try.zeroValue165 }
end Go.Proofs.Ytcjncidahjneaaa

namespace Go.Proofs.Ytcjncidahjneaaa
open Go.ChangeShapes Go.WideShapes Go.ChangeAt Go.RowKit
attribute [local irreducible] wpList wpListIn
/-- A put of 128 bytes. -/
abbrev PutK := {x : Pt // x.2.length = 128}
instance instPutK : Inhabited PutK := ⟨⟨(0, List.replicate 128 0), by simp⟩⟩
def encK (z : PutK) : List Value := putC z.1
theorem encK_len (z : PutK) : (encK z).length = 129 := by simp [encK, putC, z.2]
theorem encK_one (z : PutK) : ∀ v ∈ encK z, v.oneCell' = true := by
  intro v hv
  simp only [encK, putC, List.mem_cons, List.mem_map] at hv
  rcases hv with rfl | ⟨x, _, rfl⟩ <;> rfl
def cfK (x y : PutK) : Int := Lib.compareInt x.1.1 y.1.1
theorem ltK (x y : PutK) : Go.Proofs.ltOf cfK x y = decide (x.1.1 < y.1.1) := by
  unfold Go.Proofs.ltOf cfK Lib.compareInt
  by_cases h1 : x.1.1 < y.1.1
  · simp [h1]
  · by_cases h2 : y.1.1 < x.1.1 <;> simp [h1, h2]
theorem swoK : Go.Sort.SWO (Go.Proofs.ltOf cfK) where
  irrefl x := by rw [ltK]; simp
  trans x y z h1 h2 := by rw [ltK] at *; simp at *; omega
  ntrans x y z h1 h2 := by rw [ltK] at *; simp at *; omega
theorem isNaN_any (x : Int) (w : World) : Calls Try.prog 68 #[.int .i64 x] w fun e w' => e = .returned (.bool false) ∧ w' = w := by
  go_enter Try.func68, Try.ntmps68
  go_wp2
  go_ret
  exact ⟨by simp, rfl⟩
theorem compare_any (x y : Int) (w : World) : Calls Try.prog 54 #[.int .i64 x, .int .i64 y] w fun e w' => e = .returned (.int .i64 (Lib.compareInt x y)) ∧ w' = w := by
  go_enter Try.func54, Try.ntmps54
  go_wp2_with (go_at_call 68; refine (isNaN_any _ _).mono ?_; rintro e w' ⟨rfl, hw⟩; rw [hw])
  all_goals (go_ret; refine ⟨?_, rfl⟩; unfold Lib.compareInt; (repeat' split) <;> first | rfl | (exfalso; omega))
set_option maxRecDepth 100000 in
set_option maxHeartbeats 8000000 in
theorem merge1_any (x y : PutK) (w : World) : Calls Try.prog 53 #[.agg (encK x).toArray, .agg (encK y).toArray] w fun e w' => e = .returned (.int .i64 (cfK x y)) ∧ ∃ q os, w' = Go.Sort.grow (w.drewN q) os := by
  have hcon := fun W' => compare_any x.1.1 y.1.1 W'
  have hx : csz (encK x).toArray = 129 := by unfold csz; rw [List.size_toArray, encK_len]
  have hy : csz (encK y).toArray = 129 := by unfold csz; rw [List.size_toArray, encK_len]
  have hx0 : (encK x).toArray[0]? = some (.int .i64 x.1.1) := rfl
  have hy0 : (encK y).toArray[0]? = some (.int .i64 y.1.1) := rfl
  unfold cfK
  generalize Lib.compareInt x.1.1 y.1.1 = r at hcon ⊢
  generalize (encK x).toArray = X at *
  generalize (encK y).toArray = Y at *
  go_enter Try.func53, Try.ntmps53
  go_wp2_with fail
  refine (hcon _).mono ?_
  rintro e w' ⟨rfl, rfl⟩
  go_wp2_with fail
  go_ret
  exact ⟨rfl, 0, _, by rw [Go.Sort.alloc_eq_grow, Go.Sort.alloc_eq_grow, Go.Sort.grow_grow]; rfl⟩
theorem cmpLaysK (b off size : Nat) (w : World) : Go.Proofs.CmpLays Try.prog 53 #[] encK 129 cfK b off size w := fun _ _ _ _ x y => merge1_any x y _
/-! The row's cells. -/
theorem flatK_get {d : Array PutK} {k : Nat} {x : Value} (h : (d.toList.flatMap encK)[k]? = some x) : k < d.size * 129 ∧ (Go.Sort.flatK encK 129 d)[k]! = x := by
  obtain ⟨a, h1, h2⟩ := flat_at (by omega) encK_len h
  have hk : k < d.size * 129 := by
    have := (List.getElem?_eq_some_iff.1 h).1
    rwa [owl_len (fun a _ => encK_len a), Array.length_toList] at this
  refine ⟨hk, ?_⟩
  rw [Go.Sort.get_flatK _ _ _ _ hk]
  have h3 : d[k / 129]! = a := by
    rw [Array.getElem?_toList] at h1
    rw [getElem!_def, h1]
  rw [h3, getElem!_def, h2]
theorem putCells_K (d : Array PutK) (l : List Pt) (sp : List Value) (hl : ∀ x ∈ l, x.2.length = 128) (hn : l.length = d.size) : Go.Sort.putCells id 0 (Go.Sort.flatK encK 129 d) (l.flatMap putC ++ sp).toArray = (d.toList.flatMap encK ++ sp).toArray := by
  have hA : (l.flatMap putC).length = d.size * 129 := by rw [owl_len (sz := 129) (fun a ha => by simp [putC, hl a ha]), hn]
  have hB : (d.toList.flatMap encK).length = d.size * 129 := by rw [owl_len (fun a _ => encK_len a), Array.length_toList]
  unfold Go.Sort.putCells
  refine Array.ext (by rw [Array.size_mapIdx, List.size_toArray, List.size_toArray, List.length_append, List.length_append, hA, hB]) fun k h1 h2 => ?_
  rw [Array.getElem_mapIdx]
  have hz := Go.Sort.size_flatK encK 129 d
  simp only [List.getElem_toArray]
  by_cases hk : k < d.size * 129
  · rw [if_pos ⟨Nat.zero_le _, by rw [Nat.zero_add, hz]; exact hk⟩, List.getElem_append_left (by omega)]
    exact (flatK_get (List.getElem?_eq_getElem (by omega))).2
  · rw [if_neg (by rw [Nat.zero_add, hz]; omega), List.getElem_append_right (by omega), List.getElem_append_right (by omega)]
    congr 1
    omega
theorem sortWorld_is {w : World} {b n : Nat} {l : List Pt} {sp : List Value} {t : TypeId} (hb : blk w b = some (.cells (l.flatMap putC ++ sp).toArray t (0, 0))) (hl : ∀ x ∈ l, x.2.length = 128) {d : Array PutK} (hn : l.length = d.size) (os : Array Obj) :
    Go.Proofs.sortWorldK encK 129 w b 0 n d os = grow (putRow w b ((d.toList.flatMap encK) ++ sp).toArray t) ⟨os, w.drawn + n⟩ := by
  have hp := putCells_K d l sp hl hn
  have hm : w.heap.modify b (Go.Sort.onCells (Go.Sort.putCells id 0 (Go.Sort.flatK encK 129 d))) = w.heap.setIfInBounds b (.cells (d.toList.flatMap encK ++ sp).toArray t (0, 0)) := by
    apply Array.ext_getElem?
    intro k
    rw [Array.getElem?_modify, Array.getElem?_setIfInBounds]
    by_cases hk : b = k
    · subst hk
      rw [if_pos rfl, if_pos rfl]
      have h1 : w.heap[b]? = some (.cells (l.flatMap putC ++ sp).toArray t (0, 0)) := hb
      rw [h1, if_pos (Array.getElem?_eq_some_iff.1 h1).1]
      simp only [Option.map_some, Go.Sort.onCells, hp]
    · rw [if_neg hk, if_neg hk]
  unfold Go.Proofs.sortWorldK Go.Sort.putRowK Go.Sort.putRow Go.Sort.mapBlock Go.Sort.ahead Go.Sort.grow grow putRow
  simp only [hm]
theorem pmap_val {l : List Pt} (hl : ∀ x ∈ l, x.2.length = 128) : (l.pmap Subtype.mk hl).map Subtype.val = l := by
  rw [List.map_pmap]
  simp
theorem flat_val (l : List PutK) : l.flatMap encK = (l.map Subtype.val).flatMap putC := by
  rw [List.flatMap_map]
  rfl
/-- The puts of a block, sorted in their place. -/
theorem sortFunc_any {l : List Pt} (hl : ∀ x ∈ l, x.2.length = 128) (hn : l.length ≤ 100000) {b c : Nat} {sp : List Value} {t : TypeId} {w : World} (hb : blk w b = some (.cells (l.flatMap putC ++ sp).toArray t (0, 0))) :
    Calls Try.prog 66 #[.slice (some ⟨b, 0, none⟩) l.length c, .func (.func 53) #[] #[]] w fun e w' => e = .returned (.tuple #[]) ∧ ∃ (S : List Pt) (g : Laid), S.Perm l ∧ S.Pairwise (fun x y => ¬ y.1 < x.1) ∧ w' = grow (putRow w b (S.flatMap putC ++ sp).toArray t) g := by
  obtain ⟨d, hd⟩ : ∃ d : Array PutK, d = (l.pmap Subtype.mk hl).toArray := ⟨_, rfl⟩
  have hdl : d.toList = l.pmap Subtype.mk hl := by rw [hd]
  have hsz : d.size = l.length := by rw [← Array.length_toList, hdl, List.length_pmap]
  have hfl : d.toList.flatMap encK = l.flatMap putC := by rw [flat_val, hdl, pmap_val]
  have hH : Go.Sort.HoldsK encK 129 w b 0 d := by
    intro j hj
    rw [Go.Sort.size_flatK] at hj
    have hlen : (d.toList.flatMap encK).length = d.size * 129 := by rw [owl_len (fun a _ => encK_len a), Array.length_toList]
    have h1 := List.getElem?_eq_getElem (l := d.toList.flatMap encK) (i := j) (by omega)
    rw [(flatK_get h1).2, Nat.zero_add]
    have hb' : w.heap[b]? = some (.cells (d.toList.flatMap encK ++ sp).toArray t (0, 0)) := by rw [hfl]; exact hb
    refine ⟨?_, ?_⟩
    · rw [cell_of_row w b j _ t _ hb', List.getElem?_toArray, List.getElem?_append_left (by omega), h1]
      rfl
    · exact frozen_of_row w b j _ t hb'
  have eg : ∀ args w, (callFunc 53 args).run Try.prog w = .ok (.enter 53 args) w := enters_of Try.func53 (by kernel_rfl) rfl
  have hcon := Go.Proofs.AnyQ.slices_SortFunc sortPut 129 Try.isAgg70 Try.sizeOf70 encK encK_len encK_one cfK swoK 53 #[] b 0 c d w eg (cmpLaysK b 0 d.size w) hH (blk_lt hb) (by omega)
  rw [hsz] at hcon
  refine hcon.mono ?_
  rintro e w' ⟨rfl, d', n, os, hp, hs, rfl⟩
  obtain ⟨h1, -, h3⟩ := hp
  rw [hsz] at h1
  have e1 : d'.extract 0 l.length = d' := by rw [← h1]; exact Array.extract_size
  have e2 : d.extract 0 l.length = d := by rw [← hsz]; exact Array.extract_size
  rw [e1, e2, hdl] at h3
  refine ⟨rfl, d'.toList.map Subtype.val, ⟨os, w.drawn + n⟩, ?_, ?_, ?_⟩
  · have := h3.map Subtype.val
    rwa [pmap_val] at this
  · rw [List.pairwise_map, List.pairwise_iff_getElem]
    intro i j hi hj hij
    have := hs i j (Nat.zero_le _) hij (by rw [Array.length_toList] at hj; omega)
    rw [ltK] at this
    simp only [decide_eq_false_iff_not] at this
    rw [Array.length_toList] at hi hj
    rw [getElem!_pos d' j hj, getElem!_pos d' i hi] at this
    exact this
  · rw [sortWorld_is hb hl h1.symm, flat_val]
end Go.Proofs.Ytcjncidahjneaaa

namespace Go.Proofs.Ytcjncidahjneaaa
open Go.ChangeShapes Go.WideShapes Go.ChangeAt Go.RowKit
attribute [local irreducible] wpList wpListIn
attribute [local irreducible] putC
set_option maxRecDepth 100000 in
set_option maxHeartbeats 4000000 in
theorem mapValues_any (B : Nat) (w0 : World) (hB : B < w0.heap.size) :
    Calls Try.prog 52 #[.map (some B)] w0 fun e w' => ∃ Bmm t fr, e = .returned (.func (.func 67) #[] #[.pointer (some ⟨Bmm, 0, none⟩)]) ∧ blk w' Bmm = some (.cells #[.map (some B)] t fr) ∧ w0.heap.size ≤ Bmm ∧ Below w0.heap.size w0 w' := by
  have hS := St.start w0
  go_enter Try.func52, Try.ntmps52
  repeat' (first | ((with_reducible refine Ac ?_); first | ((first | refine Ai Aa ?_ | refine Af Aa ?_ | refine Dj Aa ?_) <;> refine Ad ?_) | ((first | refine Cu Aa Ab hS ?_); clear hS; intro b w hS; refine Ad ?_)) | ((fail_if_success (with_reducible refine Ac ?_)); first | go_step | go_step3 | rw [Exit.noGoto_normal] | rw [Exit.noGoto_ret] | rw [Exit.noGoto_exit]))
  go_ret
  exact ⟨_, _, _, rfl, hS.blk 0 rfl, hS.low 0 rfl, hS.below⟩
set_option maxRecDepth 100000 in
set_option maxHeartbeats 4000000 in
theorem collect_any {rd : Value → Option (DataW Unit × List MemPlace)} (hrd : RdSpec rd) (l : List Pt) (hl : l.length ≤ 1000) (ho : okP l) (Bmm B n : Nat) (D : DataW Unit) (w0 : World) {t : TypeId} {fr : Nat × Nat} (hm : blk w0 Bmm = some (.cells #[.map (some B)] t fr)) (hown : MP.mapAt rd w0 B n D) (hD : MapOf l D) :
    Calls Try.prog 65 #[.func (.func 67) #[] #[.pointer (some ⟨Bmm, 0, none⟩)]] w0 fun e w' => ∃ sv pre, e = .returned sv ∧ OwnL putC 129 70 w0.heap.size w' sv pre ∧ (∀ y ∈ pre, lastP l y.1 = some y) ∧ (pre.map (·.1)).Nodup ∧ vAll l pre ∧ Below w0.heap.size w0 w' := by
  have hcon := appendSeq_any hrd l hl ho Bmm B n D w0 hm hown hD
  have hS := St.start w0
  go_enter Try.func65, Try.ntmps65
  repeat' (first | ((with_reducible refine Ac ?_); first | ((first | refine Ai Aa ?_ | refine Al Aa ?_ | refine Af Aa ?_) <;> refine Ad ?_)) | ((fail_if_success (with_reducible refine Ac ?_)); first | go_step | go_step3 | rw [Exit.noGoto_normal] | rw [Exit.noGoto_ret] | rw [Exit.noGoto_exit]))
  refine s_call Aa (by rfl) (by rfl) (by rfl) (by rfl) (by rfl) (by infer_instance) hcon ?_
  rintro e w' ⟨sv, pre, rfl, hO, h1, h2, h3, hb⟩
  refine ⟨_, rfl, ?_⟩
  refine Ad ?_
  repeat' (first | ((with_reducible refine Ac ?_); first | ((first | refine Ai Aa ?_ | refine Al Aa ?_ | refine Af Aa ?_) <;> refine Ad ?_)) | ((fail_if_success (with_reducible refine Ac ?_)); first | go_step | go_step3 | rw [Exit.noGoto_normal] | rw [Exit.noGoto_ret] | rw [Exit.noGoto_exit]))
  go_ret
  exact ⟨_, pre, rfl, hO, h1, h2, h3, hb⟩
end Go.Proofs.Ytcjncidahjneaaa

namespace Go.Proofs.Ytcjncidahjneaaa
open Go.ChangeShapes Go.WideShapes Go.ChangeAt Go.RowKit
attribute [local irreducible] wpList wpListIn
attribute [local irreducible] putC
theorem isMerge_of {l pre S : List Pt} (h1 : ∀ y ∈ pre, lastP l y.1 = some y) (h2 : (pre.map (·.1)).Nodup) (h3 : vAll l pre) (hp : S.Perm pre) (hs : S.Pairwise (fun x y => ¬ y.1 < x.1)) : IsMerge l S := by
  have hnd : (S.map (·.1)).Nodup := (hp.map (·.1)).nodup_iff.2 h2
  rw [List.Nodup, List.pairwise_map] at hnd
  refine ⟨(hs.and hnd).imp fun {a b} h => by omega, fun x => ⟨fun hx => h1 x (hp.mem_iff.1 hx), fun hx => ?_⟩⟩
  exact hp.mem_iff.2 (h3 x.1 x hx)
theorem insSort_none (p : Option Addr) (cap : Nat) (fv : Value) (w : World) : Calls Try.prog 86 #[.slice p 0 cap, .int .i64 0, .int .i64 0, fv] w fun e w' => e = .returned (.tuple #[]) ∧ w' = w := by
  go_enter Try.func86, Try.ntmps86
  go_wp2
  refine wp_loop_rounds 1 ?_
  rw [rounds_succ]
  go_wp2
  go_end0
  exact ⟨rfl, rfl⟩
theorem pdq_none (p : Option Addr) (cap : Nat) (lim : Int) (fv : Value) (w : World) : Calls Try.prog 79 #[.slice p 0 cap, .int .i64 0, .int .i64 0, .int .i64 lim, fv] w fun e w' => e = .returned (.tuple #[]) ∧ w' = w := by
  go_enter Try.func79, Try.ntmps79
  go_wp2
  refine wp_loop_rounds 1 ?_
  rw [rounds_succ]
  go_wp2_with (go_at_call 86; refine (insSort_none p cap fv _).mono ?_; rintro e w' ⟨rfl, rfl⟩)
  (try simp only [Exit.inBlock, Exit.then]); refine bodyPost_ret (results_none rfl _ _ _) rfl ?_
  exact ⟨rfl, rfl⟩
theorem sortFunc_none (p : Option Addr) (cap : Nat) (fv : Value) (w : World) : Calls Try.prog 66 #[.slice p 0 cap, fv] w fun e w' => e = .returned (.tuple #[]) ∧ w' = w := by
  have hl : ∀ W, Calls Try.prog 80 #[.int .u64 0] W fun e w' => e = .returned (.int .i64 (Lib.bitLen 0 : Nat)) ∧ w' = W := fun W => by
    have h := Go.Proofs.Any.bits_Len (Go.Proofs.SlLaysF0.n15.bits (P := Try.prog) (ρ := sortPut_ren) { sortPut with }) 0 W (by omega) (by omega)
    exact h
  go_enter Try.func66, Try.ntmps66
  go_wp2_with (first | (go_at_call 80; refine (hl _).mono ?_; rintro e w' ⟨rfl, rfl⟩) | (go_at_call 79; refine (pdq_none _ _ _ _ _).mono ?_; rintro e w' ⟨rfl, rfl⟩))
  go_end0
  exact ⟨rfl, rfl⟩
set_option maxRecDepth 100000 in
set_option maxHeartbeats 4000000 in
theorem sortedFunc_any {rd : Value → Option (DataW Unit × List MemPlace)} (hrd : RdSpec rd) (l : List Pt) (hl : l.length ≤ 1000) (ho : okP l) (Bmm B n : Nat) (D : DataW Unit) (w0 : World) {t : TypeId} {fr : Nat × Nat} (hm : blk w0 Bmm = some (.cells #[.map (some B)] t fr)) (hown : MP.mapAt rd w0 B n D) (hD : MapOf l D) :
    Calls Try.prog 51 #[.func (.func 67) #[] #[.pointer (some ⟨Bmm, 0, none⟩)], .func (.func 53) #[] #[]] w0 fun e w' => ∃ sv R, e = .returned sv ∧ OwnL putC 129 70 w0.heap.size w' sv R ∧ IsMerge l R ∧ Below w0.heap.size w0 w' := by
  have hcon := collect_any hrd l hl ho Bmm B n D w0 hm hown hD
  have hS := St.start w0
  go_enter Try.func51, Try.ntmps51
  repeat' (first | ((with_reducible refine Ac ?_); first | ((first | refine Ai Aa ?_ | refine Al Aa ?_ | refine Af Aa ?_) <;> refine Ad ?_)) | ((fail_if_success (with_reducible refine Ac ?_)); first | go_step | go_step3 | rw [Exit.noGoto_normal] | rw [Exit.noGoto_ret] | rw [Exit.noGoto_exit]))
  refine s_call Aa (by rfl) (by rfl) (by rfl) (by rfl) (by rfl) (by infer_instance) hcon ?_
  rintro e w' ⟨sv, pre, rfl, hO, h1, h2, h3, hb⟩
  refine ⟨_, rfl, ?_⟩
  refine Ad ?_
  rcases hO with ⟨rfl, rfl⟩ | ⟨g, c, sp, rfl, hc, hcm, hsp, hg, hgb⟩
  · have hS := (St.start w0).call hb
    repeat' (first | ((with_reducible refine Ac ?_); first | ((first | refine Ai Aa ?_ | refine Al Aa ?_ | refine Af Aa ?_) <;> refine Ad ?_)) | ((fail_if_success (with_reducible refine Ac ?_)); first | go_step | go_step3 | rw [Exit.noGoto_normal] | rw [Exit.noGoto_ret] | rw [Exit.noGoto_exit]))
    refine s_call Aa (by rfl) (by rfl) (by rfl) (by rfl) (by rfl) (by infer_instance) (sortFunc_none _ _ _ _) ?_
    rintro e w1 ⟨rfl, rfl⟩
    refine ⟨_, rfl, ?_⟩
    refine Ad ?_
    repeat' (first | ((with_reducible refine Ac ?_); first | ((first | refine Ai Aa ?_ | refine Al Aa ?_ | refine Af Aa ?_) <;> refine Ad ?_)) | ((fail_if_success (with_reducible refine Ac ?_)); first | go_step | go_step3 | rw [Exit.noGoto_normal] | rw [Exit.noGoto_ret] | rw [Exit.noGoto_exit]))
    go_ret
    exact ⟨_, [], rfl, .inl ⟨rfl, rfl⟩, isMerge_of h1 h2 h3 (List.Perm.refl _) List.Pairwise.nil, hb⟩
  · have hS := Ab.new (St.start w0) hb hg hgb
    have hpl : ∀ x ∈ pre, x.2.length = 128 := fun x hx => (ho x (lastP_num (h1 x hx)).2).1
    have hpn : pre.length ≤ 100000 := Nat.le_trans (vpre_len h1 h2) (by omega)
    repeat' (first | ((with_reducible refine Ac ?_); first | ((first | refine Ai Aa ?_ | refine Al Aa ?_ | refine Af Aa ?_) <;> refine Ad ?_)) | ((fail_if_success (with_reducible refine Ac ?_)); first | go_step | go_step3 | rw [Exit.noGoto_normal] | rw [Exit.noGoto_ret] | rw [Exit.noGoto_exit]))
    refine s_call Aa (by rfl) (by rfl) (by rfl) (by rfl) (by rfl) (by infer_instance) (sortFunc_any hpl hpn (hS.blk 0 rfl)) ?_
    rintro e w1 ⟨rfl, S, gg, hp, hs, rfl⟩
    refine ⟨_, rfl, ?_⟩
    have hlen := hp.length_eq
    replace hS := (hS.put 0 rfl (S.flatMap putC ++ sp).toArray).grow gg
    generalize grow (putRow _ g _ _) gg = w2 at hS ⊢
    refine Ad ?_
    repeat' (first | ((with_reducible refine Ac ?_); first | ((first | refine Ai Aa ?_ | refine Al Aa ?_ | refine Af Aa ?_) <;> refine Ad ?_)) | ((fail_if_success (with_reducible refine Ac ?_)); first | go_step | go_step3 | rw [Exit.noGoto_normal] | rw [Exit.noGoto_ret] | rw [Exit.noGoto_exit]))
    go_ret
    refine ⟨_, S, rfl, .inr ⟨g, c, sp, by rw [hlen]; rfl, by omega, hcm, by rw [hlen]; exact hsp, hg, hS.blk 0 rfl⟩, isMerge_of h1 h2 h3 hp hs, hS.below⟩
end Go.Proofs.Ytcjncidahjneaaa

namespace Go.Proofs.Ytcjncidahjneaaa
open Go.ChangeShapes Go.WideShapes Go.ChangeAt Go.RowKit
attribute [local irreducible] wpList wpListIn
open Go.Maps
namespace MP
attribute [local irreducible] putC
set_option maxRecDepth 100000 in
set_option maxHeartbeats 4000000 in
theorem merge_any (l : List Pt) (hl : l.length ≤ 1000) (v : Value) (w0 : World) (hv : PutsAt w0 v l) :
    Calls Try.prog 30 #[v] w0 fun e w' => ∃ sv R, e = .returned sv ∧ OwnL putC 129 70 w0.heap.size w' sv R ∧ IsMerge l R ∧ Below w0.heap.size w0 w' := by
  obtain ⟨rd, hrd⟩ := rd_exists
  obtain ⟨ho, p, c, rfl, hc, hp0, hcell⟩ := hv
  have hS := St.start w0
  obtain ⟨n, hn⟩ : ∃ n, l.length = n := ⟨_, rfl⟩
  rw [hn] at hl hc ⊢
  go_enter Try.func30, Try.ntmps30
  repeat' (first | ((with_reducible refine Ac ?_); first | ((first | refine Ai Aa ?_ | refine Al Aa ?_ | refine Af Aa ?_ | refine Av Aa Ab hS ?_ | refine Ba Aa Ab hS ?_ | refine Ag Aa ?_ | refine Ae Aa ?_ | refine Be Aa ?_ | refine Bd Aa ?_ | refine Ak Aa ?_ | refine Aj Aa ?_ | refine Aw Aa (fun hc => ?_) (fun hc => ?_) | refine Az Aa ?_) <;> refine Ad ?_) | ((first | refine Ay Aa Ab hS ?_); clear hS; intro b w hS; refine Ad ?_) | ((first | refine Ap Aa Ab hS ?_ | refine Aq Aa Ab hS ?_); clear hS; intro w hS; refine Ad ?_)) | ((fail_if_success (with_reducible refine Ac ?_)); first | go_step | go_step3 | rw [Exit.noGoto_normal] | rw [Exit.noGoto_ret] | rw [Exit.noGoto_exit]))
  refine s_makeMap (rd := rd) hS (by rfl) (by rfl) ?_
  clear hS
  intro B w hS
  refine Ad ?_
  repeat' (first | ((with_reducible refine Ac ?_); first | ((first | refine Ai Aa ?_ | refine Al Aa ?_ | refine Af Aa ?_ | refine Av Aa own_stM hS ?_ | refine Ba Aa own_stM hS ?_ | refine Ag Aa ?_ | refine Ae Aa ?_ | refine Be Aa ?_ | refine Bd Aa ?_ | refine Ak Aa ?_ | refine Aj Aa ?_ | refine Aw Aa (fun hc => ?_) (fun hc => ?_) | refine Az Aa ?_) <;> refine Ad ?_) | ((first | refine Ay Aa own_stM hS ?_); clear hS; intro b w hS; refine Ad ?_) | ((first | refine Ap Aa own_stM hS ?_ | refine Aq Aa own_stM hS ?_); clear hS; intro w hS; refine Ad ?_)) | ((fail_if_success (with_reducible refine Ac ?_)); first | go_step | go_step3 | rw [Exit.noGoto_normal] | rw [Exit.noGoto_ret] | rw [Exit.noGoto_exit]))
  have hm0 := Try.underlying101
  go_loopw [5, 9] (fun u5 u9 wr => ∃ (k : Nat) (D : DataW Unit), k ≤ n ∧ u9 = .int .i64 (k : Int) ∧ MapOf (l.take k) D ∧ StM rd w0 B k D wr []) (fun _ u9 _ => n - (intOf u9).toNat)
  case atStart => exact ⟨0, _, by omega, rfl, mapOf_nil, hS⟩
  case round =>
    clear hS
    obtain ⟨k, D, hk, rfl, hD, hS⟩ := hrel
    by_cases hlt : k < n
    · obtain ⟨⟨a, C⟩, hx⟩ : ∃ x, l[k]? = some x := ⟨_, List.getElem?_eq_getElem (by omega)⟩
      obtain ⟨b, o, cs, ty, fr, rfl, hb, hcc⟩ := hcell (by intro e; rw [e] at hn; simp at hn; omega)
      obtain ⟨lC, c1, c2, c3, c4⟩ := put_cells ho hcc hx
      have hr : -9223372036854775808 ≤ a ∧ a ≤ 9223372036854775807 := (ho _ (List.mem_of_getElem? hx)).2
      have htk : l.take (k + 1) = l.take k ++ [(a, C)] := by rw [List.take_add_one, hx]; rfl
      have s1 : csz (hdV a C) = 129 := by rw [hdV_size, lC]
      have s2 : csz (hdV 0 (zs 128)) = 129 := by rw [hdV_size, zs_len]
      have hD2 : MapOf (l.take (k + 1)) (D.put (.int .i64 a) (dP (a, C))) := by rw [htk]; exact mapOf_snoc hD (a, C)
      repeat' (first | ((with_reducible refine Ac ?_); first | ((first | refine Ai Aa ?_ | refine Al Aa ?_ | refine Af Aa ?_ | refine Av Aa own_stM hS ?_ (hv := by first | rfl | exact Bi | (rw [Array.getElem?_toList]; first | exact c3 | exact c2)) | refine Bs Aa (by first | exact ((hS).far hb).1) ?_ (hv := by first | rfl | exact Bi | (rw [Array.getElem?_toList]; first | exact c3 | exact c2)) | refine Ba Aa own_stM hS ?_ (hv := by first | exact Bo _ _ (by (try simp only [Bn, Bg, Bm, List.length_append, List.length_set, zs_len, List.length_take, List.length_drop, List.length_cons, List.length_nil]); first | done | rfl | omega) | (first | exact c3 | exact c2) | rfl) | refine Da Aa (by first | exact ((hS).far hb).1) ?_ (hv := by first | exact Bo _ _ (by (try simp only [Bn, Bg, Bm, List.length_append, List.length_set, zs_len, List.length_take, List.length_drop, List.length_cons, List.length_nil]); first | done | rfl | omega) | (first | exact c3 | exact c2) | rfl) | refine Ag Aa ?_ | refine Ae Aa ?_ | refine Be Aa ?_ | refine Bd Aa ?_ | refine Ak Aa ?_ | refine Aj Aa ?_ | refine Aw Aa (fun hc => ?_) (fun hc => ?_) | refine Az Aa ?_) <;> refine Ad ?_) | ((first | refine Ay Aa own_stM hS ?_); clear hS; intro b w hS; refine Ad ?_) | ((first | refine Ap Aa own_stM hS ?_ | refine Aq Aa own_stM hS ?_); clear hS; intro w hS; refine Ad ?_) | (refine Ap Aa own_stM hS ?_ (hv := hdV_ones _ _); clear hS; intro w hS; refine Ad ?_)) | ((fail_if_success (with_reducible refine Ac ?_)); first | go_step | go_step3 | rw [Exit.noGoto_normal] | rw [Exit.noGoto_ret] | rw [Exit.noGoto_exit]))
      refine s_update hrd hS (by rfl) (by rfl) hm0 (by omega) (by rfl) (by rfl) (by rfl) (z := (a, C)) hr ⟨lC, hr⟩ ?_
      clear hS
      intro w hS
      refine Ad ?_
      repeat' (first | ((with_reducible refine Ac ?_); first | ((first | refine Ai Aa ?_ | refine Al Aa ?_ | refine Af Aa ?_ | refine Av Aa own_stM hS ?_ | refine Ba Aa own_stM hS ?_ | refine Ag Aa ?_ | refine Ae Aa ?_ | refine Be Aa ?_ | refine Bd Aa ?_ | refine Ak Aa ?_ | refine Aj Aa ?_ | refine Aw Aa (fun hc => ?_) (fun hc => ?_) | refine Az Aa ?_) <;> refine Ad ?_) | ((first | refine Ay Aa own_stM hS ?_); clear hS; intro b w hS; refine Ad ?_) | ((first | refine Ap Aa own_stM hS ?_ | refine Aq Aa own_stM hS ?_); clear hS; intro w hS; refine Ad ?_)) | ((fail_if_success (with_reducible refine Ac ?_)); first | go_step | go_step3 | rw [Exit.noGoto_normal] | rw [Exit.noGoto_ret] | rw [Exit.noGoto_exit]))
      go_roundw
      case rel => exact ⟨k + 1, _, by omega, by push_cast; rfl, hD2, own_stM.sub hS (fun _ h => absurd h List.not_mem_nil) List.nodup_nil⟩
      case measure => first | (simp [intOf]; done) | (simp [intOf]; omega)
    · obtain rfl : k = n := by omega
      have htl : l.take k = l := List.take_of_length_le (by omega)
      rw [htl] at hD
      repeat' (first | ((with_reducible refine Ac ?_); first | ((first | refine Ai Aa ?_ | refine Al Aa ?_ | refine Af Aa ?_ | refine Av Aa own_stM hS ?_ | refine Ba Aa own_stM hS ?_ | refine Ag Aa ?_ | refine Ae Aa ?_ | refine Be Aa ?_ | refine Bd Aa ?_ | refine Ak Aa ?_ | refine Aj Aa ?_ | refine Aw Aa (fun hc => ?_) (fun hc => ?_) | refine Az Aa ?_) <;> refine Ad ?_) | ((first | refine Ay Aa own_stM hS ?_); clear hS; intro b w hS; refine Ad ?_) | ((first | refine Ap Aa own_stM hS ?_ | refine Aq Aa own_stM hS ?_); clear hS; intro w hS; refine Ad ?_)) | ((fail_if_success (with_reducible refine Ac ?_)); first | go_step | go_step3 | rw [Exit.noGoto_normal] | rw [Exit.noGoto_ret] | rw [Exit.noGoto_exit]))
      refine s_call Aa (by rfl) (by rfl) (by rfl) (by rfl) (by rfl) (by infer_instance) (mapValues_any B _ (map_obj hS.2.1).1) ?_
      rintro e w1 ⟨Bmm, t, fr, rfl, hm, hlow, hb⟩
      refine ⟨_, rfl, ?_⟩
      replace hS := own_stM.call hS hb
      refine Ad ?_
      repeat' (first | ((with_reducible refine Ac ?_); first | ((first | refine Ai Aa ?_ | refine Al Aa ?_ | refine Af Aa ?_ | refine Av Aa own_stM hS ?_ | refine Ba Aa own_stM hS ?_ | refine Ag Aa ?_ | refine Ae Aa ?_ | refine Be Aa ?_ | refine Bd Aa ?_ | refine Ak Aa ?_ | refine Aj Aa ?_ | refine Aw Aa (fun hc => ?_) (fun hc => ?_) | refine Az Aa ?_) <;> refine Ad ?_) | ((first | refine Ay Aa own_stM hS ?_); clear hS; intro b w hS; refine Ad ?_) | ((first | refine Ap Aa own_stM hS ?_ | refine Aq Aa own_stM hS ?_); clear hS; intro w hS; refine Ad ?_)) | ((fail_if_success (with_reducible refine Ac ?_)); first | go_step | go_step3 | rw [Exit.noGoto_normal] | rw [Exit.noGoto_ret] | rw [Exit.noGoto_exit]))
      refine s_call Aa (by rfl) (by rfl) (by rfl) (by rfl) (by rfl) (by infer_instance) (sortedFunc_any hrd l (by omega) ho Bmm B k D _ hm hS.2.1 hD) ?_
      rintro e w2 ⟨sv, R, rfl, hO, hR, hb2⟩
      refine ⟨_, rfl, ?_⟩
      have hsz := hS.1.1.size
      have hBel := hS.1.1.trans (hb2.mono hsz)
      replace hS := own_stM.call hS hb2
      refine Ad ?_
      repeat' (first | ((with_reducible refine Ac ?_); first | ((first | refine Ai Aa ?_ | refine Al Aa ?_ | refine Af Aa ?_ | refine Av Aa own_stM hS ?_ | refine Ba Aa own_stM hS ?_ | refine Ag Aa ?_ | refine Ae Aa ?_ | refine Be Aa ?_ | refine Bd Aa ?_ | refine Ak Aa ?_ | refine Aj Aa ?_ | refine Aw Aa (fun hc => ?_) (fun hc => ?_) | refine Az Aa ?_) <;> refine Ad ?_) | ((first | refine Ay Aa own_stM hS ?_); clear hS; intro b w hS; refine Ad ?_) | ((first | refine Ap Aa own_stM hS ?_ | refine Aq Aa own_stM hS ?_); clear hS; intro w hS; refine Ad ?_)) | ((fail_if_success (with_reducible refine Ac ?_)); first | go_step | go_step3 | rw [Exit.noGoto_normal] | rw [Exit.noGoto_ret] | rw [Exit.noGoto_exit]))
      go_ret
      refine ⟨_, R, rfl, ?_, hR, hBel⟩
      rcases hO with h | ⟨g, c, sp, h1, h2, h3, h4, h5, h6⟩
      · exact .inl h
      · exact .inr ⟨g, c, sp, h1, h2, h3, h4, Nat.le_trans hsz h5, h6⟩
end MP
end Go.Proofs.Ytcjncidahjneaaa
