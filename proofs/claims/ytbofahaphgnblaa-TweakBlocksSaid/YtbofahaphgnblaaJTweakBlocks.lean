/-
  The law TweakBlocks: for every block and every number it answers true. No condition.
-/
import Derived.Test.YtbofahaphgnblaaRows
import Derived.Test.YtbofahaphgnblaaJC0

namespace Go.Proofs.Ytbofahaphgnblaa
open Go.ChangeShapes Go.WideShapes Go.ChangeAt Go.RowKit
attribute [local irreducible] xorL sboxL subB sealV openV
attribute [local go_sem] Oper.semAt_some
theorem count_is (n : Int) : ∃ m : Nat, 1 ≤ m ∧ m ≤ 50 ∧ wrap64 (1 + wrap64 ((IntKind.u64.wrap n).tmod 50)) = (m : Int) := by
  rw [u64N_is]
  generalize u64N n = N
  refine ⟨1 + N % 50, by omega, by omega, ?_⟩
  rw [Int.tmod_eq_emod_of_nonneg (by omega)]
  unfold wrap64
  omega
set_option maxRecDepth 100000 in
set_option maxHeartbeats 4000000 in
theorem tweakBlocks_any (first : List UInt8) (hf : first.length = 16) (n : Int) (w : World) :
    Calls Try.prog 5 #[.agg (bvs first), .int .i64 n] w fun e w' => e = .returned (.bool true) ∧ Below w.heap.size w w' := by
  have A := hid alive6_any
  have HFI := hid hf
  have sf : csz (bvs first) = 16 := by rw [csz_bvs, hf]
  have HDL := hid (fun k => dblIt_len hf k)
  have HDS := hid (fun k => show csz (bvs (dblIt first k)) = 16 by rw [csz_bvs, dblIt_len hf])
  have HD0 := hid (dblIt_zero first)
  have HDB := hid (fun k => (dblIt_succ first k).symm)
  have z := zs16; have e0 := zs_ne
  have sz : csz (bvs (zs 16)) = 16 := by rw [csz_bvs, zs_len]
  obtain ⟨m, hm1, hm2, hm⟩ := count_is n
  have EM := hid hm
  clear hf hm
  refine calls_of_marks Try.func5 rfl ?_
  simp only [Try.ntmps5, List.size_toArray, List.length_cons, List.length_nil, Nat.reduceAdd, Nat.reduceSub, Array.replicate_succ, Array.replicate_zero, List.push_toArray, List.append_toArray, List.nil_append, List.cons_append]
  go_wp2_with fail
  (with_reducible refine (A.out _).mono ?_)
  rintro e wg ⟨rfl, hb⟩
  obtain ⟨g1, rfl⟩ := grow_of hb
  clear hb
  go_wp2_with fail
  rw [EM.out]
  (with_reducible refine (tweaks_any first HFI.out _).mono ?_)
  rintro e wz ⟨rfl, rfl⟩
  go_wp2_with fail
  have hS := show St w ((((grow (((w.alloc (.cells (bvs first) 25)).alloc (.cells #[.int .i64 m] 3)).alloc (.cells #[.bool false] 4)) g1).alloc (.cells #[.int .i64 0] 3)).alloc (.cells (bvs first) 25)).alloc (.cells (bvs first) 25))
    [(w.heap.size + 1 + 1 + 1 + (g1.n + 2), bvs first, 25), (w.heap.size + 1 + 1 + 1 + (g1.n + 1), bvs first, 25), (w.heap.size + 1 + 1 + 1 + g1.n, #[.int .i64 0], 3), (w.heap.size + 1 + 1, #[.bool false], 4), (w.heap.size + 1, #[.int .i64 m], 3), (w.heap.size, bvs first, 25)]
    from St.alloc' (St.alloc' (St.alloc' (St.grow (St.alloc' (St.alloc' (St.alloc' (St.start w) (by first | rfl | simp)) (by first | rfl | simp)) (by first | rfl | simp)) g1) (by first | rfl | (simp [go_sem]; done) | (simp [go_sem]; omega))) (by first | rfl | (simp [go_sem]; done) | (simp [go_sem]; omega))) (by first | rfl | (simp [go_sem]; done) | (simp [go_sem]; omega))
  generalize hW : (((grow (((w.alloc (.cells (bvs first) 25)).alloc (.cells #[.int .i64 m] 3)).alloc (.cells #[.bool false] 4)) g1).alloc (.cells #[.int .i64 0] 3)).alloc (.cells (bvs first) 25)).alloc (.cells (bvs first) 25) = W at *
  clear hW
  generalize w.heap.size + 1 + 1 + 1 + (g1.n + 2) = b7 at *
  generalize w.heap.size + 1 + 1 + 1 + (g1.n + 1) = b6 at *
  generalize w.heap.size + 1 + 1 + 1 + g1.n = b5 at *
  generalize hb4 : w.heap.size + 1 + 1 = b4 at *
  generalize hb3 : w.heap.size + 1 = b3 at *
  clear hb3 hb4
  have hit := tweaks1_iter first HFI.out _ _ (hS.blk 0 rfl)
  have hSL : St w W [(b6, bvs first, 25), (b5, #[.int .i64 0], 3)] := (hS.erase 0).take 2
  refine wp_range_box (els := fun k => #[.int .i64 (wrap64 k), .agg (bvs (dblIt first k))]) (N := none) (R := [b7]) (gf := 52) (lb := #[.pointer (some ⟨b7, 0, none⟩)]) (by rfl) (by intro args w; kernel_rfl) hit (Below.refl _ _) (fun _ => rfl)
    (fun k L => k < m ∧ L = [(b6, bvs (dblIt first k), 25), (b5, #[.int .i64 k], 3)])
    (fun c L => c = .exit 0 ∧ ∃ x, L = [x, (b6, bvs (dblIt first m), 25), (b5, #[.int .i64 m], 3)]) m (fun _ k L h => h.1)
    [(b6, bvs first, 25), (b5, #[.int .i64 0], 3)] ⟨by omega, by rw [HD0.out]; rfl⟩ hSL.holds ?R (fun k => bvs (dblIt first k)) 25 ?act1 ?assign ?body ?done ?stop
  case R =>
    intro b hb
    obtain rfl := List.mem_singleton.1 hb
    exact ⟨hS.lt 0 rfl, by simp only [List.map_cons, List.map_nil, List.mem_cons, List.not_mem_nil, or_false, not_or]; exact ⟨hS.ne 0 1 rfl rfl (by decide), hS.ne 0 2 rfl rfl (by decide)⟩⟩
  case assign =>
    intro l0 k L W1 hI hIn K hK
    have hl := HDS.out k
    gi_wp2
    have h5 := hIn.round.alloc (bvs (dblIt first k)) 25
    generalize W1.heap.size = b at *
    exact hK _ _ h5
  case body =>
    rintro l0 k L b W2 ⟨hk, rfl⟩ hIn _
    have ub : W.heap.size ≤ b := by
      rcases hIn.rd.fresh (b, _) (List.mem_cons_self ..) with h | h
      · rw [objs_keys] at h
        have n1 := hIn.ne 0 1 rfl rfl (by decide)
        have n2 := hIn.ne 0 2 rfl rfl (by decide)
        simp only [List.map_cons, List.map_nil, List.mem_cons, List.not_mem_nil, or_false] at h
        exact (h.elim n1 n2).elim
      · exact h
    obtain ⟨x, rfl, hIn, hB, l1, l2, l3, n1, n2, n3, n4, n5, n6⟩ := hIn.open3
    obtain ⟨f3, g3, m3⟩ := hIn.far (hS.blk 4 rfl) (by simp only [List.map_cons, List.map_nil, List.mem_cons, List.not_mem_nil, or_false, not_or]; exact ⟨hS.ne 4 1 rfl rfl (by decide), hS.ne 4 2 rfl rfl (by decide)⟩)
    have u3 : ¬ b3 = b := by have := hS.lt 4 rfl; omega
    have u5 := hS.ne 4 1 rfl rfl (by decide)
    have u6 := hS.ne 4 2 rfl rfl (by decide)
    have HW := hid (wrap_small k (by omega))
    have hl := HDS.out k
    have hl2 := HDS.out (k + 1)
    have k1 : (k : Int) < 50 := by omega
    have HB := hid hB
    clear hB hIn hit hSL hS
    rw [HW.out]
    by_cases hkm : k + 1 = m
    · have q1 : ((k : Int) + 1 == (m : Int)) = true := by simp; omega
      have HK := hid hkm
      clear hkm
      gi_wp2_with fail
      refine (CallsIn.inRound l0 (callsIn_wide.2 (refDouble_any (dblIt first k) (HDL.out k) _))).mono ?_
      rintro e wz ⟨rfl, hb⟩
      obtain ⟨g9, rfl⟩ := grow_of hb
      clear hb
      rw [HDB.out]
      gi_wp2
      have e1 : #[Value.int .i64 ((k : Int) + 1)] = #[Value.int .i64 (m : Int)] := by rw [show (m : Int) = (k : Int) + 1 by have := HK.out; omega]
      exact ⟨_, (HB.out.put3 _ _ _).grow g9, rfl, _, by rw [HK.out, e1]⟩
    · have q1 : ((k : Int) + 1 == (m : Int)) = false := by simp; omega
      have k2 : k + 1 < m := by omega
      clear hkm
      gi_wp2_with fail
      refine (CallsIn.inRound l0 (callsIn_wide.2 (refDouble_any (dblIt first k) (HDL.out k) _))).mono ?_
      rintro e wz ⟨rfl, hb⟩
      obtain ⟨g9, rfl⟩ := grow_of hb
      clear hb
      rw [HDB.out]
      gi_wp2
      exact ⟨_, In.tail ((HB.out.put3 _ _ _).grow g9), k2, rfl⟩
  case done => intro D n L W1 h; cases h
  case stop =>
    rintro D c L W1 ⟨rfl, ⟨b, cb, tb⟩, rfl⟩ hIn hD hD0
    have hIn2 := hIn.tail
    obtain ⟨_, g5, _, m5, _⟩ := hIn2.at 1 rfl
    obtain ⟨f3, g3, m3⟩ := hIn2.far (hS.blk 4 rfl) (by simp only [List.map_cons, List.map_nil, List.mem_cons, List.not_mem_nil, or_false, not_or]; exact ⟨hS.ne 4 1 rfl rfl (by decide), hS.ne 4 2 rfl rfl (by decide)⟩)
    obtain ⟨f4, g4, m4⟩ := hIn2.far (hS.blk 3 rfl) (by simp only [List.map_cons, List.map_nil, List.mem_cons, List.not_mem_nil, or_false, not_or]; exact ⟨hS.ne 3 1 rfl rfl (by decide), hS.ne 3 2 rfl rfl (by decide)⟩)
    have hSx := hSL.range hIn2
    have h4 : w.heap.size ≤ b4 := hS.low 3 rfl
    have dn : ¬ D = b4 := fun e => by rw [e] at hD; exact absurd (hD.symm.trans f4) (by simp)
    have hDw : w.heap.size ≤ D := Nat.le_trans (hSL.below.size) hD0
    have hDb : blk W1 D = some (.deferred (some [])) := hD
    have hDl := blk_lt hDb
    have hWx := hSx.below
    have z4 : W1.frozen? ⟨b4, 0, none⟩ = false := frozen_of_row _ b4 0 _ _ f4
    clear hIn hIn2 hit hSL hS hD hSx
    go_wp2
    refine postM (.inl rfl) rfl (show blk _ D = _ by rw [blk_setCell _ _ _ _ dn]; exact hDb) ?_
    have hc : ((W1.setCell ⟨b4, 0, none⟩ (.bool true)).putObj D (.deferred none)).cell? ⟨b4, 0, none⟩ = some (.bool true) :=
      (World.cell?_of_block (w := W1.setCell ⟨b4, 0, none⟩ (.bool true)) (World.putObj_heap_other (fun e => dn e.symm))).trans (World.cell?_setCell_same _ _ _ (g4 0))
    exact bodyPost_ret (v := .bool true) (by simp [results, Try.results5, go_sem, hc]) rfl ⟨rfl, below_putObj (hWx.setCell h4 _) hDw _⟩
end Go.Proofs.Ytbofahaphgnblaa

namespace Go.Proofs.Ytbofahaphgnblaa
open Go.ChangeShapes Go.WideShapes Go.ChangeAt Go.RowKit

theorem Try.own : ownKnob Try.prog.godebug = none := by kernel_rfl
theorem Try.laidOut : laidOutB Try.prog = true := by kernel_rfl
theorem cells_25 : Try.prog.cellsOf 25 = 16 := by kernel_rfl

set_option maxRecDepth 100000 in
theorem tweakBlocks_lifted (os : Os) (started : os.Started) (H : Type) (enc : TypeId × Value → H) :
    ReturnsInHanded {} Try.checked os 5 .any (Rows.tweakBlocksSpec.pre6 enc Try.prog Try.f5 Rows.tweakBlocksRow.domain false) (Rows.tweakBlocksSpec.post enc Try.prog Try.f5 false true false false) := by
  refine law_lift (C := Try.checked) Try.own started (by kernel_rfl) Try.func5
    (ChangeSpec.witness6 (enc := enc) (C := Try.checked) false ⟨#[], #[.agg #[.int .u8 0, .int .u8 0, .int .u8 0, .int .u8 0, .int .u8 0, .int .u8 0, .int .u8 0, .int .u8 0, .int .u8 0, .int .u8 0, .int .u8 0, .int .u8 0, .int .u8 0, .int .u8 0, .int .u8 0, .int .u8 0], .int .i64 0], []⟩ 8 (by kernel_rfl) (by kernel_rfl) (by kernel_rfl) (by kernel_rfl))
    rfl (by kernel_rfl) Try.underlying4 (fun ds h => by match ds, h with | [a, b], _ => exact ⟨rfl, rfl, rfl⟩) Try.laidOut (by kernel_rfl) ?_
  intro W base args ds p hval0 hA0 hlt hsz0
  have hval : ∀ (j : Nat) t v, Try.f5.params[j]? = some t → args[j]? = some v → Value.okWide Try.prog W .any base t v := hval0
  have hA : DataW.TrodAll enc Try.prog W 0 (fun _ => true) true Try.f5.params.toList args.toList ds p := hA0
  have hsz : (DataW.weightsEach Try.prog Try.f5.params.toList ds).all (· ≤ reachBytes) = true := hsz0
  rw [Try.params5] at hA hval hsz
  obtain ⟨v0, v1, d0, d1, p0, p1, rfl, rfl, rfl, h0, h1⟩ := trodAll_two hA
  obtain ⟨x0, lx0, rfl⟩ := open_barr isBytes_25 cells_25 (by intro e he; rw [show Try.prog.underlying 25 = _ from Try.underlying25] at he; cases he; kernel_rfl) (hval 0 _ v0 rfl rfl) h0
  obtain ⟨x1, rfl, rfl, rfl, wx1⟩ := open_int Try.underlying3 (hval 1 _ v1 rfl rfl) h1
  exact tweakBlocks_any x0 lx0 x1 W

theorem tweakBlocks_holds : Rows.TweakBlocksSaid :=
  OpenClaim.holds_of_wide 5 Try.f5 rfl rfl rfl rfl rfl rfl rfl ⟨rfl, rfl, rfl, rfl, rfl⟩ rfl rfl rfl rfl rfl (by kernel_rfl) Try.func5 (by kernel_rfl)
    (of_decide_eq_true (by kernel_rfl)) (by unfold Func.isWrapper; rw [if_neg (by decide +kernel)]; exact ⟨rfl, rfl⟩)
    (fun os started H enc _ => tweakBlocks_lifted os started H enc)

end Go.Proofs.Ytbofahaphgnblaa
