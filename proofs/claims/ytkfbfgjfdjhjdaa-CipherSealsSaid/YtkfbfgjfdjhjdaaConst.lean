/-
  The program's Constant and the document's. No condition.
-/
import Derived.Test.YtkfbfgjfdjhjdaaIter
import Derived.Test.YtkfbfgjfdjhjdaaRefMul
import Derived.Test.YtkfbfgjfdjhjdaaMulP
import Derived.Test.YtkfbfgjfdjhjdaaTypes
import Derived.Test.YtkfbfgjfdjhjdaaPlain
namespace Go.Proofs.Ytkfbfgjfdjhjdaa
open Go.ChangeShapes Go.WideShapes Go.ChangeAt Go.RowKit
attribute [local go_sem] Oper.semAt_some

/-- The end of a function that holds one range over a function. -/
theorem postM {P : Program} {fn : Func} {R : Ending → World → Prop} {a : Act} {w : World} {e : Exit} {D : Nat} (he : e = .ret ∨ e = .normal) (hd : a.defers = [{ target := .collected D, args := #[] }]) (hk : w.heap[D]? = some (.deferred (some [])))
    (h : bodyPost P fn R .ret { a with defers := [] } (w.putObj D (.deferred none))) : bodyPostM Fence.wide 0 P fn R e a w := by
  obtain ⟨_, v, hr, hR⟩ := h
  have key : LeavesInM Fence.wide 0 P fn a.tmps R a.defers .returning w := by
    rw [hd]
    exact ⟨by simp, .inl ⟨D, _, rfl, run_takeDeferred hk, v, hr, hR⟩⟩
  rcases he with rfl | rfl
  · exact key
  · exact key
theorem postM0 {P : Program} {fn : Func} {R : Ending → World → Prop} {a : Act} {w : World} {e : Exit} (he : e = .ret ∨ e = .normal) (h : bodyPost P fn R e a w) : bodyPostM Fence.wide 0 P fn R e a w := by
  rcases he with rfl | rfl
  · obtain ⟨hd, v, hr, hR⟩ := h
    show LeavesInM Fence.wide 0 P fn a.tmps R a.defers .returning w
    rw [hd]
    exact ⟨v, hr, hR⟩
  · obtain ⟨hd, v, hr, hR⟩ := h
    show LeavesInM Fence.wide 0 P fn a.tmps R a.defers .returning w
    rw [hd]
    exact ⟨v, hr, hR⟩
theorem calls_of_marks {P : Program} {f : FuncId} {fn : Func} {c : Code} {args : Array Value} {w : World} {R : Ending → World → Prop} (hf : P.funcs[f]? = some fn) (hb : fn.body = some c)
    (h : c.wp P (bodyPostM Fence.wide 0 P fn R) { tmps := args ++ Array.replicate (fn.ntmps - args.size) undef, defers := [] } w) : Calls P f args w R :=
  (callsIn_wide (n := 0)).1 (callsIn_of_wp_marks hf hb trivial (wpIn_wide.2 h))

def powB (b : UInt8) : Nat → UInt8
  | 0 => 1
  | k + 1 => mulB (powB b k) b
theorem powB_succ (b : UInt8) (k : Nat) : powB b (k + 1) = mulB (powB b k) b := rfl
theorem powB_zero (b : UInt8) : powB b 0 = 1 := rfl
attribute [irreducible] powB

set_option maxRecDepth 100000 in
set_option maxHeartbeats 1000000 in
theorem powers_any (b : UInt8) (w : World) : Calls Try.prog 56 #[.int .u8 b.toNat] w fun e w' => e = .returned (.func (.func 65) #[] #[.pointer (some ⟨w.heap.size, 0, none⟩)]) ∧ w' = w.alloc (.cells #[.int .u8 b.toNat] 5) := by
  go_enter Try.func56, Try.ntmps56
  go_wp2
  go_ret
  exact ⟨rfl, rfl⟩

set_option maxRecDepth 100000 in
set_option maxHeartbeats 1000000 in
theorem powers1_iter (b : UInt8) (g : Nat) (W0 : World) (hg : blk W0 g = some (.cells #[.int .u8 b.toNat] 5 (0, 0))) :
    IterAt Try.prog 65 #[.pointer (some ⟨g, 0, none⟩)] (fun k => #[.int .u8 (powB b k).toNat]) none [g] W0 := by
  intro l J Jx M W L0 hbW hR hM hJ0 hH hY
  have hgW : blk W g = some (.cells #[.int .u8 b.toNat] 5 (0, 0)) := (hbW.block g (blk_lt hg)).trans hg
  have hgn : g ∉ L0.map (·.1) := hR g (List.mem_cons_self ..)
  have hM' := hid (hM rfl)
  have HY := hid hY
  clear hM hY hR hg hbW
  refine (callsIn_wide (n := 1)).1 ?_
  refine callsIn_of_wp Try.func65 rfl trivial ?_ rfl
  simp only [Try.ntmps65, List.size_toArray, List.length_cons, List.length_nil, Nat.reduceAdd, Nat.reduceSub, Array.replicate_succ, Array.replicate_zero, List.push_toArray, List.append_toArray, List.nil_append, List.cons_append]
  gi_wp2
  gi_loopg [3] M (fun n u3 wr => ∃ k L, n + k = M ∧ u3 = .int .u8 ((powB b k).toNat : Int) ∧ J k L ∧ Rd L0 W L wr)
  case atStart => exact ⟨0, L0, by omega, by rw [powB_zero]; rfl, hJ0, .refl hH⟩
  case round =>
    obtain ⟨k, L, hk, rfl, hJ, hRd⟩ := hrel
    obtain ⟨fn, tmps, assign, body, hy, hRo⟩ := HY.out k L wr hJ hRd (fun n h => by cases h)
    have HH := hid hRd; have HHJ := hid hJ
    clear hRd hJ
    gi_wp2
    refine hRo.mono ?_
    rintro e W3 ⟨L2, hRd2, (⟨rfl, hJ2⟩ | ⟨rfl, hx⟩)⟩
    · have hT := HH.out.trans hRd2
      have hm := hM'.out (k + 1) L2 hJ2
      obtain ⟨hb2, hc2, hl2⟩ := hT.farCells hgW hgn
      have HT := hid hT; have HJ := hid hJ2
      clear hT hRd2 hJ2 hRo hy HH HHJ
      gi_wp2_with fail
      refine (callsIn_wide.2 (mul_any (powB b k) b _)).mono ?_
      rintro e w' ⟨rfl, rfl⟩
      gi_wp2
      gi_roundg (gk - 1)
      case rel => exact ⟨k + 1, L2, by omega, by rw [powB_succ], HJ.out, HT.out⟩
      case measure => omega
    · have hT := HH.out.trans hRd2
      gi_wp2
      go_end0
      exact ⟨⟨_, rfl⟩, L2, hT, .inr hx⟩

theorem powers2_any (w : World) : Calls Try.prog 56 #[.int .u8 2] w fun e w' => e = .returned (.func (.func 65) #[] #[.pointer (some ⟨w.heap.size, 0, none⟩)]) ∧ w' = w.alloc (.cells #[.int .u8 2] 5) := powers_any 2 w
set_option maxRecDepth 100000 in
set_option maxHeartbeats 1000000 in
theorem constant_any (i : Nat) (h1 : 1 ≤ i) (h60 : i ≤ 60) (w : World) : Calls Try.prog 32 #[.int .i64 i] w fun e w' => e = .returned (.agg (bvs [powB 2 (i - 1), 0, 0, 0])) ∧ Below w.heap.size w w' := by
  have z := zs4
  have g1 : ¬ ((i : Int) < 1) := by omega
  have g2 : ¬ (60 < (i : Int)) := by omega
  refine calls_of_marks Try.func32 rfl ?_
  simp only [Try.ntmps32, List.size_toArray, List.length_cons, List.length_nil, Nat.reduceAdd, Nat.reduceSub, Array.replicate_succ, Array.replicate_zero, List.push_toArray, List.append_toArray, List.nil_append, List.cons_append]
  go_wp2_with fail
  with_reducible refine (powers2_any _).mono ?_
  rintro e w1 ⟨rfl, rfl⟩
  have hS : St w (((w.alloc (.cells #[.int .i64 i] 3)).alloc (.cells (bvs (zs 4)) 28)).alloc (.cells #[.int .i64 1] 3)) [(w.heap.size + 1 + 1, #[.int .i64 1], 3), (w.heap.size + 1, bvs (zs 4), 28), (w.heap.size, #[.int .i64 i], 3)] := (St.alloc' (St.alloc' (St.alloc' (St.start w) (by first | rfl | simp)) (by first | rfl | simp)) (by first | rfl | simp))
  have hS2 := hS.alloc' (n := w.heap.size + 1 + 1 + 1) (cs := #[.int .u8 2]) (t := 5) (by simp)
  clear hS
  go_wp2_with fail
  generalize (((w.alloc (.cells #[.int .i64 i] 3)).alloc (.cells (bvs (zs 4)) 28)).alloc (.cells #[.int .i64 1] 3)).alloc (.cells #[.int .u8 2] 5) = W at *
  have hnd := hS2.2.2
  have hit := powers1_iter 2 (w.heap.size + 1 + 1 + 1) W (hS2.blk 0 rfl)
  have hlt := blk_lt (hS2.blk 0 rfl)
  have hS3 := hS2.tail
  generalize w.heap.size + 1 + 1 + 1 = b3 at *
  generalize w.heap.size + 1 + 1 = b2 at *
  generalize w.heap.size + 1 = b1 at *
  refine wp_range (els := fun k => #[.int .u8 (powB 2 k).toNat]) (N := none) (R := [b3]) (gf := 65) (lb := #[.pointer (some ⟨b3, 0, none⟩)]) (by rfl) (by intro args w; kernel_rfl) hit (Below.refl _ _) (fun _ => rfl)
    (fun k L => k < i ∧ L = [(b2, #[.int .i64 ((k : Int) + 1)], 3), (b1, bvs (zs 4), 28), (w.heap.size, #[.int .i64 i], 3)])
    (fun c L => c = .ret ∧ ∃ x, L = [x, (b1, bvs [powB 2 (i - 1), 0, 0, 0], 28), (w.heap.size, #[.int .i64 i], 3)]) i (fun _ k L h => h.1)
    [(b2, #[.int .i64 1], 3), (b1, bvs (zs 4), 28), (w.heap.size, #[.int .i64 i], 3)] ⟨h1, rfl⟩ hS3.holds ?R ?act1 ?assign ?body ?done ?stop
  case R =>
    intro b hb
    obtain rfl := List.mem_singleton.1 hb
    simp only [List.map_cons, List.map_nil, List.nodup_cons] at hnd
    exact ⟨hlt, hnd.1⟩
  case assign =>
    intro l k W1 K hK
    gi_wp2
    exact hK
  case body =>
    rintro l k L W1 ⟨hk, rfl⟩ hIn _
    have hB := hIn.round
    clear hIn hnd hit hlt hS3 hS2
    generalize hp : powB 2 k = p
    have HP := hid hp; clear hp
    have hb : (bvs (zs 4)).setIfInBounds 0 (.int .u8 (p.toNat : Int)) = bvs [p, 0, 0, 0] := by rw [← zs4]; rfl
    have s0 : csz (bvs [p, 0, 0, 0]) = 4 := rfl
    have e0 : ¬ bvs (zs 4) = #[] := by rw [← zs4]; simp
    have f0 : (0 : Int) ≤ (k : Int) := by omega
    have f1 : (k : Int) < 60 := by omega
    obtain ⟨kb0, kc0, kf0, kl0, kn0⟩ := hB.at 0 rfl; obtain ⟨kb1, kc1, kf1, kl1, kn1⟩ := hB.at 1 rfl; obtain ⟨kb2, kc2, kf2, kl2, kn2⟩ := hB.at 2 rfl
    by_cases hki : k + 1 = i
    · have hki2 : ((k : Int) + 1 == (i : Int)) = true := by simp; omega
      have HK := hid hki; clear hki
      gi_wp2
      have h2 := hB.setRow 1 rfl (bvs [p, 0, 0, 0])
      simp only [List.set_cons_zero, List.set_cons_succ] at h2
      exact ⟨_, h2, rfl, _, by rw [show i - 1 = k by have := HK.out; omega, HP.out]⟩
    · have hki2 : ((k : Int) + 1 == (i : Int)) = false := by simp; omega
      gi_wp2
      have h2 := hB.setCell 0 rfl 0 (.int .i64 ((k : Int) + 1 + 1))
      simp only [List.set_cons_zero] at h2
      exact ⟨_, h2, by omega, rfl⟩
  case done => intro D n L W1 h; cases h
  case stop =>
    rintro D c L W1 ⟨rfl, x, rfl⟩ hIn hD hD0
    have hS4 := hS3.range hIn
    have h5 := hS4.shut hD (fun _ _ _ h => by cases h) (Nat.le_trans hS3.below.size hD0) (.deferred none)
    clear hS4 hIn hS3 hS2 hit hnd
    go_wp2
    refine postM (.inl rfl) rfl hD ?_
    exact post_cell (n := 4) Try.results32 (by kernel_rfl) (.inl rfl) _ _ _ _ rfl rfl (h5.blk 1 rfl) rfl ⟨rfl, h5.below⟩
end Go.Proofs.Ytkfbfgjfdjhjdaa
