/-
  The law SboxWords, walked: for every column it answers true. No condition.
-/
import Derived.Test.YtkfbfgjfdjhjdaaSboxTurnsW
import Derived.Test.YtkfbfgjfdjhjdaaMono
namespace Go.Proofs.Ytkfbfgjfdjhjdaa
open Go.ChangeShapes Go.WideShapes Go.ChangeAt Go.RowKit
theorem four_of {l : List UInt8} (hl : l.length = 4) : ∃ a b c d, l = [a, b, c, d] := by
  match l, hl with
  | [a, b, c, d], _ => exact ⟨a, b, c, d, rfl⟩
attribute [local irreducible] sboxL subB
set_option maxRecDepth 100000 in
set_option maxHeartbeats 2000000 in
theorem sboxWords_any (l : List UInt8) (hl : l.length = 4) (w : World) : Calls Try.prog 9 #[.agg (bvs l)] w fun e w' => e = .returned (.bool true) ∧ Below w.heap.size w w' := by
  obtain ⟨a, b, c, d, rfl⟩ := four_of hl
  have cS := hid (subWord_any [a, b, c, d] rfl)
  have cR := hid (rotate_any a b c d)
  have s0 : csz (bvs [a, b, c, d]) = 4 := rfl
  have s1 : csz (bvs ([a, b, c, d].map subB)) = 4 := rfl
  have s2 : csz (bvs [b, c, d, a]) = 4 := rfl
  have p0 : (bvs [a, b, c, d])[0]? = some (.int .u8 (a.toNat : Int)) := rfl
  have p1 : (bvs [a, b, c, d])[1]? = some (.int .u8 (b.toNat : Int)) := rfl
  have p2 : (bvs [a, b, c, d])[2]? = some (.int .u8 (c.toNat : Int)) := rfl
  have p3 : (bvs [a, b, c, d])[3]? = some (.int .u8 (d.toNat : Int)) := rfl
  have q0 : (bvs ([a, b, c, d].map subB))[0]? = some (.int .u8 ((subB a).toNat : Int)) := rfl
  have q1 : (bvs ([a, b, c, d].map subB))[1]? = some (.int .u8 ((subB b).toNat : Int)) := rfl
  have q2 : (bvs ([a, b, c, d].map subB))[2]? = some (.int .u8 ((subB c).toNat : Int)) := rfl
  have q3 : (bvs ([a, b, c, d].map subB))[3]? = some (.int .u8 ((subB d).toNat : Int)) := rfl
  have r0 : (bvs [b, c, d, a])[0]? = some (.int .u8 (b.toNat : Int)) := rfl
  have r1 : (bvs [b, c, d, a])[1]? = some (.int .u8 (c.toNat : Int)) := rfl
  have r2 : (bvs [b, c, d, a])[2]? = some (.int .u8 (d.toNat : Int)) := rfl
  have r3 : (bvs [b, c, d, a])[3]? = some (.int .u8 (a.toNat : Int)) := rfl
  generalize [a, b, c, d].map subB = m at *
  generalize [a, b, c, d] = v at *
  generalize [b, c, d, a] = r at *
  have z := zs4
  go_enter Try.func9, Try.ntmps9
  go_wp2_with fail
  have hS : St w (w.alloc (.cells (bvs v) 28)) [(w.heap.size, bvs v, 28)] := (St.alloc' (St.start w) (by first | rfl | simp))
  generalize w.alloc (.cells (bvs v) 28) = W at *
  refine region_mono_lit 6 (by kernel_rfl) (by kernel_rfl) ?_
  dsimp only [List.take, List.drop]
  repeat (first | (refine wpM_skip (fun _ => rfl) ?_; simp only [Act.put, List.setIfInBounds_toArray, List.set_cons_zero, List.set_cons_succ]) | (refine wpM_alloc rfl (fun _ => rfl) _ (by intro w; go_simp; rfl) ?_; simp only [Act.put, List.setIfInBounds_toArray, List.set_cons_zero, List.set_cons_succ]) | (refine wpM_slice _ _ _ (fun _ => rfl) _ ?_ ?_; (focus (intro b w' hw' hF; have zS := hS.cls hw'; obtain ⟨zb0, zc0, zf0, zl0, zn0⟩ := zS.at 0 rfl; clear zS; (try (obtain ⟨yb0, yc0, yf0, yl0⟩ := facts_of (hF _ (.head _) rfl))); (try (obtain ⟨yb1, yc1, yf1, yl1⟩ := facts_of (hF _ (.tail _ (.head _)) rfl))); (try (obtain ⟨yb2, yc2, yf2, yl2⟩ := facts_of (hF _ (.tail _ (.tail _ (.head _))) rfl))); go_simp; (first | done | rfl))); simp only [Act.put, List.setIfInBounds_toArray, List.set_cons_zero, List.set_cons_succ]) | (refine wpM_want (fun _ => rfl) (fun K hK => ?_); apply Exists.intro; refine ⟨fun b w' hw' hF => ?_, hK _ _ ?_⟩; (focus (have zS := hS.cls hw'; obtain ⟨zb0, zc0, zf0, zl0, zn0⟩ := zS.at 0 rfl; clear zS; (try (obtain ⟨yb0, yc0, yf0, yl0⟩ := facts_of (hF _ (.head _) rfl))); (try (obtain ⟨yb1, yc1, yf1, yl1⟩ := facts_of (hF _ (.tail _ (.head _)) rfl))); (try (obtain ⟨yb2, yc2, yf2, yl2⟩ := facts_of (hF _ (.tail _ (.tail _ (.head _))) rfl))); go_simp; (try (go_bits; go_simp)); first | done | rfl | (first | (go_at_call 30; exact cS.out _) | (go_at_call 31; exact cR.out _)))); clear hK K; simp only [Act.put, List.setIfInBounds_toArray, List.set_cons_zero, List.set_cons_succ]))
  refine wpM_nil ?_
  intro p w' hc hF hN
  have hS2 := hS.news hc _ (by decide) hF hN
  simp only [List.map_cons, List.map_nil, List.cons_append, List.nil_append] at hS2
  clear hF hN hc hS
  dsimp only
  generalize p 4 = B1 at *
  generalize p 5 = B2 at *
  have hd := hS2.2.2
  simp at hd
  obtain ⟨⟨d1, d2⟩, d3⟩ := hd
  have d4 := Ne.symm d1; have d5 := Ne.symm d2; have d6 := Ne.symm d3
  have s3 : csz (bvs (zs 4)) = 4 := csz_zs 4
  obtain ⟨kb0, kc0, kf0, kl0, kn0⟩ := hS2.at 0 rfl; obtain ⟨kb1, kc1, kf1, kl1, kn1⟩ := hS2.at 1 rfl; obtain ⟨kb2, kc2, kf2, kl2, kn2⟩ := hS2.at 2 rfl
  go_wp2_with fail
  have hS3 := ((hS2.setRow 1 rfl (bvs m)).setRow 0 rfl (bvs r))
  simp only [List.set_cons_zero, List.set_cons_succ] at hS3
  generalize (w'.setRow B1 (bvs m)).setRow B2 (bvs r) = W3 at *
  clear kb0 kc0 kf0 kl0 kn0 kb1 kc1 kf1 kl1 kn1 kb2 kc2 kf2 kl2 kn2 hS2 d1 d2 d3 d4 d5 d6 cS cR
  go_loopw [5, 6, 12] (fun u5 u6 u12 wr => ∃ k : Nat, k ≤ 4 ∧ u12 = .int .i64 k ∧ St w wr [(B2, bvs r, 28), (B1, bvs m, 28), (w.heap.size, bvs v, 28)])
    (fun _ _ i _ => 4 - (intOf i).toNat)
  case atStart => exact ⟨0, by omega, rfl, hS3⟩
  case round =>
    obtain ⟨k, hk, rfl, hS⟩ := hrel
    clear hS3
    by_cases hlt : k < 4
    · obtain rfl | rfl | rfl | rfl : k = 0 ∨ k = 1 ∨ k = 2 ∨ k = 3 := by omega
      case inl =>
        go_wp2_with fail
        refine region_cls (by kernel_rfl) (by kernel_rfl) ?_
        repeat (first | (refine BigFrame.wpQuiet_skip rfl ?_; simp only [Act.put, List.setIfInBounds_toArray, List.set_cons_zero, List.set_cons_succ]) | (refine BigFrame.wpQuiet_want rfl (fun K hK => ?_); apply Exists.intro; refine ⟨fun w' hw' => ?_, hK _ ?_⟩; (focus (have zS := hS.cls hw'; obtain ⟨zb0, zc0, zf0, zl0, zn0⟩ := zS.at 0 rfl; obtain ⟨zb1, zc1, zf1, zl1, zn1⟩ := zS.at 1 rfl; obtain ⟨zb2, zc2, zf2, zl2, zn2⟩ := zS.at 2 rfl; clear zS; go_simp; (try (go_bits; go_simp)); first | done | rfl | (first | (go_at_call 27; exact hw'.call (refSub_any _ _))))); clear hK K; simp only [Act.put, List.setIfInBounds_toArray, List.set_cons_zero, List.set_cons_succ]))
        refine wpQuiet_nil ?_
        intro w2 hc
        have hS2 := hS.cls hc
        clear hS hc
        go_wp2
        go_roundw
        case rel => exact ⟨1, by omega, by go_num, hS2⟩
        case measure => simp [intOf]
      case inr.inl =>
        go_wp2_with fail
        refine region_cls (by kernel_rfl) (by kernel_rfl) ?_
        repeat (first | (refine BigFrame.wpQuiet_skip rfl ?_; simp only [Act.put, List.setIfInBounds_toArray, List.set_cons_zero, List.set_cons_succ]) | (refine BigFrame.wpQuiet_want rfl (fun K hK => ?_); apply Exists.intro; refine ⟨fun w' hw' => ?_, hK _ ?_⟩; (focus (have zS := hS.cls hw'; obtain ⟨zb0, zc0, zf0, zl0, zn0⟩ := zS.at 0 rfl; obtain ⟨zb1, zc1, zf1, zl1, zn1⟩ := zS.at 1 rfl; obtain ⟨zb2, zc2, zf2, zl2, zn2⟩ := zS.at 2 rfl; clear zS; go_simp; (try (go_bits; go_simp)); first | done | rfl | (first | (go_at_call 27; exact hw'.call (refSub_any _ _))))); clear hK K; simp only [Act.put, List.setIfInBounds_toArray, List.set_cons_zero, List.set_cons_succ]))
        refine wpQuiet_nil ?_
        intro w2 hc
        have hS2 := hS.cls hc
        clear hS hc
        go_wp2
        go_roundw
        case rel => exact ⟨2, by omega, by go_num, hS2⟩
        case measure => simp [intOf]
      case inr.inr.inl =>
        go_wp2_with fail
        refine region_cls (by kernel_rfl) (by kernel_rfl) ?_
        repeat (first | (refine BigFrame.wpQuiet_skip rfl ?_; simp only [Act.put, List.setIfInBounds_toArray, List.set_cons_zero, List.set_cons_succ]) | (refine BigFrame.wpQuiet_want rfl (fun K hK => ?_); apply Exists.intro; refine ⟨fun w' hw' => ?_, hK _ ?_⟩; (focus (have zS := hS.cls hw'; obtain ⟨zb0, zc0, zf0, zl0, zn0⟩ := zS.at 0 rfl; obtain ⟨zb1, zc1, zf1, zl1, zn1⟩ := zS.at 1 rfl; obtain ⟨zb2, zc2, zf2, zl2, zn2⟩ := zS.at 2 rfl; clear zS; go_simp; (try (go_bits; go_simp)); first | done | rfl | (first | (go_at_call 27; exact hw'.call (refSub_any _ _))))); clear hK K; simp only [Act.put, List.setIfInBounds_toArray, List.set_cons_zero, List.set_cons_succ]))
        refine wpQuiet_nil ?_
        intro w2 hc
        have hS2 := hS.cls hc
        clear hS hc
        go_wp2
        go_roundw
        case rel => exact ⟨3, by omega, by go_num, hS2⟩
        case measure => simp [intOf]
      case inr.inr.inr =>
        go_wp2_with fail
        refine region_cls (by kernel_rfl) (by kernel_rfl) ?_
        repeat (first | (refine BigFrame.wpQuiet_skip rfl ?_; simp only [Act.put, List.setIfInBounds_toArray, List.set_cons_zero, List.set_cons_succ]) | (refine BigFrame.wpQuiet_want rfl (fun K hK => ?_); apply Exists.intro; refine ⟨fun w' hw' => ?_, hK _ ?_⟩; (focus (have zS := hS.cls hw'; obtain ⟨zb0, zc0, zf0, zl0, zn0⟩ := zS.at 0 rfl; obtain ⟨zb1, zc1, zf1, zl1, zn1⟩ := zS.at 1 rfl; obtain ⟨zb2, zc2, zf2, zl2, zn2⟩ := zS.at 2 rfl; clear zS; go_simp; (try (go_bits; go_simp)); first | done | rfl | (first | (go_at_call 27; exact hw'.call (refSub_any _ _))))); clear hK K; simp only [Act.put, List.setIfInBounds_toArray, List.set_cons_zero, List.set_cons_succ]))
        refine wpQuiet_nil ?_
        intro w2 hc
        have hS2 := hS.cls hc
        clear hS hc
        go_wp2
        go_roundw
        case rel => exact ⟨4, by omega, by go_num, hS2⟩
        case measure => simp [intOf]
    · obtain rfl : k = 4 := by omega
      clear hlt hk
      have hB := hS.below
      go_wp2
      go_ret
      exact ⟨rfl, hB⟩
end Go.Proofs.Ytkfbfgjfdjhjdaa
