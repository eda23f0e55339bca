/-
  What the program's Sub and the document's Sub answer for whatever byte. No condition.
-/
import Derived.Test.YtkfbfgjfdjhjdaaRefMul
import Derived.Test.YtkfbfgjfdjhjdaaSboxP
import Derived.Laws.Tables
namespace Go.Proofs.Ytkfbfgjfdjhjdaa
open Go.ChangeShapes Go.WideShapes Go.ChangeAt Go.RowKit
attribute [local irreducible] sboxL invN refMulN subN tb

theorem wpList_build' {P : Program} {ops : Array Oper} {rest : List Oper} {o : Oper} {a : Act} {w : World} {Q : Exit → Act → World → Prop} (hg : o.guard = none) (t : TypeId) (parts : Array (Nat × Operand)) (ho : o.op = .build t parts)
    (v : Array Value) (hf : P.built t (parts.map fun (i, x) => (i, a.eval x)).toList = some v) (h : wpList P ops Q rest (a.put o.dst (.agg v)) w) : wpList P ops Q (o :: rest) a w :=
  wpList_build hg t parts ho (by rw [hf]; rfl) (by rw [hf]; exact h)

set_option maxRecDepth 100000 in
set_option maxHeartbeats 1000000 in
theorem subs_any (w : World) : Calls Try.prog 52 #[] w fun e w' => e = .returned (.agg (bvs sboxL)) ∧ Below w.heap.size w w' := by
  have s0 : csz (bvs sboxL) = 256 := by rw [csz_bvs, sboxL_len]
  have s1 : csz Try.zeroCells32 = 256 := by kernel_rfl
  go_enter Try.func52, Try.ntmps52
  go_wp2_with (refine wpList_build' rfl 32 _ rfl (bvs sboxL) (by unfold sboxL; kernel_rfl) ?_)
  exact post_cell (n := 256) Try.results52 (by kernel_rfl) (.inl rfl) _ (bvs sboxL) 32 (0, 0) rfl rfl (by simp [go_sem, s0, s1]) s0 ⟨rfl, (by repeat (first | exact Below.refl _ _ | assumption | refine Below.alloc ?_ (by first | omega | (simp; done) | (simp; omega)) _ | refine Below.drew ?_ | refine Below.setCell ?_ (by first | omega | (simp; done) | (simp; omega)) _ | refine below_setRow' ?_ (by first | omega | (simp; done) | (simp; omega)) _ | refine below_drewN' ?_ _))⟩

set_option maxRecDepth 100000 in
set_option maxHeartbeats 1000000 in
theorem table2_any (w : World) : Calls Try.prog 28 #[] w fun e w' => e = .returned (.agg (bvs sboxL)) ∧ Below w.heap.size w w' := by
  have s0 : csz (bvs sboxL) = 256 := by rw [csz_bvs, sboxL_len]
  have s1 : csz Try.zeroCells32 = 256 := by kernel_rfl
  go_enter Try.func28, Try.ntmps28
  go_wp2_with (refine wpList_build' rfl 32 _ rfl (bvs sboxL) (by unfold sboxL; kernel_rfl) ?_)
  exact post_cell (n := 256) Try.results28 (by kernel_rfl) (.inl rfl) _ (bvs sboxL) 32 (0, 0) rfl rfl (by simp [go_sem, s0, s1]) s0 ⟨rfl, (by repeat (first | exact Below.refl _ _ | assumption | refine Below.alloc ?_ (by first | omega | (simp; done) | (simp; omega)) _ | refine Below.drew ?_ | refine Below.setCell ?_ (by first | omega | (simp; done) | (simp; omega)) _ | refine below_setRow' ?_ (by first | omega | (simp; done) | (simp; omega)) _ | refine below_drewN' ?_ _))⟩

theorem sboxL_get (b : UInt8) : (bvs sboxL)[b.toNat]? = some (.int .u8 ((subB b).toNat : Int)) := bvs_get (by rw [sboxL_len]; exact b.toNat_lt)

set_option maxHeartbeats 400000 in
theorem sub_any (b : UInt8) (w : World) : Calls Try.prog 26 #[.int .u8 b.toNat] w fun e w' => e = .returned (.int .u8 (subB b).toNat) ∧ Below w.heap.size w w' := by
  have h0 := u8_ofInt b
  have h1 : (0 : Int) ≤ (b.toNat : Int) := by omega
  have hx := sboxL_get b
  go_enter Try.func26, Try.ntmps26
  go_wp2_with fail
  refine (subs_any _).mono ?_
  rintro e w1 ⟨rfl, hb⟩
  go_wp2
  go_ret
  exact ⟨rfl, hb⟩

/-! ### The document's answer -/
theorem refMulN_any (a : UInt8) (k : Nat) (hk : k < 256) (w : World) :
    Calls Try.prog 57 #[.int .u8 a.toNat, .int .u8 k] w fun e w' => e = .returned (.int .u8 (refMulN a.toNat k)) ∧ Below w.heap.size w w' := by
  have e : (UInt8.ofNat k).toNat = k := by simp; omega
  have := refMul_any a (UInt8.ofNat k) w
  rwa [e] at this

/-- No number below has the product 1. -/
def NoOne (b : UInt8) (k : Nat) : Prop := ∀ j, j < k → refMulN b.toNat j ≠ 1
theorem NoOne.next {b : UInt8} {k : Nat} (h : NoOne b k) (hk : refMulN b.toNat k ≠ 1) : NoOne b (k + 1) := fun j hj => by
  rcases Nat.lt_or_ge j k with h1 | h1
  · exact h j h1
  · obtain rfl : j = k := by omega
    exact hk

set_option maxRecDepth 100000 in
set_option maxHeartbeats 1000000 in
theorem refInv_any (b : UInt8) (w : World) : Calls Try.prog 53 #[.int .u8 b.toNat] w fun e w' => e = .returned (.int .u8 (invN b.toNat)) ∧ Below w.heap.size w w' := by
  go_enter Try.func53, Try.ntmps53
  go_wp2_with fail
  go_loopw [3] (fun u3 wr => ∃ k : Nat, k ≤ 256 ∧ u3 = .int .i64 k ∧ St w wr [] ∧ NoOne b k) (fun i _ => 256 - (intOf i).toNat)
  case atStart => exact ⟨0, by omega, rfl, St.start w, fun j hj => by omega⟩
  case round =>
    obtain ⟨k, hk, rfl, hS, hno⟩ := hrel
    by_cases hlt : k < 256
    · by_cases h1 : refMulN b.toNat k = 1
      · have hr := hid (invN_of b.toNat k hlt h1 hno)
        have hq : (((refMulN b.toNat k : Nat) : Int) == 1) = true := by rw [h1]; rfl
        clear h1 hno
        go_wp2_with fail
        refine (refMulN_any b k hlt _).mono ?_
        rintro e w1 ⟨rfl, hb⟩
        have hB := (hS.call hb).below
        clear hS hb
        go_wp2
        go_ret
        exact ⟨ret_int (by rw [hr.out]), hB⟩
      · have hq : (((refMulN b.toNat k : Nat) : Int) == 1) = false := by rw [beq_eq_false_iff_ne]; omega
        have hn := hno.next h1
        clear h1 hno
        go_wp2_with fail
        refine (refMulN_any b k hlt _).mono ?_
        rintro e w1 ⟨rfl, hb⟩
        have hS2 := hS.call hb
        clear hS hb
        go_wp2
        go_roundw
        case rel => exact ⟨k + 1, by omega, by go_num, hS2, hn⟩
        case measure => simp [intOf]; omega
    · obtain rfl : k = 256 := by omega
      have hr := hid (invN_none b.toNat hno)
      have hB := hS.below
      clear hno hS hk hlt
      go_wp2
      go_ret
      exact ⟨ret_int (by rw [hr.out]; rfl), hB⟩

set_option maxHeartbeats 400000 in
theorem bit2_any (x : Nat) (hx : x < 256) (i : Int) (h0 : 0 ≤ i) (h1 : i ≤ 99) (w : World) : Calls Try.prog 54 #[.int .u8 x, .int .i64 i] w fun e w' => e = .returned (.int .i64 (tb x i.toNat)) ∧ w = w' := by
  obtain ⟨n, rfl⟩ := Int.eq_ofNat_of_zero_le h0
  clear h0
  go_enter Try.func54, Try.ntmps54
  go_wp2
  go_loop [0, 5] (fun u0 u5 => ∃ k : Nat, k ≤ n ∧ u0 = .int .u8 ((x / 2 ^ k : Nat) : Int) ∧ u5 = .int .i64 k) (fun _ u => n - (intOf u).toNat)
  case atStart => exact ⟨0, by omega, by simp, rfl⟩
  case round =>
    obtain ⟨k, hk, rfl, rfl⟩ := hrel
    have hd : x / 2 ^ k ≤ x := Nat.div_le_self _ _
    obtain ⟨y, hy⟩ : ∃ y, x / 2 ^ k = y := ⟨_, rfl⟩
    have HY := hid hy
    rw [hy] at hd
    rw [hy]
    clear hy
    by_cases hlt : k < n
    · go_wp2
      go_round
      case rel => exact ⟨k + 1, by omega, by rw [Nat.pow_succ, ← Nat.div_div_eq_div_mul, HY.out]; rfl, by go_num⟩
      case measure => simp [intOf]; omega
    · obtain rfl : k = n := by omega
      go_wp2
      go_ret
      exact ⟨ret_int (by unfold tb; rw [HY.out]; omega), rfl⟩
theorem bit99_any (i : Int) (h0 : 0 ≤ i) (h1 : i ≤ 99) (w : World) : Calls Try.prog 54 #[.int .u8 99, .int .i64 i] w fun e w' => e = .returned (.int .i64 (tb 99 i.toNat)) ∧ w = w' := bit2_any 99 (by decide) i h0 h1 w

set_option maxRecDepth 100000 in
set_option maxHeartbeats 2000000 in
theorem refSub_any (b : UInt8) (w : World) : Calls Try.prog 27 #[.int .u8 b.toNat] w fun e w' => e = .returned (.int .u8 (subB b).toNat) ∧ Below w.heap.size w w' := by
  have hfin := hid (sub_is b)
  have hv := invN_lt b.toNat
  go_enter Try.func27, Try.ntmps27
  go_wp2_with fail
  refine (refInv_any b _).mono ?_
  rintro e w1 ⟨rfl, hb⟩
  obtain ⟨v, hV⟩ : ∃ v, invN b.toNat = v := ⟨_, rfl⟩
  rw [hV] at hv
  have HV := hid hV
  rw [hV]
  clear hV
  go_wp2_with fail
  go_loop [4, 5, 6] (fun u4 u5 u6 => ∃ m : Nat, m ≤ 8 ∧ u4 = .int .u8 (subN v m) ∧ u5 = .int .i64 (7 - (m : Int))) (fun _ i _ => ((intOf i) + 1).toNat)
  case atStart => exact ⟨0, by omega, by unfold subN; rfl, rfl⟩
  case round =>
    obtain ⟨m, hm, rfl, rfl⟩ := hrel
    have hs := subN_lt v m
    by_cases hlt : m < 8
    · have t0 := tb_le v (7 - m)
      have t1 := tb_le v ((7 - m + 4) % 8)
      have t2 := tb_le v ((7 - m + 5) % 8)
      have t3 := tb_le v ((7 - m + 6) % 8)
      have t4 := tb_le v ((7 - m + 7) % 8)
      have t5 := tb_le 99 (7 - m)
      go_wp2_with (first | (go_at_call 54; (with_reducible refine (bit2_any _ hv _ ?_ ?_ _).mono ?_); (focus omega); (focus omega); rintro e w' ⟨rfl, rfl⟩) | (go_at_call 54; (with_reducible refine (bit99_any _ ?_ ?_ _).mono ?_); (focus omega); (focus omega); rintro e w' ⟨rfl, rfl⟩))
      go_round
      case rel => exact ⟨m + 1, by omega, by rw [subN_succ]; refine congrArg _ ?_; omega, by go_num⟩
      case measure => simp [intOf]; omega
    · obtain rfl : m = 8 := by omega
      clear hlt hm
      go_wp2
      go_ret
      exact ⟨ret_int (by rw [← hfin.out, HV.out]), hb⟩
end Go.Proofs.Ytkfbfgjfdjhjdaa
