/-
  What the program's Back answers for whatever byte; SubAll, BackAll, SubWord, Rotate. No condition.
-/
import Derived.Test.YtkfbfgjfdjhjdaaSubAll
import Derived.Test.YtkfbfgjfdjhjdaaBackP
import Derived.Lib.BytesEntry
namespace Go.Proofs.Ytkfbfgjfdjhjdaa
open Go.ChangeShapes Go.WideShapes Go.ChangeAt Go.RowKit
attribute [local irreducible] sboxL subB backB mapN

set_option maxHeartbeats 1000000 in
set_option maxRecDepth 100000 in
theorem indexByte_any (l : List UInt8) (b o n c : Nat) (x : UInt8) (w : World) (hl : l.length = n) (hc : ∀ i, i < n → w.cell? ⟨b, o + i, none⟩ = some (.int .u8 ((l.getD i 0).toNat : Int))) :
    Calls Try.prog 55 #[.slice (some ⟨b, o, none⟩) n c, .int .u8 x.toNat] w fun e w' => e = .returned (.int .i64 (Lib.indexByte l x)) ∧ w = w' := by
  have hx : (l.map fun y : UInt8 => (y.toNat : Int)).length = n := by simpa using hl
  have hc' : ∀ i, i < n → w.cell? ⟨b, o + i, none⟩ = some (.int .u8 ((l.map fun y : UInt8 => (y.toNat : Int)).getD i 0)) := by
    intro i hi
    rw [hc i hi]
    have : i < l.length := by omega
    simp [this]
  have e1 : Lib.bytesOf (l.map fun y : UInt8 => (y.toNat : Int)) = l := by
    simp only [Lib.bytesOf, List.map_map]
    conv => rhs; rw [← List.map_id l]
    exact List.map_congr_left fun y _ => by simp
  have e2 : ((x.toNat : Int)).toNat.toUInt8 = x := by simp
  have hrun := Lib.run_indexByteSlice (P := Try.prog) w b o n c (l.map fun y : UInt8 => (y.toNat : Int)) hx hc' (x.toNat : Int)
  rw [e1, e2] at hrun
  clear hx hc' e1 e2 hc hl
  go_enter Try.func55, Try.ntmps55
  go_wp2
  rw [run_callFunc_extern Try.func64 (by kernel_rfl) (by kernel_rfl) (by kernel_rfl) (e := Extern.BytealgIndexByte.indexByte) (by kernel_rfl), hrun]
  simp only [Result.andThen]
  rw [Oper.upon_value]
  go_wp2
  go_ret
  exact ⟨rfl, rfl⟩

set_option maxHeartbeats 1000000 in
set_option maxRecDepth 100000 in
theorem back_any (b : UInt8) (w : World) : Calls Try.prog 29 #[.int .u8 b.toNat] w fun e w' => e = .returned (.int .u8 (backB b).toNat) ∧ Below w.heap.size w w' := by
  have hi := hid (back_is b)
  have hb8 := u8_ofInt (backB b)
  have s0 : csz (bvs sboxL) = 256 := by rw [csz_bvs, sboxL_len]
  have s1 : csz Try.zeroCells32 = 256 := by kernel_rfl
  go_enter Try.func29, Try.ntmps29
  go_wp2_with fail
  refine (subs_any _).mono ?_
  rintro e w1 ⟨rfl, hb⟩
  go_wp2_with fail
  refine (indexByte_any sboxL w1.heap.size 0 256 256 b _ sboxL_len (fun i hi => ?_)).mono ?_
  · rw [Nat.zero_add, World.cell?_alloc_at _ _ _ _ rfl]
    exact bvs_get (by rw [sboxL_len]; exact hi)
  rintro e w2 ⟨rfl, rfl⟩
  rw [hi.out]
  go_wp2
  go_ret
  exact ⟨rfl, hb.alloc hb.size _⟩

set_option maxRecDepth 100000 in
set_option maxHeartbeats 1000000 in
theorem backAll_any (l : List UInt8) (hl : l.length = 16) (w : World) : Calls Try.prog 36 #[.agg (bvs l)] w fun e w' => e = .returned (.agg (bvs (l.map backB))) ∧ Below w.heap.size w w' := by
  have H := hid hl
  have hfin := hid (mapN_all backB l 16 hl)
  have s0 : csz (bvs l) = 16 := by rw [csz_bvs, hl]
  clear hl
  have z := zs16
  go_enter Try.func36, Try.ntmps36
  go_wp2_with fail
  go_loopw [3, 4, 6] (fun u3 u4 u6 wr => ∃ k : Nat, k ≤ 16 ∧ u6 = .int .i64 k ∧ St w wr [(w.heap.size + 1, bvs (zs 16), 25), (w.heap.size, bvs (mapN backB l k), 25)])
    (fun _ _ i _ => 16 - (intOf i).toNat)
  case atStart => exact ⟨0, by omega, rfl, by rw [mapN_zero]; exact (St.alloc' (St.alloc' (St.start w) (by first | rfl | simp)) (by first | rfl | simp))⟩
  case round =>
    obtain ⟨k, hk, rfl, hS⟩ := hrel
    by_cases hlt : k < 16
    · have hx := bvs_get (l := l) (k := k) (by rw [H.out]; omega)
      have hy := bvs_get (l := mapN backB l k) (k := k) (by rw [mapN_len, H.out]; omega)
      generalize hX : l.getD k 0 = x at hx
      generalize (mapN backB l k).getD k 0 = y at hy
      have HX := hid hX; clear hX
      go_wp2_with fail
      refine (back_any x _).mono ?_
      rintro e w1 ⟨rfl, hb⟩
      have hS2 := hS.call hb
      clear hS hb
      obtain ⟨kb1, kc1, kf1, kl1, kn1⟩ := hS2.at 1 rfl
      go_wp2
      go_roundw
      case rel =>
        refine ⟨k + 1, by omega, by go_num, ?_⟩
        have h3 := hS2.setCell 1 rfl k (.int .u8 ((backB x).toNat : Int))
        rw [bvs_set, show (mapN backB l k).set k (backB x) = mapN backB l (k + 1) by rw [mapN_succ, HX.out]] at h3
        exact h3
      case measure => simp [intOf]; omega
    · obtain rfl : k = 16 := by omega
      have hs : csz (bvs (mapN backB l 16)) = 16 := by rw [csz_bvs, mapN_len, H.out]
      clear hk hlt
      obtain ⟨kb0, kc0, kf0, kl0, kn0⟩ := hS.at 0 rfl; obtain ⟨kb1, kc1, kf1, kl1, kn1⟩ := hS.at 1 rfl
      go_wp2
      have h3 := hS.setRow 0 rfl (bvs (mapN backB l 16))
      exact post_cell (n := 16) Try.results36 (by kernel_rfl) (.inl rfl) _ _ _ _ rfl rfl (h3.blk 0 rfl) hs ⟨by rw [hfin.out], h3.below⟩
end Go.Proofs.Ytkfbfgjfdjhjdaa
