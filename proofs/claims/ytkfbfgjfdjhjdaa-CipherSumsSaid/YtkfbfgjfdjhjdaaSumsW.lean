/-
  The law CipherSums, walked: its argument is a struct of two blocks and two columns. No condition.
-/
import Derived.Test.YtkfbfgjfdjhjdaaLinear
import Derived.Test.YtkfbfgjfdjhjdaaOpen
namespace Go.Proofs.Ytkfbfgjfdjhjdaa
open Go.ChangeShapes Go.WideShapes Go.ChangeAt Go.RowKit

theorem four_parts (L : List Value) (h : L.length = 40) : L = (L.drop 0).take 16 ++ ((L.drop 16).take 16 ++ ((L.drop 32).take 4 ++ (L.drop 36).take 4)) := by
  have e3 : (L.drop 36).take 4 = L.drop 36 := List.take_of_length_le (by simp; omega)
  have e2 : (L.drop 32).take 4 ++ L.drop 36 = L.drop 32 := by
    have := List.take_append_drop 4 (L.drop 32); rwa [List.drop_drop] at this
  have e1 : (L.drop 16).take 16 ++ L.drop 32 = L.drop 16 := by
    have := List.take_append_drop 16 (L.drop 16); rwa [List.drop_drop] at this
  rw [e3, e2, e1, List.drop_zero, List.take_append_drop]

theorem cells_key : Try.prog.cellsOf 25 = 16 := by kernel_rfl
theorem cells_word : Try.prog.cellsOf 28 = 4 := by kernel_rfl
theorem cells_pairs : Try.prog.cellsOf 39 = 40 := by kernel_rfl
theorem one_key (e : TypeId) (h : Try.prog.underlying 25 = some (.array 16 e)) : Try.prog.cellsOf e = 1 := by
  rw [show Try.prog.underlying 25 = _ from Try.underlying25] at h; cases h; kernel_rfl
theorem one_word (e : TypeId) (h : Try.prog.underlying 28 = some (.array 4 e)) : Try.prog.cellsOf e = 1 := by
  rw [show Try.prog.underlying 28 = _ from Try.underlying28] at h; cases h; kernel_rfl

theorem open_pairs {H : Type} {enc : TypeId × Value → H} {w W : World} {r : Reach} {b0 base : Nat} {sp : Nat → Bool} {held : Bool} {v : Value} {d : DataW H} {p : List MemPlace}
    (hv : Value.okWide Try.prog W r b0 39 v) (ht : DataW.Trod enc Try.prog w base sp held 39 v d p) :
    ∃ a b x y : List UInt8, a.length = 16 ∧ b.length = 16 ∧ x.length = 4 ∧ y.length = 4 ∧ v = .agg (bvs (a ++ (b ++ (x ++ y)))) := by
  have hu := Try.underlying39
  obtain ⟨cs, rfl, hsz⟩ := okWide_struct hu hv
  rw [cells_pairs] at hsz
  obtain ⟨fuel, hf⟩ := ht
  obtain ⟨xs, n, rfl, hx, hl, hxl, hi⟩ := DataW.trod_struct hu hf
  have hxl4 : xs.length = 4 := hxl
  have g (i : Nat) (h : i < 4) : xs[i]? = some xs[i] := List.getElem?_eq_getElem (by omega)
  have h0 := (hi 0 _ rfl).trans (g 0 (by omega))
  have h1 := (hi 1 _ rfl).trans (g 1 (by omega))
  have h2 := (hi 2 _ rfl).trans (g 2 (by omega))
  have h3 := (hi 3 _ rfl).trans (g 3 (by omega))
  obtain ⟨a, la, ea⟩ := trod_bytes isBytes_25 cells_key one_key h0
  obtain ⟨b, lb, eb⟩ := trod_bytes isBytes_25 cells_key one_key h1
  obtain ⟨x, lx, ex⟩ := trod_bytes isBytes_28 cells_word one_word h2
  obtain ⟨y, ly, ey⟩ := trod_bytes isBytes_28 cells_word one_word h3
  refine ⟨a, b, x, y, la, lb, lx, ly, ?_⟩
  have hL := four_parts cs.toList (by simpa using hsz)
  have ea' : (cs.toList.drop 0).take (Try.prog.cellsOf 25) = a.map bv := ea
  have eb' : (cs.toList.drop 16).take (Try.prog.cellsOf 25) = b.map bv := eb
  have ex' : (cs.toList.drop 32).take (Try.prog.cellsOf 28) = x.map bv := ex
  have ey' : (cs.toList.drop 36).take (Try.prog.cellsOf 28) = y.map bv := ey
  rw [cells_key] at ea' eb'
  rw [cells_word] at ex' ey'
  rw [ea', eb', ex', ey'] at hL
  unfold bvs
  rw [List.map_append, List.map_append, List.map_append, ← hL, Array.toArray_toList]

theorem cut_a (a r : List UInt8) (n : Nat) (h : a.length = n) : (bvs (a ++ r)).extract 0 n = bvs a := by
  unfold bvs; simp [← h]
theorem cut_b (l a r : List UInt8) (k n : Nat) (hk : l.length = k) (h : a.length = n) : (bvs (l ++ (a ++ r))).extract k (k + n) = bvs a := by
  unfold bvs; subst hk h; simp

set_option maxRecDepth 100000 in
set_option maxHeartbeats 1000000 in
theorem cipherSums_any (a b x y : List UInt8) (ha : a.length = 16) (hb : b.length = 16) (hx : x.length = 4) (hy : y.length = 4) (w : World) :
    Calls Try.prog 11 #[.agg (bvs (a ++ (b ++ (x ++ y))))] w fun e w' => e = .returned (.bool true) ∧ Below w.heap.size w w' := by
  have c0 : cut (bvs (a ++ (b ++ (x ++ y)))) 0 16 = bvs a := by
    unfold cut; rw [if_neg (by rw [csz_bvs]; simp; omega)]; exact cut_a a _ 16 ha
  have c1 : cut (bvs (a ++ (b ++ (x ++ y)))) 16 16 = bvs b := by
    unfold cut; rw [if_neg (by omega)]; exact cut_b a b _ 16 16 ha hb
  have c2 : cut (bvs (a ++ (b ++ (x ++ y)))) 32 4 = bvs x := by
    unfold cut; rw [if_neg (by omega)]
    have := cut_b (a ++ b) x y 32 4 (by simp; omega) hx
    rwa [List.append_assoc] at this
  have c3 : cut (bvs (a ++ (b ++ (x ++ y)))) 36 4 = bvs y := by
    unfold cut; rw [if_neg (by omega)]
    have := cut_b (a ++ (b ++ x)) y [] 36 4 (by simp; omega) hy
    rwa [List.append_nil, List.append_assoc, List.append_assoc] at this
  have s0 : csz (bvs (a ++ (b ++ (x ++ y)))) = 40 := by rw [csz_bvs]; simp; omega
  have HA := hid ha; have HB := hid hb; have HX := hid hx; have HY := hid hy; clear ha hb hx hy
  generalize bvs (a ++ (b ++ (x ++ y))) = L at *
  go_enter Try.func11, Try.ntmps11
  go_wp2_with fail
  have hS : St w (w.alloc (.cells L 39)) [(w.heap.size, L, 39)] := (St.alloc' (St.start w) (by simp))
  refine (linear_any a b x y HA.out HB.out HX.out HY.out _).mono ?_
  rintro e w1 ⟨rfl, hb⟩
  have hB := (hS.call hb).below
  clear hS hb
  go_wp2
  go_ret
  exact ⟨rfl, hB⟩
end Go.Proofs.Ytkfbfgjfdjhjdaa
