/-
  Plain lists of bytes: what the shifting of rows comes to. No program in sight.
-/
import Derived.Test.YtkfbfgjfdjhjdaaAgg
namespace Go.Proofs.Ytkfbfgjfdjhjdaa
open Go.ChangeShapes Go.WideShapes Go.ChangeAt Go.RowKit

theorem len16 {l : List UInt8} (h : l.length = 16) : ∃ a0 a1 a2 a3 a4 a5 a6 a7 a8 a9 a10 a11 a12 a13 a14 a15 : UInt8, l = [a0, a1, a2, a3, a4, a5, a6, a7, a8, a9, a10, a11, a12, a13, a14, a15] := by
  match l, h with
  | [a0, a1, a2, a3, a4, a5, a6, a7, a8, a9, a10, a11, a12, a13, a14, a15], _ => exact ⟨a0, a1, a2, a3, a4, a5, a6, a7, a8, a9, a10, a11, a12, a13, a14, a15, rfl⟩
theorem len4 {l : List UInt8} (h : l.length = 4) : ∃ a0 a1 a2 a3 : UInt8, l = [a0, a1, a2, a3] := by
  match l, h with
  | [a0, a1, a2, a3], _ => exact ⟨a0, a1, a2, a3, rfl⟩
theorem zs16_is : zs 16 = [0, 0, 0, 0, 0, 0, 0, 0, 0, 0, 0, 0, 0, 0, 0, 0] := by unfold zs; rfl
theorem zs4_is : zs 4 = [0, 0, 0, 0] := by unfold zs; rfl

def shPart (l : List UInt8) : Nat → List UInt8
  | 0 => zs 16
  | k + 1 => (shPart l k).set k (l.getD ((k + 4 * (k % 4)) % 16) 0)
theorem shPart_len (l : List UInt8) (k : Nat) : (shPart l k).length = 16 := by
  induction k with
  | zero => exact zs_len 16
  | succ k ih => simp [shPart, ih]
theorem shPart_succ (l : List UInt8) (k : Nat) : shPart l (k + 1) = (shPart l k).set k (l.getD ((k + 4 * (k % 4)) % 16) 0) := rfl
theorem shPart_zero (l : List UInt8) : shPart l 0 = zs 16 := rfl

def unPart (l : List UInt8) : Nat → List UInt8
  | 0 => zs 16
  | k + 1 => (unPart l k).set ((k + 4 * (k % 4)) % 16) (l.getD k 0)
theorem unPart_len (l : List UInt8) (k : Nat) : (unPart l k).length = 16 := by
  induction k with
  | zero => exact zs_len 16
  | succ k ih => simp [unPart, ih]
theorem unPart_succ (l : List UInt8) (k : Nat) : unPart l (k + 1) = (unPart l k).set ((k + 4 * (k % 4)) % 16) (l.getD k 0) := rfl
theorem unPart_zero (l : List UInt8) : unPart l 0 = zs 16 := rfl

def tabPart (l : List UInt8) : Nat → List UInt8
  | 0 => zs 16
  | k + 1 => (tabPart l k).set (k % 4 * 4 + k / 4) (l.getD k 0)
theorem tabPart_len (l : List UInt8) (k : Nat) : (tabPart l k).length = 16 := by
  induction k with
  | zero => exact zs_len 16
  | succ k ih => simp [tabPart, ih]
theorem tabPart_succ (l : List UInt8) (k : Nat) : tabPart l (k + 1) = (tabPart l k).set (k % 4 * 4 + k / 4) (l.getD k 0) := rfl
theorem tabPart_zero (l : List UInt8) : tabPart l 0 = zs 16 := rfl

def untPart (l : List UInt8) : Nat → List UInt8
  | 0 => zs 16
  | k + 1 => (untPart l k).set k (l.getD (k % 4 * 4 + k / 4) 0)
theorem untPart_len (l : List UInt8) (k : Nat) : (untPart l k).length = 16 := by
  induction k with
  | zero => exact zs_len 16
  | succ k ih => simp [untPart, ih]
theorem untPart_succ (l : List UInt8) (k : Nat) : untPart l (k + 1) = (untPart l k).set k (l.getD (k % 4 * 4 + k / 4) 0) := rfl
theorem untPart_zero (l : List UInt8) : untPart l 0 = zs 16 := rfl

def rsPart (t : List UInt8) : Nat → List UInt8
  | 0 => zs 16
  | n + 1 => (rsPart t n).set (n / 4 * 4 + n % 4) (t.getD (n / 4 * 4 + (n % 4 + n / 4) % 4) 0)
theorem rsPart_len (l : List UInt8) (k : Nat) : (rsPart l k).length = 16 := by
  induction k with
  | zero => exact zs_len 16
  | succ k ih => simp [rsPart, ih]
theorem rsPart_succ (t : List UInt8) (r c : Nat) (hc : c < 4) : rsPart t (4 * r + (c + 1)) = (rsPart t (4 * r + c)).set (r * 4 + c) (t.getD (r * 4 + (c + r) % 4) 0) := by
  have e1 : (4 * r + c) / 4 = r := by omega
  have e2 : (4 * r + c) % 4 = c := by omega
  show rsPart t ((4 * r + c) + 1) = _
  simp only [rsPart, e1, e2]
theorem rsPart_zero (l : List UInt8) : rsPart l 0 = zs 16 := rfl


theorem shift_is {l : List UInt8} {a0 a1 a2 a3 a4 a5 a6 a7 a8 a9 a10 a11 a12 a13 a14 a15 : UInt8} (h : l = [a0, a1, a2, a3, a4, a5, a6, a7, a8, a9, a10, a11, a12, a13, a14, a15]) :
    shPart l 16 = [a0, a5, a10, a15, a4, a9, a14, a3, a8, a13, a2, a7, a12, a1, a6, a11] := by
  subst h; simp only [shPart, zs16_is]; rfl
theorem unshift_is {l : List UInt8} {a0 a1 a2 a3 a4 a5 a6 a7 a8 a9 a10 a11 a12 a13 a14 a15 : UInt8} (h : l = [a0, a1, a2, a3, a4, a5, a6, a7, a8, a9, a10, a11, a12, a13, a14, a15]) :
    unPart l 16 = [a0, a13, a10, a7, a4, a1, a14, a11, a8, a5, a2, a15, a12, a9, a6, a3] := by
  subst h; simp only [unPart, zs16_is]; rfl
theorem unshift_shift {l : List UInt8} (h : l.length = 16) : unPart (shPart l 16) 16 = l := by
  obtain ⟨a0, a1, a2, a3, a4, a5, a6, a7, a8, a9, a10, a11, a12, a13, a14, a15, rfl⟩ := len16 h
  rw [shift_is rfl, unshift_is rfl]
theorem shift_unshift {l : List UInt8} (h : l.length = 16) : shPart (unPart l 16) 16 = l := by
  obtain ⟨a0, a1, a2, a3, a4, a5, a6, a7, a8, a9, a10, a11, a12, a13, a14, a15, rfl⟩ := len16 h
  rw [unshift_is rfl, shift_is rfl]
theorem table_is {l : List UInt8} {a0 a1 a2 a3 a4 a5 a6 a7 a8 a9 a10 a11 a12 a13 a14 a15 : UInt8} (h : l = [a0, a1, a2, a3, a4, a5, a6, a7, a8, a9, a10, a11, a12, a13, a14, a15]) :
    tabPart l 16 = [a0, a4, a8, a12, a1, a5, a9, a13, a2, a6, a10, a14, a3, a7, a11, a15] := by
  subst h; simp only [tabPart, zs16_is]; rfl
theorem block_is {l : List UInt8} {a0 a1 a2 a3 a4 a5 a6 a7 a8 a9 a10 a11 a12 a13 a14 a15 : UInt8} (h : l = [a0, a1, a2, a3, a4, a5, a6, a7, a8, a9, a10, a11, a12, a13, a14, a15]) :
    untPart l 16 = [a0, a4, a8, a12, a1, a5, a9, a13, a2, a6, a10, a14, a3, a7, a11, a15] := by
  subst h; simp only [untPart, zs16_is]; rfl
theorem rows_is {l : List UInt8} {a0 a1 a2 a3 a4 a5 a6 a7 a8 a9 a10 a11 a12 a13 a14 a15 : UInt8} (h : l = [a0, a1, a2, a3, a4, a5, a6, a7, a8, a9, a10, a11, a12, a13, a14, a15]) :
    rsPart l 16 = [a0, a1, a2, a3, a5, a6, a7, a4, a10, a11, a8, a9, a15, a12, a13, a14] := by
  subst h; simp only [rsPart, zs16_is]; rfl
theorem shift_law {l : List UInt8} (h : l.length = 16) : shPart l 16 = untPart (rsPart (tabPart l 16) 16) 16 := by
  obtain ⟨a0, a1, a2, a3, a4, a5, a6, a7, a8, a9, a10, a11, a12, a13, a14, a15, rfl⟩ := len16 h
  rw [table_is rfl, rows_is rfl, block_is rfl, shift_is rfl]
attribute [irreducible] shPart unPart tabPart untPart rsPart
end Go.Proofs.Ytkfbfgjfdjhjdaa
