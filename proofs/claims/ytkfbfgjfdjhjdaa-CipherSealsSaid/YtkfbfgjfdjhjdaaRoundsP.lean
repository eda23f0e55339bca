/-
  The plain law of the round keys: words out of words. No program in sight.
-/
import Derived.Test.YtkfbfgjfdjhjdaaGrow2
import Derived.Test.YtkfbfgjfdjhjdaaConst
import Derived.Test.YtkfbfgjfdjhjdaaConstW
import Derived.Test.YtkfbfgjfdjhjdaaTurnsP
namespace Go.Proofs.Ytkfbfgjfdjhjdaa
open Go.ChangeShapes Go.WideShapes Go.ChangeAt Go.RowKit
/-- What a key's word number i becomes, out of those ahead of it. -/
def turnW (t : List UInt8) (n i : Nat) : List UInt8 :=
  if i % n = 0 then xorL ([t.getD 1 0, t.getD 2 0, t.getD 3 0, t.getD 0 0].map subB) [conB (i / n : Nat), 0, 0, 0]
  else if 6 < n ∧ i % n = 4 then t.map subB else t
def kword (n i : Nat) (ws : List (List UInt8)) : List UInt8 := xorL (turnW (ws.getD (i - 1) []) n i) (ws.getD (i - n) [])
/-- A key's words: so many. -/
def kws (key : List UInt8) (n : Nat) : Nat → List (List UInt8)
  | 0 => []
  | m + 1 => kws key n m ++ [if m < n then (key.drop (4 * m)).take 4 else kword n m (kws key n m)]
theorem kws_succ (key : List UInt8) (n m : Nat) : kws key n (m + 1) = kws key n m ++ [if m < n then (key.drop (4 * m)).take 4 else kword n m (kws key n m)] := rfl
theorem kws_zero (key : List UInt8) (n : Nat) : kws key n 0 = [] := rfl
theorem kws_len (key : List UInt8) (n m : Nat) : (kws key n m).length = m := by
  induction m with
  | zero => rfl
  | succ m ih => simp [kws, ih]
theorem turnW_len {t : List UInt8} (h : t.length = 4) (n i : Nat) : (turnW t n i).length = 4 := by
  unfold turnW
  split
  · exact xorL_len _ _ 4 (by simp) rfl
  · split
    · simpa using h
    · exact h
theorem get_len {ws : List (List UInt8)} (h : ∀ k ∈ ws, k.length = 4) {i : Nat} (hi : i < ws.length) : (ws.getD i []).length = 4 := by
  simp only [List.getD_eq_getElem?_getD, List.getElem?_eq_getElem hi, Option.getD_some]
  exact h _ (List.getElem_mem _)
theorem kws_four {key : List UInt8} {n : Nat} (hn : 0 < n) (hk : key.length = 4 * n) : ∀ m, ∀ k ∈ kws key n m, k.length = 4
  | 0, k, h => by simp [kws] at h
  | m + 1, k, h => by
    have ih := kws_four hn hk m
    rw [kws_succ] at h
    rcases List.mem_append.1 h with h | h
    · exact ih k h
    · rw [List.mem_singleton] at h
      subst h
      split
      · simp; omega
      · rename_i hmn
        exact xorL_len _ _ 4 (turnW_len (get_len ih (by rw [kws_len]; omega)) _ _) (get_len ih (by rw [kws_len]; omega))
/-- The round keys: four words each. -/
def rkeys (key : List UInt8) : List (List UInt8) :=
  let ws := kws key (key.length / 4) (4 * (key.length / 4 + 7))
  (List.range (key.length / 4 + 7)).map fun j => ws.getD (4 * j) [] ++ (ws.getD (4 * j + 1) [] ++ (ws.getD (4 * j + 2) [] ++ ws.getD (4 * j + 3) []))
theorem flat_four : ∀ (r : Nat) (ws : List (List UInt8)), ws.length = 4 * r → flat ((List.range r).map fun j => ws.getD (4 * j) [] ++ (ws.getD (4 * j + 1) [] ++ (ws.getD (4 * j + 2) [] ++ ws.getD (4 * j + 3) []))) = flat ws
  | 0, ws, h => by
    have : ws = [] := List.eq_nil_of_length_eq_zero (by omega)
    subst this; rfl
  | r + 1, ws, h => by
    match ws, h with
    | a :: b :: c :: d :: ws, h =>
      have ih := flat_four r ws (by simp at h; omega)
      rw [List.range_succ_eq_map, List.map_cons, List.map_map]
      simp only [flat, List.flatMap_cons, List.map_append, List.append_assoc] at ih ⊢
      rw [← ih]
      rfl
theorem rkeys_flat {key : List UInt8} : flat (rkeys key) = flat (kws key (key.length / 4) (4 * (key.length / 4 + 7))) := by
  unfold rkeys
  exact flat_four _ _ (kws_len _ _ _)
theorem rkeys_len (key : List UInt8) : (rkeys key).length = key.length / 4 + 7 := by simp [rkeys]
theorem rkeys_16 {key : List UInt8} (h : key.length = 16 ∨ key.length = 32) : ∀ k ∈ rkeys key, k.length = 16 := by
  intro k hk
  have h4 := kws_four (key := key) (n := key.length / 4) (by omega) (by omega) (4 * (key.length / 4 + 7))
  unfold rkeys at hk
  obtain ⟨j, hj, rfl⟩ := List.mem_map.1 hk
  have hj2 := List.mem_range.1 hj
  have hl := kws_len key (key.length / 4) (4 * (key.length / 4 + 7))
  rw [List.length_append, List.length_append, List.length_append, get_len h4 (by omega), get_len h4 (by omega), get_len h4 (by omega), get_len h4 (by omega)]
attribute [irreducible] kws rkeys turnW kword
end Go.Proofs.Ytkfbfgjfdjhjdaa
