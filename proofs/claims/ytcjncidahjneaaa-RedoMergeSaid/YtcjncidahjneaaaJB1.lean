/-
  Laws that the claims of this seat use, of several texts in one: Plain, Grow2, Ovw, Octets, DoubleP, Double, CopyB, CopyG. No condition of their own.
-/
import Derived.Laws.CopyOwn
import Derived.Laws.Cover3
import Derived.Laws.CopyRow
import Derived.Laws.IdiomCopy
import Derived.Test.YtcjncidahjneaaaJB0

namespace Go.Proofs.Ytcjncidahjneaaa
open Go.ChangeShapes Go.WideShapes Go.ChangeAt Go.RowKit

end Go.Proofs.Ytcjncidahjneaaa

namespace Go.Proofs.Ytcjncidahjneaaa
open Go.ChangeShapes Go.WideShapes Go.ChangeAt Go.RowKit
/-- So many cells, of which the first are these. -/
def Beg (cur : Array Value) (m : Nat) (xs : List Value) : Prop := cur.size = m ∧ cur.toList.take xs.length = xs
theorem Beg.nil (cur : Array Value) (m : Nat) (h : cur.size = m) : Beg cur m [] := ⟨h, by simp⟩
theorem Beg.all {cur : Array Value} {m : Nat} {xs : List Value} (h : Beg cur m xs) (hm : xs.length = m) : cur = xs.toArray := by
  obtain ⟨h1, h2⟩ := h
  rw [List.take_of_length_le (by simp; omega)] at h2
  rw [← h2]
theorem Beg.row {cur : Array Value} {m n : Nat} {ks : List (List UInt8)} (h : Beg cur m (flat ks)) (hn : 0 < n) (hk : ∀ k ∈ ks, k.length = n) {i : Nat} {k : List UInt8} (hi : ks[i]? = some k) : i * n + n ≤ csz cur ∧ cut cur (i * n) n = bvs k :=
  row_of_flat hn hk h.2 hi

/-- One of one's blocks, brought to the front. -/
theorem front_mem {α : Type} : ∀ {L : List α} {i : Nat} {x : α}, L[i]? = some x → ∀ y, y ∈ x :: L.eraseIdx i ↔ y ∈ L
  | [], i, x, h, y => by simp at h
  | a :: L, 0, x, h, y => by simp at h; subst h; simp
  | a :: L, i + 1, x, h, y => by
    have ih := front_mem (L := L) (i := i) (x := x) (by simpa using h) y
    simp only [List.eraseIdx_cons_succ, List.mem_cons] at ih ⊢
    constructor
    · rintro (h1 | h1 | h1)
      · exact .inr (ih.1 (.inl h1))
      · exact .inl h1
      · exact .inr (ih.1 (.inr h1))
    · rintro (h1 | h1)
      · exact .inr (.inl h1)
      · rcases ih.2 h1 with h2 | h2
        · exact .inl h2
        · exact .inr (.inr h2)
theorem front_nodup : ∀ {L : List (Nat × Array Value × TypeId)} {i : Nat} {x : Nat × Array Value × TypeId}, L[i]? = some x → (L.map (·.1)).Nodup → ((x :: L.eraseIdx i).map (·.1)).Nodup
  | [], i, x, h, _ => by simp at h
  | a :: L, 0, x, h, hn => by simp at h; subst h; simpa using hn
  | a :: L, i + 1, x, h, hn => by
    have hx : L[i]? = some x := by simpa using h
    simp only [List.map_cons, List.nodup_cons] at hn
    have ih := front_nodup (L := L) hx hn.2
    simp only [List.map_cons, List.nodup_cons, List.eraseIdx_cons_succ] at ih ⊢
    have hne : x.1 ≠ a.1 := fun e => hn.1 (e ▸ List.mem_map.2 ⟨x, List.mem_of_getElem? hx, rfl⟩)
    refine ⟨?_, ?_, ih.2⟩
    · simp only [List.mem_cons, not_or]
      exact ⟨hne, ih.1⟩
    · intro hm
      obtain ⟨y, hy, he⟩ := List.mem_map.1 hm
      exact hn.1 (List.mem_map.2 ⟨y, (front_mem hx y).1 (List.mem_cons_of_mem _ hy), he⟩)
theorem St.front {w0 wr : World} {L : List (Nat × Array Value × TypeId)} (h : St w0 wr L) (i : Nat) {x : Nat × Array Value × TypeId} (hi : L[i]? = some x) : St w0 wr (x :: L.eraseIdx i) :=
  ⟨h.1, fun y hy => h.2.1 y ((front_mem hi y).1 hy), front_nodup hi h.2.2⟩

end Go.Proofs.Ytcjncidahjneaaa

namespace Go.Proofs.Ytcjncidahjneaaa
open Go.ChangeShapes Go.WideShapes Go.ChangeAt Go.RowKit
/-- A number's bytes, the lowest first. -/
def leB (n : Nat) : Nat → List UInt8
  | 0 => []
  | k + 1 => leB n k ++ [UInt8.ofNat (n / 256 ^ k)]
theorem leB_succ (n k : Nat) : leB n (k + 1) = leB n k ++ [UInt8.ofNat (n / 256 ^ k)] := rfl
theorem leB_cons (n k : Nat) : leB n (k + 1) = UInt8.ofNat n :: leB (n / 256) k := by
  induction k with
  | zero => simp [leB]
  | succ k ih =>
    rw [leB_succ, ih, leB_succ (n / 256) k, List.cons_append, Nat.div_div_eq_div_mul, Nat.pow_succ, Nat.mul_comm]
/-- A number out of bytes, the lowest first. -/
def leN : List UInt8 → Nat
  | [] => 0
  | b :: l => b.toNat + 256 * leN l
theorem leN_leB (n k : Nat) : leN (leB n k) = n % 256 ^ k := by
  induction k generalizing n with
  | zero => simp [leB, leN, Nat.mod_one]
  | succ k ih =>
    rw [leB_cons, leN, ih]
    rw [Nat.pow_succ, Nat.mul_comm (256 ^ k) 256, Nat.mod_mul]
    simp
/-- A number's bytes, and a number out of bytes, the highest first. -/
def beB (n k : Nat) : List UInt8 := (leB n k).reverse
def beN (l : List UInt8) : Nat := leN l.reverse
theorem beN_beB (n k : Nat) : beN (beB n k) = n % 256 ^ k := by
  unfold beB beN
  rw [List.reverse_reverse, leN_leB]
attribute [irreducible] leB leN beB beN
end Go.Proofs.Ytcjncidahjneaaa

namespace Go.Proofs.Ytcjncidahjneaaa
open Go.ChangeShapes Go.WideShapes Go.ChangeAt Go.RowKit
theorem BytesAt.cell {w : World} {p : Option Addr} {n c : Nat} {l : List UInt8} (h : BytesAt w (.slice p n c) l) {i : Nat} {x : UInt8} (hi : l[i]? = some x) : ∃ b o, p = some ⟨b, o, none⟩ ∧ w.cell? ⟨b, o + i, none⟩ = some (.int .u8 (x.toNat : Int)) ∧ b < w.heap.size := by
  obtain ⟨p', c', hv, h1, _, h3⟩ := h
  simp only [Value.slice.injEq] at hv
  obtain ⟨rfl, _, _⟩ := hv
  obtain ⟨b, o, cs, t, e, hp, hb, hx⟩ := h3 (by intro h; subst h; simp at hi)
  exact ⟨b, o, hp, by rw [cell_of_row w b (o + i) cs t e hb, hx i x hi]; rfl, blk_lt hb⟩
theorem BytesAt.slice {w : World} {v : Value} {l : List UInt8} (h : BytesAt w v l) : ∃ p c, v = .slice p l.length c ∧ l.length ≤ c := by
  obtain ⟨p, c, hv, h1, _, _⟩ := h
  exact ⟨p, c, hv, h1⟩
end Go.Proofs.Ytcjncidahjneaaa

namespace Go.Proofs.Ytcjncidahjneaaa
open Go.ChangeShapes Go.WideShapes Go.ChangeAt Go.RowKit
end Go.Proofs.Ytcjncidahjneaaa

namespace Go.Proofs.Ytcjncidahjneaaa
open Go.ChangeShapes Go.WideShapes Go.ChangeAt Go.RowKit
end Go.Proofs.Ytcjncidahjneaaa

namespace Go.Proofs.Ytcjncidahjneaaa
open Go.ChangeShapes Go.WideShapes Go.ChangeAt Go.RowKit
theorem made_noughts (n : Nat) : madeCells (Value.int .u8 0).cells n = bvs (zs n) := by
  apply Array.ext_getElem?
  intro i
  by_cases h : i < n
  · rw [zs_one n i h]
    have : (madeCells (Value.int .u8 0).cells n)[i]? = some ((Value.int .u8 0).cells[i % (Value.int .u8 0).cells.size]!) := by simp [madeCells, h]
    rw [this]
    have e : i % (Value.int .u8 0).cells.size = 0 := by show i % 1 = 0; omega
    rw [e]; rfl
  · rw [Array.getElem?_eq_none (by rw [size_madeCells]; omega), Array.getElem?_eq_none (by rw [bvs_size, zs_len]; omega)]
@[go_sem ↓] theorem run_makeBytes (kl kc : IntKind) (l c : Int) (h0 : 0 ≤ l) (hlc : l ≤ c) (hb : c ≤ 281474976710656) (w : World) :
    (Instr.makeSlice 22 (.int kl l) (.int kc c)).run Try.prog w = .ok (.slice (some ⟨w.heap.size, 0, none⟩) l.toNat c.toNat) (w.alloc (.cells (bvs (zs c.toNat)) 5)) := by
  obtain ⟨ht, i, z, hi, hz, hsz, hby, _⟩ := elemB_iff elem_22
  have hz2 : z = .int .u8 0 := by
    have h : (Try.prog.info? 5).bind (·.zero) = some (.int .u8 0) := by kernel_rfl
    rw [hi] at h
    simpa [hz] using h
  rw [run_make w 22 5 i z ht hi hz kl kc l c h0 hlc (by rw [hby]; omega) (by omega), hsz, Nat.mul_one, hz2, made_noughts]
end Go.Proofs.Ytcjncidahjneaaa

namespace Go.Proofs.Ytcjncidahjneaaa
open Go.ChangeShapes Go.WideShapes Go.ChangeAt Go.RowKit
/-- What a copy's block holds. -/
def Kp (l : List UInt8) (cap : Nat) (cur : Array Value) : Prop := l.length + 2 ≤ cap ∧ cap ≤ maxLen ∧ cur.size = cap ∧ cur.toList.take (l.length + 2) = (l ++ [165, 90]).map bv
theorem Kp.bytes {l : List UInt8} {cap : Nat} {cur : Array Value} (h : Kp l cap cur) {w : World} {g : Nat} {t : TypeId} {fr : Nat × Nat} (hg : blk w g = some (.cells cur t fr)) : BytesAt w (.slice (some ⟨g, 0, none⟩) l.length cap) l := by
  obtain ⟨h1, h2, h3, h4⟩ := h
  refine ⟨_, cap, rfl, by omega, (fun h => by cases h), fun _ => ⟨g, 0, cur, _, _, rfl, hg, fun i x hi => ?_⟩⟩
  have h5 := congrArg (·[i]?) h4
  have hil : i < l.length := (List.getElem?_eq_some_iff.1 hi).1
  simp only [List.getElem?_take, List.getElem?_map] at h5
  rw [if_pos (by omega), List.getElem?_append_left hil, hi] at h5
  rw [Nat.zero_add]; simpa using h5
end Go.Proofs.Ytcjncidahjneaaa
