/-
  Laws that the claims of this seat use, of several texts in one: Ovw, Gw, Octets, DoubleP, Double, DoubleRefP, XorRefP, RefDouble, TweakP, TweakV, TweakW, TweakI, MonoR, CopyB. No condition of their own.
-/
import Derived.Laws.CopyRow
import Derived.Laws.IdiomCopy
import Derived.Test.YtkfggilildiflaaJA2

namespace Go.Proofs.Ytkfggilildiflaa
open Go.ChangeShapes Go.WideShapes Go.ChangeAt Go.RowKit
/-- Cells written over from a place on. -/
def ovw (cur : Array Value) (o : Nat) (l : List UInt8) : Array Value := (cur.toList.take o ++ (l.map bv ++ cur.toList.drop (o + l.length))).toArray
theorem ovw_size {cur : Array Value} {o : Nat} {l : List UInt8} (h : o + l.length ≤ cur.size) : (ovw cur o l).size = cur.size := by
  unfold ovw; simp; omega
theorem ovw_nil (cur : Array Value) (o : Nat) : ovw cur o [] = cur := by
  unfold ovw; simp
theorem ovw_snoc {cur : Array Value} {o : Nat} {l : List UInt8} (h : o + l.length < cur.size) (b : UInt8) : (ovw cur o l).setIfInBounds (o + l.length) (bv b) = ovw cur o (l ++ [b]) := by
  have h1 : (cur.toList.take o).length = o := by simp; omega
  have h2 : o + l.length < cur.toList.length := by simpa using h
  unfold ovw
  rw [List.setIfInBounds_toArray, List.set_append_right _ _ (by omega), h1, Nat.add_sub_cancel_left, List.set_append_right _ _ (by simp), List.length_map, Nat.sub_self, List.drop_eq_getElem_cons h2, List.set_cons_zero]
  simp [Nat.add_assoc]
theorem ovw_at {cur : Array Value} {o : Nat} {l : List UInt8} (h : o + l.length ≤ cur.size) (j : Nat) : (ovw cur o l)[j]? = if o ≤ j ∧ j < o + l.length then (l[j - o]?).map bv else cur[j]? := by
  unfold ovw
  simp only [List.getElem?_toArray, List.getElem?_append, List.length_take, List.length_map, Array.length_toList, List.getElem?_take, List.getElem?_map, List.getElem?_drop]
  have e : min o cur.size = o := by omega
  rw [e]
  by_cases h1 : j < o
  · rw [if_pos h1, if_pos h1, if_neg (by omega)]; simp
  · rw [if_neg h1]
    by_cases h2 : j - o < l.length
    · rw [if_pos h2, if_pos (by omega)]
    · rw [if_neg h2, if_neg (by omega), show o + l.length + (j - o - l.length) = j by omega]; simp
theorem ovw_bvs (x l : List UInt8) (o : Nat) : ovw (bvs x) o l = bvs (x.take o ++ (l ++ x.drop (o + l.length))) := by
  unfold ovw bvs
  simp [List.map_take, List.map_drop]
/-- A number's bytes, the lowest first. -/
def leB (n : Nat) : Nat → List UInt8
  | 0 => []
  | k + 1 => leB n k ++ [UInt8.ofNat (n / 256 ^ k)]
theorem leB_zero (n : Nat) : leB n 0 = [] := rfl
theorem leB_succ (n k : Nat) : leB n (k + 1) = leB n k ++ [UInt8.ofNat (n / 256 ^ k)] := rfl
theorem leB_len (n k : Nat) : (leB n k).length = k := by
  induction k with
  | zero => rfl
  | succ k ih => simp [leB_succ, ih]
theorem leB_cons (n k : Nat) : leB n (k + 1) = UInt8.ofNat n :: leB (n / 256) k := by
  induction k with
  | zero => simp [leB]
  | succ k ih =>
    rw [leB_succ, ih, leB_succ (n / 256) k, List.cons_append, Nat.div_div_eq_div_mul, Nat.pow_succ, Nat.mul_comm]
/-- A number out of bytes, the lowest first. -/
def leN : List UInt8 → Nat
  | [] => 0
  | b :: l => b.toNat + 256 * leN l
theorem leN_lt : ∀ l : List UInt8, leN l < 256 ^ l.length
  | [] => by simp [leN]
  | b :: l => by
    have h := leN_lt l
    have hb := b.toNat_lt
    simp only [leN, List.length_cons, Nat.pow_succ]
    omega
theorem leN_leB (n k : Nat) : leN (leB n k) = n % 256 ^ k := by
  induction k generalizing n with
  | zero => simp [leB, leN, Nat.mod_one]
  | succ k ih =>
    rw [leB_cons, leN, ih]
    rw [Nat.pow_succ, Nat.mul_comm (256 ^ k) 256, Nat.mod_mul]
    simp
theorem leB_leN : ∀ l : List UInt8, leB (leN l) l.length = l
  | [] => rfl
  | b :: l => by
    have hb := b.toNat_lt
    rw [List.length_cons, leB_cons, leN]
    rw [show (b.toNat + 256 * leN l) / 256 = leN l by omega, leB_leN l]
    congr 1
    apply UInt8.toNat_inj.1
    rw [UInt8.toNat_ofNat']
    omega
theorem ovw_cons {cur : Array Value} {o : Nat} {l : List UInt8} (h : o + 1 + l.length ≤ cur.size) (b : UInt8) : (ovw cur (o + 1) l).setIfInBounds o (bv b) = ovw cur o (b :: l) := by
  have ho : o < cur.toList.length := by simp; omega
  have h1 : (cur.toList.take o).length = o := by simp; omega
  unfold ovw
  rw [List.take_succ_eq_append_getElem ho, List.append_assoc, List.setIfInBounds_toArray, List.set_append_right _ _ (by omega), h1, Nat.sub_self, List.length_cons, show o + (l.length + 1) = o + 1 + l.length by omega]
  rfl
/-- A number's bytes, and a number out of bytes, the highest first. -/
def beB (n k : Nat) : List UInt8 := (leB n k).reverse
def beN (l : List UInt8) : Nat := leN l.reverse
theorem beB_zero (n : Nat) : beB n 0 = [] := rfl
theorem beB_succ (n k : Nat) : beB n (k + 1) = UInt8.ofNat (n / 256 ^ k) :: beB n k := by
  unfold beB; rw [leB_succ, List.reverse_append]; rfl
theorem beB_len (n k : Nat) : (beB n k).length = k := by unfold beB; rw [List.length_reverse, leB_len]
theorem beN_snoc (l : List UInt8) (b : UInt8) : beN (l ++ [b]) = b.toNat + 256 * beN l := by
  unfold beN; rw [List.reverse_append]; rfl
theorem beN_nil : beN [] = 0 := rfl
theorem beN_lt (l : List UInt8) : beN l < 256 ^ l.length := by
  have := leN_lt l.reverse
  rwa [List.length_reverse] at this
theorem beB_beN (l : List UInt8) : beB (beN l) l.length = l := by
  unfold beB beN
  have := leB_leN l.reverse
  rw [List.length_reverse] at this
  rw [this, List.reverse_reverse]
theorem beN_beB (n k : Nat) : beN (beB n k) = n % 256 ^ k := by
  unfold beB beN
  rw [List.reverse_reverse, leN_leB]
attribute [irreducible] ovw leB leN beB beN
end Go.Proofs.Ytkfggilildiflaa

namespace Go.Proofs.Ytkfggilildiflaa
open Go.RowKit

/-- What a call has laid. -/
structure Laid where
  objs : Array Obj
  drawn : Nat
/-- How many blocks there are, under a name that the walk does not open. -/
def Laid.n (g : Laid) : Nat := g.objs.size
/-- The world with what a call has laid. -/
def grow (w : World) (g : Laid) : World := { w with heap := w.heap ++ g.objs, drawn := g.drawn }
/-- A block of one's own, written whole. -/
def putRow (w : World) (b : Nat) (cs : Array Value) (t : TypeId) : World := { w with heap := w.heap.setIfInBounds b (.cells cs t (0, 0)) }

theorem grow_of {w w' : World} (h : Below w.heap.size w w') : ∃ g, w' = grow w g := by
  obtain ⟨n, hn⟩ : ∃ n, n = w'.heap.size := ⟨_, rfl⟩
  refine ⟨⟨w'.heap.extract w.heap.size n, w'.drawn⟩, ?_⟩
  obtain ⟨h1, h2, h3, h4, h5⟩ := h
  cases w' with
  | mk heap tape drawn os output =>
    simp only at h1 h2 h3 h4 h5 hn ⊢
    subst h1 h2 h3
    unfold grow
    congr 1
    apply Array.ext_getElem?
    intro k
    rw [Array.getElem?_append]
    by_cases hk : k < w.heap.size
    · rw [if_pos hk]; exact h5 k hk
    · rw [if_neg hk, Array.getElem?_extract]
      by_cases hk2 : k < n
      · rw [if_pos (by omega), show w.heap.size + (k - w.heap.size) = k by omega]
      · rw [if_neg (by omega), Array.getElem?_eq_none (by omega)]
theorem grow_heap (w : World) (g : Laid) (k : Nat) (h : k < w.heap.size) : (grow w g).heap[k]? = w.heap[k]? := by
  show (w.heap ++ g.objs)[k]? = _
  rw [Array.getElem?_append, if_pos h]
@[go_sem] theorem grow_size (w : World) (g : Laid) : (grow w g).heap.size = w.heap.size + g.n := by simp [grow, Laid.n]
theorem grow_below (w : World) (g : Laid) : Below w.heap.size w (grow w g) := ⟨rfl, rfl, rfl, by rw [grow_size]; omega, fun k hk => grow_heap w g k hk⟩
theorem below_grow {w0 w : World} (h : Below w0.heap.size w0 w) (g : Laid) : Below w0.heap.size w0 (grow w g) := h.trans ((grow_below w g).mono h.size)
@[go_sem] theorem grow_cell (w : World) (g : Laid) (n i : Nat) (hn : n < w.heap.size) : (grow w g).cell? ⟨n, i, none⟩ = w.cell? ⟨n, i, none⟩ := (grow_below w g).cell (p := ⟨n, i, none⟩) hn
@[go_sem] theorem grow_frozen (w : World) (g : Laid) (n i : Nat) (hn : n < w.heap.size) : (grow w g).frozen? ⟨n, i, none⟩ = w.frozen? ⟨n, i, none⟩ := (grow_below w g).frozen (p := ⟨n, i, none⟩) hn
@[go_sem] theorem grow_blk (w : World) (g : Laid) (n : Nat) (hn : n < w.heap.size) : blk (grow w g) n = blk w n := grow_heap w g n hn
@[go_sem high] theorem alloc_blk_past (w : World) (o : Obj) (n : Nat) (hn : n < w.heap.size) : blk (w.alloc o) n = blk w n := Below.heap_alloc w o n hn
@[go_sem] theorem grow_drew (w : World) (g : Laid) : grow w.drew g = grow w g := rfl
@[go_sem] theorem grow_drewN (w : World) (n : Nat) (g : Laid) : grow (w.drewN n) g = grow w g := rfl
@[go_sem] theorem grow_shape (w : World) (g : Laid) (n : Nat) (hn : n < w.heap.size) : (grow w g).shape? n = w.shape? n := by
  unfold World.shape?
  rw [grow_heap w g n hn]
theorem modify_append {a b : Array Obj} {n : Nat} (h : n < a.size) (f : Obj → Obj) : (a ++ b).modify n f = a.modify n f ++ b := by
  apply Array.ext_getElem?
  intro k
  simp only [Array.getElem?_modify, Array.getElem?_append, Array.size_modify]
  by_cases hk : k < a.size
  · simp only [hk, if_true]
  · have : n ≠ k := by omega
    simp only [hk, if_false, this]
@[go_sem] theorem grow_setCell (w : World) (g : Laid) (n i : Nat) (v : Value) (hn : n < w.heap.size) : (grow w g).setCell ⟨n, i, none⟩ v = grow (w.setCell ⟨n, i, none⟩ v) g := by
  unfold World.setCell grow
  simp only
  congr 1
  exact modify_append hn _
@[go_sem] theorem grow_setRow (w : World) (g : Laid) (n : Nat) (cs : Array Value) (hn : n < w.heap.size) : (grow w g).setRow n cs = grow (w.setRow n cs) g := by
  unfold World.setRow grow
  simp only
  congr 1
  exact modify_append hn _

/-! ### Blocks written in front -/
@[go_sem] theorem put_size (w : World) (b : Nat) (cs : Array Value) (t : TypeId) : (putRow w b cs t).heap.size = w.heap.size := by simp [putRow]
theorem put_heap_other (w : World) (b k : Nat) (cs : Array Value) (t : TypeId) (h : ¬ k = b) : (putRow w b cs t).heap[k]? = w.heap[k]? := by
  show (w.heap.setIfInBounds b _)[k]? = _
  rw [Array.getElem?_setIfInBounds_ne (fun e => h e.symm)]
theorem put_heap_same (w : World) (b : Nat) (cs : Array Value) (t : TypeId) (h : b < w.heap.size) : (putRow w b cs t).heap[b]? = some (.cells cs t (0, 0)) := by
  show (w.heap.setIfInBounds b _)[b]? = _
  rw [Array.getElem?_setIfInBounds_self_of_lt h]
@[go_sem] theorem put_blk_other (w : World) (b n : Nat) (cs : Array Value) (t : TypeId) (h : ¬ n = b) : blk (putRow w b cs t) n = blk w n := put_heap_other w b n cs t h
@[go_sem] theorem put_blk_same (w : World) (b : Nat) (cs : Array Value) (t : TypeId) (h : b < w.heap.size) : blk (putRow w b cs t) b = some (.cells cs t (0, 0)) := put_heap_same w b cs t h
@[go_sem] theorem put_cell_other (w : World) (b n i : Nat) (cs : Array Value) (t : TypeId) (h : ¬ n = b) : (putRow w b cs t).cell? ⟨n, i, none⟩ = w.cell? ⟨n, i, none⟩ := World.cell?_of_block (w := w) (a := ⟨n, i, none⟩) (put_heap_other w b n cs t h)
@[go_sem] theorem put_cell_same (w : World) (b i : Nat) (cs : Array Value) (t : TypeId) (h : b < w.heap.size) : (putRow w b cs t).cell? ⟨b, i, none⟩ = cs[i]? := cell_of_row _ b i cs t _ (put_heap_same w b cs t h)
@[go_sem] theorem put_frozen_other (w : World) (b n i : Nat) (cs : Array Value) (t : TypeId) (h : ¬ n = b) : (putRow w b cs t).frozen? ⟨n, i, none⟩ = w.frozen? ⟨n, i, none⟩ := World.frozen?_of_block (w := w) (a := ⟨n, i, none⟩) (put_heap_other w b n cs t h)
@[go_sem] theorem put_frozen_same (w : World) (b i : Nat) (cs : Array Value) (t : TypeId) (h : b < w.heap.size) : (putRow w b cs t).frozen? ⟨b, i, none⟩ = false := frozen_of_row _ b i cs t (put_heap_same w b cs t h)
@[go_sem] theorem put_drew (w : World) (b : Nat) (cs : Array Value) (t : TypeId) : putRow w.drew b cs t = (putRow w b cs t).drew := rfl
@[go_sem] theorem put_drewN (w : World) (n b : Nat) (cs : Array Value) (t : TypeId) : putRow (w.drewN n) b cs t = (putRow w b cs t).drewN n := rfl
@[go_sem] theorem put_setRow_same (w : World) (b : Nat) (cs cs' : Array Value) (t : TypeId) : (putRow w b cs t).setRow b cs' = putRow w b cs' t := by
  unfold World.setRow putRow
  simp only
  congr 1
  apply Array.ext_getElem?
  intro k
  simp only [Array.getElem?_modify]
  by_cases hk : b = k
  · subst hk
    rw [if_pos rfl]
    by_cases hb : b < w.heap.size
    · rw [Array.getElem?_setIfInBounds_self_of_lt hb, Array.getElem?_setIfInBounds_self_of_lt hb]; rfl
    · rw [Array.getElem?_eq_none (by simp; omega), Array.getElem?_eq_none (by simp; omega)]; rfl
  · rw [if_neg hk, Array.getElem?_setIfInBounds_ne hk, Array.getElem?_setIfInBounds_ne hk]
@[go_sem] theorem put_setCell_same (w : World) (b i : Nat) (cs : Array Value) (t : TypeId) (v : Value) (h : b < w.heap.size) : (putRow w b cs t).setCell ⟨b, i, none⟩ v = putRow w b (cs.setIfInBounds i v) t := by
  rw [setCell_eq_setRow _ b i cs t (0, 0) v (put_heap_same w b cs t h), put_setRow_same]
theorem modify_set {a : Array Obj} {n b : Nat} (h : ¬ n = b) (o : Obj) (f : Obj → Obj) : (a.setIfInBounds b o).modify n f = (a.modify n f).setIfInBounds b o := by
  apply Array.ext_getElem?
  intro k
  by_cases hk : n = k
  · subst hk
    have hb : b ≠ n := fun e => h e.symm
    rw [Array.getElem?_modify, if_pos rfl, Array.getElem?_setIfInBounds_ne hb, Array.getElem?_setIfInBounds_ne hb, Array.getElem?_modify, if_pos rfl]
  · rw [Array.getElem?_modify, if_neg hk]
    by_cases hb : b = k
    · subst hb
      by_cases hs : b < a.size
      · rw [Array.getElem?_setIfInBounds_self_of_lt hs, Array.getElem?_setIfInBounds_self_of_lt (by simpa using hs)]
      · rw [Array.getElem?_eq_none (by simp; omega), Array.getElem?_eq_none (by simp; omega)]
    · rw [Array.getElem?_setIfInBounds_ne hb, Array.getElem?_setIfInBounds_ne hb, Array.getElem?_modify, if_neg hk]
@[go_sem] theorem put_setRow_other (w : World) (b n : Nat) (cs cs' : Array Value) (t : TypeId) (h : ¬ n = b) : (putRow w b cs t).setRow n cs' = putRow (w.setRow n cs') b cs t := by
  unfold World.setRow putRow
  simp only
  congr 1
  exact modify_set h _ _
@[go_sem] theorem put_setCell_other (w : World) (b n i : Nat) (cs : Array Value) (t : TypeId) (v : Value) (h : ¬ n = b) : (putRow w b cs t).setCell ⟨n, i, none⟩ v = putRow (w.setCell ⟨n, i, none⟩ v) b cs t := by
  unfold World.setCell putRow
  simp only
  congr 1
  exact modify_set h _ _
theorem put_self {w : World} {b : Nat} {cs : Array Value} {t : TypeId} (h : blk w b = some (.cells cs t (0, 0))) : w = putRow w b cs t := by
  have h' : w.heap[b]? = some (.cells cs t (0, 0)) := h
  cases w with
  | mk heap tape drawn os output =>
    unfold putRow
    congr 1
    apply Array.ext_getElem?
    intro k
    by_cases hk : b = k
    · subst hk
      simp only at h'
      rw [Array.getElem?_setIfInBounds_self_of_lt (Array.getElem?_eq_some_iff.1 h').1, h']
    · rw [Array.getElem?_setIfInBounds_ne hk]

theorem below_put {B : Nat} {w0 w : World} (h : Below B w0 w) {b : Nat} (hb : B ≤ b) (cs : Array Value) (t : TypeId) : Below B w0 (putRow w b cs t) :=
  h.trans ⟨rfl, rfl, rfl, by rw [put_size]; exact Nat.le_refl _, fun k hk => put_heap_other w b k cs t (by omega)⟩
/-! ### Numbers of blocks -/
@[go_sem] theorem nat_le_g {a b : Nat} (g : Laid) (h : a ≤ b) : (a ≤ b + g.n) = True := eq_true (by omega)
@[go_sem] theorem nat_lt_g {a b : Nat} (g : Laid) (h : a < b) : (a < b + g.n) = True := eq_true (by omega)
@[go_sem] theorem nat_ne_g {a b : Nat} (g : Laid) (h : a < b) : (a = b + g.n) = False := eq_false (by omega)
@[go_sem] theorem nat_en_g {a b : Nat} (g : Laid) (h : a < b) : (b + g.n = a) = False := eq_false (by omega)
@[go_sem] theorem nat_le_gc {a b : Nat} (g : Laid) (c : Nat) (h : a ≤ b) : (a ≤ b + (g.n + c)) = True := eq_true (by omega)
@[go_sem] theorem nat_lt_gc {a b : Nat} (g : Laid) (c : Nat) (h : a < b) : (a < b + (g.n + c)) = True := eq_true (by omega)
@[go_sem] theorem nat_ne_gc {a b : Nat} (g : Laid) (c : Nat) (h : a < b) : (a = b + (g.n + c)) = False := eq_false (by omega)
@[go_sem] theorem nat_en_gc {a b : Nat} (g : Laid) (c : Nat) (h : a < b) : (b + (g.n + c) = a) = False := eq_false (by omega)
@[go_sem high] theorem nat_lt_s1 {w : World} : (w.heap.size < w.heap.size + 1) = True := eq_true (by omega)
@[go_sem high] theorem nat_ne_s1 {w : World} : (w.heap.size = w.heap.size + 1) = False := eq_false (by omega)
@[go_sem high] theorem nat_en_s1 {w : World} : (w.heap.size + 1 = w.heap.size) = False := eq_false (by omega)
@[go_sem] theorem nat_lt_h1 {a : Nat} {w : World} (h : a < w.heap.size) : (a < w.heap.size + 1) = True := eq_true (by omega)
@[go_sem] theorem nat_ne_h1 {a : Nat} {w : World} (h : a < w.heap.size) : (a = w.heap.size + 1) = False := eq_false (by omega)
@[go_sem high] theorem nat_lt_s1g {w : World} (g : Laid) : (w.heap.size < w.heap.size + 1 + g.n) = True := eq_true (by omega)
@[go_sem high] theorem nat_ne_s1g {w : World} (g : Laid) : (w.heap.size = w.heap.size + 1 + g.n) = False := eq_false (by omega)
@[go_sem high] theorem nat_en_s1g {w : World} (g : Laid) : (w.heap.size + 1 + g.n = w.heap.size) = False := eq_false (by omega)
@[go_sem] theorem nat_lt_h1g {a : Nat} {w : World} (g : Laid) (h : a < w.heap.size) : (a < w.heap.size + 1 + g.n) = True := eq_true (by omega)
@[go_sem] theorem nat_ne_h1g {a : Nat} {w : World} (g : Laid) (h : a < w.heap.size) : (a = w.heap.size + 1 + g.n) = False := eq_false (by omega)
@[go_sem high] theorem nat_lt_s1gc {w : World} (g : Laid) (c : Nat) : (w.heap.size < w.heap.size + 1 + (g.n + c)) = True := eq_true (by omega)
@[go_sem high] theorem nat_ne_s1gc {w : World} (g : Laid) (c : Nat) : (w.heap.size = w.heap.size + 1 + (g.n + c)) = False := eq_false (by omega)
@[go_sem high] theorem nat_en_s1gc {w : World} (g : Laid) (c : Nat) : (w.heap.size + 1 + (g.n + c) = w.heap.size) = False := eq_false (by omega)
@[go_sem] theorem nat_lt_h1gc {a : Nat} {w : World} (g : Laid) (c : Nat) (h : a < w.heap.size) : (a < w.heap.size + 1 + (g.n + c)) = True := eq_true (by omega)
@[go_sem] theorem nat_ne_h1gc {a : Nat} {w : World} (g : Laid) (c : Nat) (h : a < w.heap.size) : (a = w.heap.size + 1 + (g.n + c)) = False := eq_false (by omega)
@[go_sem high] theorem nat_lt_s2 {w : World} : (w.heap.size < w.heap.size + 1 + 1) = True := eq_true (by omega)
@[go_sem high] theorem nat_ne_s2 {w : World} : (w.heap.size = w.heap.size + 1 + 1) = False := eq_false (by omega)
@[go_sem high] theorem nat_en_s2 {w : World} : (w.heap.size + 1 + 1 = w.heap.size) = False := eq_false (by omega)
@[go_sem] theorem nat_lt_h2 {a : Nat} {w : World} (h : a < w.heap.size) : (a < w.heap.size + 1 + 1) = True := eq_true (by omega)
@[go_sem] theorem nat_ne_h2 {a : Nat} {w : World} (h : a < w.heap.size) : (a = w.heap.size + 1 + 1) = False := eq_false (by omega)
@[go_sem high] theorem nat_lt_s2g {w : World} (g : Laid) : (w.heap.size < w.heap.size + 1 + 1 + g.n) = True := eq_true (by omega)
@[go_sem high] theorem nat_ne_s2g {w : World} (g : Laid) : (w.heap.size = w.heap.size + 1 + 1 + g.n) = False := eq_false (by omega)
@[go_sem high] theorem nat_en_s2g {w : World} (g : Laid) : (w.heap.size + 1 + 1 + g.n = w.heap.size) = False := eq_false (by omega)
@[go_sem] theorem nat_lt_h2g {a : Nat} {w : World} (g : Laid) (h : a < w.heap.size) : (a < w.heap.size + 1 + 1 + g.n) = True := eq_true (by omega)
@[go_sem] theorem nat_ne_h2g {a : Nat} {w : World} (g : Laid) (h : a < w.heap.size) : (a = w.heap.size + 1 + 1 + g.n) = False := eq_false (by omega)
@[go_sem high] theorem nat_lt_s2gc {w : World} (g : Laid) (c : Nat) : (w.heap.size < w.heap.size + 1 + 1 + (g.n + c)) = True := eq_true (by omega)
@[go_sem high] theorem nat_ne_s2gc {w : World} (g : Laid) (c : Nat) : (w.heap.size = w.heap.size + 1 + 1 + (g.n + c)) = False := eq_false (by omega)
@[go_sem high] theorem nat_en_s2gc {w : World} (g : Laid) (c : Nat) : (w.heap.size + 1 + 1 + (g.n + c) = w.heap.size) = False := eq_false (by omega)
@[go_sem] theorem nat_lt_h2gc {a : Nat} {w : World} (g : Laid) (c : Nat) (h : a < w.heap.size) : (a < w.heap.size + 1 + 1 + (g.n + c)) = True := eq_true (by omega)
@[go_sem] theorem nat_ne_h2gc {a : Nat} {w : World} (g : Laid) (c : Nat) (h : a < w.heap.size) : (a = w.heap.size + 1 + 1 + (g.n + c)) = False := eq_false (by omega)
@[go_sem high] theorem nat_lt_s3 {w : World} : (w.heap.size < w.heap.size + 1 + 1 + 1) = True := eq_true (by omega)
@[go_sem high] theorem nat_ne_s3 {w : World} : (w.heap.size = w.heap.size + 1 + 1 + 1) = False := eq_false (by omega)
@[go_sem high] theorem nat_en_s3 {w : World} : (w.heap.size + 1 + 1 + 1 = w.heap.size) = False := eq_false (by omega)
@[go_sem] theorem nat_lt_h3 {a : Nat} {w : World} (h : a < w.heap.size) : (a < w.heap.size + 1 + 1 + 1) = True := eq_true (by omega)
@[go_sem] theorem nat_ne_h3 {a : Nat} {w : World} (h : a < w.heap.size) : (a = w.heap.size + 1 + 1 + 1) = False := eq_false (by omega)
@[go_sem high] theorem nat_lt_s3g {w : World} (g : Laid) : (w.heap.size < w.heap.size + 1 + 1 + 1 + g.n) = True := eq_true (by omega)
@[go_sem high] theorem nat_ne_s3g {w : World} (g : Laid) : (w.heap.size = w.heap.size + 1 + 1 + 1 + g.n) = False := eq_false (by omega)
@[go_sem high] theorem nat_en_s3g {w : World} (g : Laid) : (w.heap.size + 1 + 1 + 1 + g.n = w.heap.size) = False := eq_false (by omega)
@[go_sem] theorem nat_lt_h3g {a : Nat} {w : World} (g : Laid) (h : a < w.heap.size) : (a < w.heap.size + 1 + 1 + 1 + g.n) = True := eq_true (by omega)
@[go_sem] theorem nat_ne_h3g {a : Nat} {w : World} (g : Laid) (h : a < w.heap.size) : (a = w.heap.size + 1 + 1 + 1 + g.n) = False := eq_false (by omega)
@[go_sem high] theorem nat_lt_s3gc {w : World} (g : Laid) (c : Nat) : (w.heap.size < w.heap.size + 1 + 1 + 1 + (g.n + c)) = True := eq_true (by omega)
@[go_sem high] theorem nat_ne_s3gc {w : World} (g : Laid) (c : Nat) : (w.heap.size = w.heap.size + 1 + 1 + 1 + (g.n + c)) = False := eq_false (by omega)
@[go_sem high] theorem nat_en_s3gc {w : World} (g : Laid) (c : Nat) : (w.heap.size + 1 + 1 + 1 + (g.n + c) = w.heap.size) = False := eq_false (by omega)
@[go_sem] theorem nat_lt_h3gc {a : Nat} {w : World} (g : Laid) (c : Nat) (h : a < w.heap.size) : (a < w.heap.size + 1 + 1 + 1 + (g.n + c)) = True := eq_true (by omega)
@[go_sem] theorem nat_ne_h3gc {a : Nat} {w : World} (g : Laid) (c : Nat) (h : a < w.heap.size) : (a = w.heap.size + 1 + 1 + 1 + (g.n + c)) = False := eq_false (by omega)
@[go_sem high] theorem nat_lt_s4 {w : World} : (w.heap.size < w.heap.size + 1 + 1 + 1 + 1) = True := eq_true (by omega)
@[go_sem high] theorem nat_ne_s4 {w : World} : (w.heap.size = w.heap.size + 1 + 1 + 1 + 1) = False := eq_false (by omega)
@[go_sem high] theorem nat_en_s4 {w : World} : (w.heap.size + 1 + 1 + 1 + 1 = w.heap.size) = False := eq_false (by omega)
@[go_sem] theorem nat_lt_h4 {a : Nat} {w : World} (h : a < w.heap.size) : (a < w.heap.size + 1 + 1 + 1 + 1) = True := eq_true (by omega)
@[go_sem] theorem nat_ne_h4 {a : Nat} {w : World} (h : a < w.heap.size) : (a = w.heap.size + 1 + 1 + 1 + 1) = False := eq_false (by omega)
@[go_sem high] theorem nat_lt_s4g {w : World} (g : Laid) : (w.heap.size < w.heap.size + 1 + 1 + 1 + 1 + g.n) = True := eq_true (by omega)
@[go_sem high] theorem nat_ne_s4g {w : World} (g : Laid) : (w.heap.size = w.heap.size + 1 + 1 + 1 + 1 + g.n) = False := eq_false (by omega)
@[go_sem high] theorem nat_en_s4g {w : World} (g : Laid) : (w.heap.size + 1 + 1 + 1 + 1 + g.n = w.heap.size) = False := eq_false (by omega)
@[go_sem] theorem nat_lt_h4g {a : Nat} {w : World} (g : Laid) (h : a < w.heap.size) : (a < w.heap.size + 1 + 1 + 1 + 1 + g.n) = True := eq_true (by omega)
@[go_sem] theorem nat_ne_h4g {a : Nat} {w : World} (g : Laid) (h : a < w.heap.size) : (a = w.heap.size + 1 + 1 + 1 + 1 + g.n) = False := eq_false (by omega)
@[go_sem high] theorem nat_lt_s4gc {w : World} (g : Laid) (c : Nat) : (w.heap.size < w.heap.size + 1 + 1 + 1 + 1 + (g.n + c)) = True := eq_true (by omega)
@[go_sem high] theorem nat_ne_s4gc {w : World} (g : Laid) (c : Nat) : (w.heap.size = w.heap.size + 1 + 1 + 1 + 1 + (g.n + c)) = False := eq_false (by omega)
@[go_sem high] theorem nat_en_s4gc {w : World} (g : Laid) (c : Nat) : (w.heap.size + 1 + 1 + 1 + 1 + (g.n + c) = w.heap.size) = False := eq_false (by omega)
@[go_sem] theorem nat_lt_h4gc {a : Nat} {w : World} (g : Laid) (c : Nat) (h : a < w.heap.size) : (a < w.heap.size + 1 + 1 + 1 + 1 + (g.n + c)) = True := eq_true (by omega)
@[go_sem] theorem nat_ne_h4gc {a : Nat} {w : World} (g : Laid) (c : Nat) (h : a < w.heap.size) : (a = w.heap.size + 1 + 1 + 1 + 1 + (g.n + c)) = False := eq_false (by omega)
@[go_sem high] theorem nat_lt_s5 {w : World} : (w.heap.size < w.heap.size + 1 + 1 + 1 + 1 + 1) = True := eq_true (by omega)
@[go_sem high] theorem nat_ne_s5 {w : World} : (w.heap.size = w.heap.size + 1 + 1 + 1 + 1 + 1) = False := eq_false (by omega)
@[go_sem high] theorem nat_en_s5 {w : World} : (w.heap.size + 1 + 1 + 1 + 1 + 1 = w.heap.size) = False := eq_false (by omega)
@[go_sem] theorem nat_lt_h5 {a : Nat} {w : World} (h : a < w.heap.size) : (a < w.heap.size + 1 + 1 + 1 + 1 + 1) = True := eq_true (by omega)
@[go_sem] theorem nat_ne_h5 {a : Nat} {w : World} (h : a < w.heap.size) : (a = w.heap.size + 1 + 1 + 1 + 1 + 1) = False := eq_false (by omega)
@[go_sem high] theorem nat_lt_s5g {w : World} (g : Laid) : (w.heap.size < w.heap.size + 1 + 1 + 1 + 1 + 1 + g.n) = True := eq_true (by omega)
@[go_sem high] theorem nat_ne_s5g {w : World} (g : Laid) : (w.heap.size = w.heap.size + 1 + 1 + 1 + 1 + 1 + g.n) = False := eq_false (by omega)
@[go_sem high] theorem nat_en_s5g {w : World} (g : Laid) : (w.heap.size + 1 + 1 + 1 + 1 + 1 + g.n = w.heap.size) = False := eq_false (by omega)
@[go_sem] theorem nat_lt_h5g {a : Nat} {w : World} (g : Laid) (h : a < w.heap.size) : (a < w.heap.size + 1 + 1 + 1 + 1 + 1 + g.n) = True := eq_true (by omega)
@[go_sem] theorem nat_ne_h5g {a : Nat} {w : World} (g : Laid) (h : a < w.heap.size) : (a = w.heap.size + 1 + 1 + 1 + 1 + 1 + g.n) = False := eq_false (by omega)
@[go_sem high] theorem nat_lt_s5gc {w : World} (g : Laid) (c : Nat) : (w.heap.size < w.heap.size + 1 + 1 + 1 + 1 + 1 + (g.n + c)) = True := eq_true (by omega)
@[go_sem high] theorem nat_ne_s5gc {w : World} (g : Laid) (c : Nat) : (w.heap.size = w.heap.size + 1 + 1 + 1 + 1 + 1 + (g.n + c)) = False := eq_false (by omega)
@[go_sem high] theorem nat_en_s5gc {w : World} (g : Laid) (c : Nat) : (w.heap.size + 1 + 1 + 1 + 1 + 1 + (g.n + c) = w.heap.size) = False := eq_false (by omega)
@[go_sem] theorem nat_lt_h5gc {a : Nat} {w : World} (g : Laid) (c : Nat) (h : a < w.heap.size) : (a < w.heap.size + 1 + 1 + 1 + 1 + 1 + (g.n + c)) = True := eq_true (by omega)
@[go_sem] theorem nat_ne_h5gc {a : Nat} {w : World} (g : Laid) (c : Nat) (h : a < w.heap.size) : (a = w.heap.size + 1 + 1 + 1 + 1 + 1 + (g.n + c)) = False := eq_false (by omega)
@[go_sem high] theorem nat_lt_s6 {w : World} : (w.heap.size < w.heap.size + 1 + 1 + 1 + 1 + 1 + 1) = True := eq_true (by omega)
@[go_sem high] theorem nat_ne_s6 {w : World} : (w.heap.size = w.heap.size + 1 + 1 + 1 + 1 + 1 + 1) = False := eq_false (by omega)
@[go_sem high] theorem nat_en_s6 {w : World} : (w.heap.size + 1 + 1 + 1 + 1 + 1 + 1 = w.heap.size) = False := eq_false (by omega)
@[go_sem] theorem nat_lt_h6 {a : Nat} {w : World} (h : a < w.heap.size) : (a < w.heap.size + 1 + 1 + 1 + 1 + 1 + 1) = True := eq_true (by omega)
@[go_sem] theorem nat_ne_h6 {a : Nat} {w : World} (h : a < w.heap.size) : (a = w.heap.size + 1 + 1 + 1 + 1 + 1 + 1) = False := eq_false (by omega)
@[go_sem high] theorem nat_lt_s6g {w : World} (g : Laid) : (w.heap.size < w.heap.size + 1 + 1 + 1 + 1 + 1 + 1 + g.n) = True := eq_true (by omega)
@[go_sem high] theorem nat_ne_s6g {w : World} (g : Laid) : (w.heap.size = w.heap.size + 1 + 1 + 1 + 1 + 1 + 1 + g.n) = False := eq_false (by omega)
@[go_sem high] theorem nat_en_s6g {w : World} (g : Laid) : (w.heap.size + 1 + 1 + 1 + 1 + 1 + 1 + g.n = w.heap.size) = False := eq_false (by omega)
@[go_sem] theorem nat_lt_h6g {a : Nat} {w : World} (g : Laid) (h : a < w.heap.size) : (a < w.heap.size + 1 + 1 + 1 + 1 + 1 + 1 + g.n) = True := eq_true (by omega)
@[go_sem] theorem nat_ne_h6g {a : Nat} {w : World} (g : Laid) (h : a < w.heap.size) : (a = w.heap.size + 1 + 1 + 1 + 1 + 1 + 1 + g.n) = False := eq_false (by omega)
@[go_sem high] theorem nat_lt_s6gc {w : World} (g : Laid) (c : Nat) : (w.heap.size < w.heap.size + 1 + 1 + 1 + 1 + 1 + 1 + (g.n + c)) = True := eq_true (by omega)
@[go_sem high] theorem nat_ne_s6gc {w : World} (g : Laid) (c : Nat) : (w.heap.size = w.heap.size + 1 + 1 + 1 + 1 + 1 + 1 + (g.n + c)) = False := eq_false (by omega)
@[go_sem high] theorem nat_en_s6gc {w : World} (g : Laid) (c : Nat) : (w.heap.size + 1 + 1 + 1 + 1 + 1 + 1 + (g.n + c) = w.heap.size) = False := eq_false (by omega)
@[go_sem] theorem nat_lt_h6gc {a : Nat} {w : World} (g : Laid) (c : Nat) (h : a < w.heap.size) : (a < w.heap.size + 1 + 1 + 1 + 1 + 1 + 1 + (g.n + c)) = True := eq_true (by omega)
@[go_sem] theorem nat_ne_h6gc {a : Nat} {w : World} (g : Laid) (c : Nat) (h : a < w.heap.size) : (a = w.heap.size + 1 + 1 + 1 + 1 + 1 + 1 + (g.n + c)) = False := eq_false (by omega)
@[go_sem high] theorem nat_lt_s7 {w : World} : (w.heap.size < w.heap.size + 1 + 1 + 1 + 1 + 1 + 1 + 1) = True := eq_true (by omega)
@[go_sem high] theorem nat_ne_s7 {w : World} : (w.heap.size = w.heap.size + 1 + 1 + 1 + 1 + 1 + 1 + 1) = False := eq_false (by omega)
@[go_sem high] theorem nat_en_s7 {w : World} : (w.heap.size + 1 + 1 + 1 + 1 + 1 + 1 + 1 = w.heap.size) = False := eq_false (by omega)
@[go_sem] theorem nat_lt_h7 {a : Nat} {w : World} (h : a < w.heap.size) : (a < w.heap.size + 1 + 1 + 1 + 1 + 1 + 1 + 1) = True := eq_true (by omega)
@[go_sem] theorem nat_ne_h7 {a : Nat} {w : World} (h : a < w.heap.size) : (a = w.heap.size + 1 + 1 + 1 + 1 + 1 + 1 + 1) = False := eq_false (by omega)
@[go_sem high] theorem nat_lt_s7g {w : World} (g : Laid) : (w.heap.size < w.heap.size + 1 + 1 + 1 + 1 + 1 + 1 + 1 + g.n) = True := eq_true (by omega)
@[go_sem high] theorem nat_ne_s7g {w : World} (g : Laid) : (w.heap.size = w.heap.size + 1 + 1 + 1 + 1 + 1 + 1 + 1 + g.n) = False := eq_false (by omega)
@[go_sem high] theorem nat_en_s7g {w : World} (g : Laid) : (w.heap.size + 1 + 1 + 1 + 1 + 1 + 1 + 1 + g.n = w.heap.size) = False := eq_false (by omega)
@[go_sem] theorem nat_lt_h7g {a : Nat} {w : World} (g : Laid) (h : a < w.heap.size) : (a < w.heap.size + 1 + 1 + 1 + 1 + 1 + 1 + 1 + g.n) = True := eq_true (by omega)
@[go_sem] theorem nat_ne_h7g {a : Nat} {w : World} (g : Laid) (h : a < w.heap.size) : (a = w.heap.size + 1 + 1 + 1 + 1 + 1 + 1 + 1 + g.n) = False := eq_false (by omega)
@[go_sem high] theorem nat_lt_s7gc {w : World} (g : Laid) (c : Nat) : (w.heap.size < w.heap.size + 1 + 1 + 1 + 1 + 1 + 1 + 1 + (g.n + c)) = True := eq_true (by omega)
@[go_sem high] theorem nat_ne_s7gc {w : World} (g : Laid) (c : Nat) : (w.heap.size = w.heap.size + 1 + 1 + 1 + 1 + 1 + 1 + 1 + (g.n + c)) = False := eq_false (by omega)
@[go_sem high] theorem nat_en_s7gc {w : World} (g : Laid) (c : Nat) : (w.heap.size + 1 + 1 + 1 + 1 + 1 + 1 + 1 + (g.n + c) = w.heap.size) = False := eq_false (by omega)
@[go_sem] theorem nat_lt_h7gc {a : Nat} {w : World} (g : Laid) (c : Nat) (h : a < w.heap.size) : (a < w.heap.size + 1 + 1 + 1 + 1 + 1 + 1 + 1 + (g.n + c)) = True := eq_true (by omega)
@[go_sem] theorem nat_ne_h7gc {a : Nat} {w : World} (g : Laid) (c : Nat) (h : a < w.heap.size) : (a = w.heap.size + 1 + 1 + 1 + 1 + 1 + 1 + 1 + (g.n + c)) = False := eq_false (by omega)
@[go_sem high] theorem nat_lt_s8 {w : World} : (w.heap.size < w.heap.size + 1 + 1 + 1 + 1 + 1 + 1 + 1 + 1) = True := eq_true (by omega)
@[go_sem high] theorem nat_ne_s8 {w : World} : (w.heap.size = w.heap.size + 1 + 1 + 1 + 1 + 1 + 1 + 1 + 1) = False := eq_false (by omega)
@[go_sem high] theorem nat_en_s8 {w : World} : (w.heap.size + 1 + 1 + 1 + 1 + 1 + 1 + 1 + 1 = w.heap.size) = False := eq_false (by omega)
@[go_sem] theorem nat_lt_h8 {a : Nat} {w : World} (h : a < w.heap.size) : (a < w.heap.size + 1 + 1 + 1 + 1 + 1 + 1 + 1 + 1) = True := eq_true (by omega)
@[go_sem] theorem nat_ne_h8 {a : Nat} {w : World} (h : a < w.heap.size) : (a = w.heap.size + 1 + 1 + 1 + 1 + 1 + 1 + 1 + 1) = False := eq_false (by omega)
@[go_sem high] theorem nat_lt_s8g {w : World} (g : Laid) : (w.heap.size < w.heap.size + 1 + 1 + 1 + 1 + 1 + 1 + 1 + 1 + g.n) = True := eq_true (by omega)
@[go_sem high] theorem nat_ne_s8g {w : World} (g : Laid) : (w.heap.size = w.heap.size + 1 + 1 + 1 + 1 + 1 + 1 + 1 + 1 + g.n) = False := eq_false (by omega)
@[go_sem high] theorem nat_en_s8g {w : World} (g : Laid) : (w.heap.size + 1 + 1 + 1 + 1 + 1 + 1 + 1 + 1 + g.n = w.heap.size) = False := eq_false (by omega)
@[go_sem] theorem nat_lt_h8g {a : Nat} {w : World} (g : Laid) (h : a < w.heap.size) : (a < w.heap.size + 1 + 1 + 1 + 1 + 1 + 1 + 1 + 1 + g.n) = True := eq_true (by omega)
@[go_sem] theorem nat_ne_h8g {a : Nat} {w : World} (g : Laid) (h : a < w.heap.size) : (a = w.heap.size + 1 + 1 + 1 + 1 + 1 + 1 + 1 + 1 + g.n) = False := eq_false (by omega)
@[go_sem high] theorem nat_lt_s8gc {w : World} (g : Laid) (c : Nat) : (w.heap.size < w.heap.size + 1 + 1 + 1 + 1 + 1 + 1 + 1 + 1 + (g.n + c)) = True := eq_true (by omega)
@[go_sem high] theorem nat_ne_s8gc {w : World} (g : Laid) (c : Nat) : (w.heap.size = w.heap.size + 1 + 1 + 1 + 1 + 1 + 1 + 1 + 1 + (g.n + c)) = False := eq_false (by omega)
@[go_sem high] theorem nat_en_s8gc {w : World} (g : Laid) (c : Nat) : (w.heap.size + 1 + 1 + 1 + 1 + 1 + 1 + 1 + 1 + (g.n + c) = w.heap.size) = False := eq_false (by omega)
@[go_sem] theorem nat_lt_h8gc {a : Nat} {w : World} (g : Laid) (c : Nat) (h : a < w.heap.size) : (a < w.heap.size + 1 + 1 + 1 + 1 + 1 + 1 + 1 + 1 + (g.n + c)) = True := eq_true (by omega)
@[go_sem] theorem nat_ne_h8gc {a : Nat} {w : World} (g : Laid) (c : Nat) (h : a < w.heap.size) : (a = w.heap.size + 1 + 1 + 1 + 1 + 1 + 1 + 1 + 1 + (g.n + c)) = False := eq_false (by omega)
@[go_sem high] theorem nat_lt_s9 {w : World} : (w.heap.size < w.heap.size + 1 + 1 + 1 + 1 + 1 + 1 + 1 + 1 + 1) = True := eq_true (by omega)
@[go_sem high] theorem nat_ne_s9 {w : World} : (w.heap.size = w.heap.size + 1 + 1 + 1 + 1 + 1 + 1 + 1 + 1 + 1) = False := eq_false (by omega)
@[go_sem high] theorem nat_en_s9 {w : World} : (w.heap.size + 1 + 1 + 1 + 1 + 1 + 1 + 1 + 1 + 1 = w.heap.size) = False := eq_false (by omega)
@[go_sem] theorem nat_lt_h9 {a : Nat} {w : World} (h : a < w.heap.size) : (a < w.heap.size + 1 + 1 + 1 + 1 + 1 + 1 + 1 + 1 + 1) = True := eq_true (by omega)
@[go_sem] theorem nat_ne_h9 {a : Nat} {w : World} (h : a < w.heap.size) : (a = w.heap.size + 1 + 1 + 1 + 1 + 1 + 1 + 1 + 1 + 1) = False := eq_false (by omega)
@[go_sem high] theorem nat_lt_s9g {w : World} (g : Laid) : (w.heap.size < w.heap.size + 1 + 1 + 1 + 1 + 1 + 1 + 1 + 1 + 1 + g.n) = True := eq_true (by omega)
@[go_sem high] theorem nat_ne_s9g {w : World} (g : Laid) : (w.heap.size = w.heap.size + 1 + 1 + 1 + 1 + 1 + 1 + 1 + 1 + 1 + g.n) = False := eq_false (by omega)
@[go_sem high] theorem nat_en_s9g {w : World} (g : Laid) : (w.heap.size + 1 + 1 + 1 + 1 + 1 + 1 + 1 + 1 + 1 + g.n = w.heap.size) = False := eq_false (by omega)
@[go_sem] theorem nat_lt_h9g {a : Nat} {w : World} (g : Laid) (h : a < w.heap.size) : (a < w.heap.size + 1 + 1 + 1 + 1 + 1 + 1 + 1 + 1 + 1 + g.n) = True := eq_true (by omega)
@[go_sem] theorem nat_ne_h9g {a : Nat} {w : World} (g : Laid) (h : a < w.heap.size) : (a = w.heap.size + 1 + 1 + 1 + 1 + 1 + 1 + 1 + 1 + 1 + g.n) = False := eq_false (by omega)
@[go_sem high] theorem nat_lt_s9gc {w : World} (g : Laid) (c : Nat) : (w.heap.size < w.heap.size + 1 + 1 + 1 + 1 + 1 + 1 + 1 + 1 + 1 + (g.n + c)) = True := eq_true (by omega)
@[go_sem high] theorem nat_ne_s9gc {w : World} (g : Laid) (c : Nat) : (w.heap.size = w.heap.size + 1 + 1 + 1 + 1 + 1 + 1 + 1 + 1 + 1 + (g.n + c)) = False := eq_false (by omega)
@[go_sem high] theorem nat_en_s9gc {w : World} (g : Laid) (c : Nat) : (w.heap.size + 1 + 1 + 1 + 1 + 1 + 1 + 1 + 1 + 1 + (g.n + c) = w.heap.size) = False := eq_false (by omega)
@[go_sem] theorem nat_lt_h9gc {a : Nat} {w : World} (g : Laid) (c : Nat) (h : a < w.heap.size) : (a < w.heap.size + 1 + 1 + 1 + 1 + 1 + 1 + 1 + 1 + 1 + (g.n + c)) = True := eq_true (by omega)
@[go_sem] theorem nat_ne_h9gc {a : Nat} {w : World} (g : Laid) (c : Nat) (h : a < w.heap.size) : (a = w.heap.size + 1 + 1 + 1 + 1 + 1 + 1 + 1 + 1 + 1 + (g.n + c)) = False := eq_false (by omega)
@[go_sem high] theorem nat_lt_s10 {w : World} : (w.heap.size < w.heap.size + 1 + 1 + 1 + 1 + 1 + 1 + 1 + 1 + 1 + 1) = True := eq_true (by omega)
@[go_sem high] theorem nat_ne_s10 {w : World} : (w.heap.size = w.heap.size + 1 + 1 + 1 + 1 + 1 + 1 + 1 + 1 + 1 + 1) = False := eq_false (by omega)
@[go_sem high] theorem nat_en_s10 {w : World} : (w.heap.size + 1 + 1 + 1 + 1 + 1 + 1 + 1 + 1 + 1 + 1 = w.heap.size) = False := eq_false (by omega)
@[go_sem] theorem nat_lt_h10 {a : Nat} {w : World} (h : a < w.heap.size) : (a < w.heap.size + 1 + 1 + 1 + 1 + 1 + 1 + 1 + 1 + 1 + 1) = True := eq_true (by omega)
@[go_sem] theorem nat_ne_h10 {a : Nat} {w : World} (h : a < w.heap.size) : (a = w.heap.size + 1 + 1 + 1 + 1 + 1 + 1 + 1 + 1 + 1 + 1) = False := eq_false (by omega)
@[go_sem high] theorem nat_lt_s10g {w : World} (g : Laid) : (w.heap.size < w.heap.size + 1 + 1 + 1 + 1 + 1 + 1 + 1 + 1 + 1 + 1 + g.n) = True := eq_true (by omega)
@[go_sem high] theorem nat_ne_s10g {w : World} (g : Laid) : (w.heap.size = w.heap.size + 1 + 1 + 1 + 1 + 1 + 1 + 1 + 1 + 1 + 1 + g.n) = False := eq_false (by omega)
@[go_sem high] theorem nat_en_s10g {w : World} (g : Laid) : (w.heap.size + 1 + 1 + 1 + 1 + 1 + 1 + 1 + 1 + 1 + 1 + g.n = w.heap.size) = False := eq_false (by omega)
@[go_sem] theorem nat_lt_h10g {a : Nat} {w : World} (g : Laid) (h : a < w.heap.size) : (a < w.heap.size + 1 + 1 + 1 + 1 + 1 + 1 + 1 + 1 + 1 + 1 + g.n) = True := eq_true (by omega)
@[go_sem] theorem nat_ne_h10g {a : Nat} {w : World} (g : Laid) (h : a < w.heap.size) : (a = w.heap.size + 1 + 1 + 1 + 1 + 1 + 1 + 1 + 1 + 1 + 1 + g.n) = False := eq_false (by omega)
@[go_sem high] theorem nat_lt_s10gc {w : World} (g : Laid) (c : Nat) : (w.heap.size < w.heap.size + 1 + 1 + 1 + 1 + 1 + 1 + 1 + 1 + 1 + 1 + (g.n + c)) = True := eq_true (by omega)
@[go_sem high] theorem nat_ne_s10gc {w : World} (g : Laid) (c : Nat) : (w.heap.size = w.heap.size + 1 + 1 + 1 + 1 + 1 + 1 + 1 + 1 + 1 + 1 + (g.n + c)) = False := eq_false (by omega)
@[go_sem high] theorem nat_en_s10gc {w : World} (g : Laid) (c : Nat) : (w.heap.size + 1 + 1 + 1 + 1 + 1 + 1 + 1 + 1 + 1 + 1 + (g.n + c) = w.heap.size) = False := eq_false (by omega)
@[go_sem] theorem nat_lt_h10gc {a : Nat} {w : World} (g : Laid) (c : Nat) (h : a < w.heap.size) : (a < w.heap.size + 1 + 1 + 1 + 1 + 1 + 1 + 1 + 1 + 1 + 1 + (g.n + c)) = True := eq_true (by omega)
@[go_sem] theorem nat_ne_h10gc {a : Nat} {w : World} (g : Laid) (c : Nat) (h : a < w.heap.size) : (a = w.heap.size + 1 + 1 + 1 + 1 + 1 + 1 + 1 + 1 + 1 + 1 + (g.n + c)) = False := eq_false (by omega)
@[go_sem high] theorem nat_lt_s11 {w : World} : (w.heap.size < w.heap.size + 1 + 1 + 1 + 1 + 1 + 1 + 1 + 1 + 1 + 1 + 1) = True := eq_true (by omega)
@[go_sem high] theorem nat_ne_s11 {w : World} : (w.heap.size = w.heap.size + 1 + 1 + 1 + 1 + 1 + 1 + 1 + 1 + 1 + 1 + 1) = False := eq_false (by omega)
@[go_sem high] theorem nat_en_s11 {w : World} : (w.heap.size + 1 + 1 + 1 + 1 + 1 + 1 + 1 + 1 + 1 + 1 + 1 = w.heap.size) = False := eq_false (by omega)
@[go_sem] theorem nat_lt_h11 {a : Nat} {w : World} (h : a < w.heap.size) : (a < w.heap.size + 1 + 1 + 1 + 1 + 1 + 1 + 1 + 1 + 1 + 1 + 1) = True := eq_true (by omega)
@[go_sem] theorem nat_ne_h11 {a : Nat} {w : World} (h : a < w.heap.size) : (a = w.heap.size + 1 + 1 + 1 + 1 + 1 + 1 + 1 + 1 + 1 + 1 + 1) = False := eq_false (by omega)
@[go_sem high] theorem nat_lt_s11g {w : World} (g : Laid) : (w.heap.size < w.heap.size + 1 + 1 + 1 + 1 + 1 + 1 + 1 + 1 + 1 + 1 + 1 + g.n) = True := eq_true (by omega)
@[go_sem high] theorem nat_ne_s11g {w : World} (g : Laid) : (w.heap.size = w.heap.size + 1 + 1 + 1 + 1 + 1 + 1 + 1 + 1 + 1 + 1 + 1 + g.n) = False := eq_false (by omega)
@[go_sem high] theorem nat_en_s11g {w : World} (g : Laid) : (w.heap.size + 1 + 1 + 1 + 1 + 1 + 1 + 1 + 1 + 1 + 1 + 1 + g.n = w.heap.size) = False := eq_false (by omega)
@[go_sem] theorem nat_lt_h11g {a : Nat} {w : World} (g : Laid) (h : a < w.heap.size) : (a < w.heap.size + 1 + 1 + 1 + 1 + 1 + 1 + 1 + 1 + 1 + 1 + 1 + g.n) = True := eq_true (by omega)
@[go_sem] theorem nat_ne_h11g {a : Nat} {w : World} (g : Laid) (h : a < w.heap.size) : (a = w.heap.size + 1 + 1 + 1 + 1 + 1 + 1 + 1 + 1 + 1 + 1 + 1 + g.n) = False := eq_false (by omega)
@[go_sem high] theorem nat_lt_s11gc {w : World} (g : Laid) (c : Nat) : (w.heap.size < w.heap.size + 1 + 1 + 1 + 1 + 1 + 1 + 1 + 1 + 1 + 1 + 1 + (g.n + c)) = True := eq_true (by omega)
@[go_sem high] theorem nat_ne_s11gc {w : World} (g : Laid) (c : Nat) : (w.heap.size = w.heap.size + 1 + 1 + 1 + 1 + 1 + 1 + 1 + 1 + 1 + 1 + 1 + (g.n + c)) = False := eq_false (by omega)
@[go_sem high] theorem nat_en_s11gc {w : World} (g : Laid) (c : Nat) : (w.heap.size + 1 + 1 + 1 + 1 + 1 + 1 + 1 + 1 + 1 + 1 + 1 + (g.n + c) = w.heap.size) = False := eq_false (by omega)
@[go_sem] theorem nat_lt_h11gc {a : Nat} {w : World} (g : Laid) (c : Nat) (h : a < w.heap.size) : (a < w.heap.size + 1 + 1 + 1 + 1 + 1 + 1 + 1 + 1 + 1 + 1 + 1 + (g.n + c)) = True := eq_true (by omega)
@[go_sem] theorem nat_ne_h11gc {a : Nat} {w : World} (g : Laid) (c : Nat) (h : a < w.heap.size) : (a = w.heap.size + 1 + 1 + 1 + 1 + 1 + 1 + 1 + 1 + 1 + 1 + 1 + (g.n + c)) = False := eq_false (by omega)
@[go_sem high] theorem nat_lt_s12 {w : World} : (w.heap.size < w.heap.size + 1 + 1 + 1 + 1 + 1 + 1 + 1 + 1 + 1 + 1 + 1 + 1) = True := eq_true (by omega)
@[go_sem high] theorem nat_ne_s12 {w : World} : (w.heap.size = w.heap.size + 1 + 1 + 1 + 1 + 1 + 1 + 1 + 1 + 1 + 1 + 1 + 1) = False := eq_false (by omega)
@[go_sem high] theorem nat_en_s12 {w : World} : (w.heap.size + 1 + 1 + 1 + 1 + 1 + 1 + 1 + 1 + 1 + 1 + 1 + 1 = w.heap.size) = False := eq_false (by omega)
@[go_sem] theorem nat_lt_h12 {a : Nat} {w : World} (h : a < w.heap.size) : (a < w.heap.size + 1 + 1 + 1 + 1 + 1 + 1 + 1 + 1 + 1 + 1 + 1 + 1) = True := eq_true (by omega)
@[go_sem] theorem nat_ne_h12 {a : Nat} {w : World} (h : a < w.heap.size) : (a = w.heap.size + 1 + 1 + 1 + 1 + 1 + 1 + 1 + 1 + 1 + 1 + 1 + 1) = False := eq_false (by omega)
@[go_sem high] theorem nat_lt_s12g {w : World} (g : Laid) : (w.heap.size < w.heap.size + 1 + 1 + 1 + 1 + 1 + 1 + 1 + 1 + 1 + 1 + 1 + 1 + g.n) = True := eq_true (by omega)
@[go_sem high] theorem nat_ne_s12g {w : World} (g : Laid) : (w.heap.size = w.heap.size + 1 + 1 + 1 + 1 + 1 + 1 + 1 + 1 + 1 + 1 + 1 + 1 + g.n) = False := eq_false (by omega)
@[go_sem high] theorem nat_en_s12g {w : World} (g : Laid) : (w.heap.size + 1 + 1 + 1 + 1 + 1 + 1 + 1 + 1 + 1 + 1 + 1 + 1 + g.n = w.heap.size) = False := eq_false (by omega)
@[go_sem] theorem nat_lt_h12g {a : Nat} {w : World} (g : Laid) (h : a < w.heap.size) : (a < w.heap.size + 1 + 1 + 1 + 1 + 1 + 1 + 1 + 1 + 1 + 1 + 1 + 1 + g.n) = True := eq_true (by omega)
@[go_sem] theorem nat_ne_h12g {a : Nat} {w : World} (g : Laid) (h : a < w.heap.size) : (a = w.heap.size + 1 + 1 + 1 + 1 + 1 + 1 + 1 + 1 + 1 + 1 + 1 + 1 + g.n) = False := eq_false (by omega)
@[go_sem high] theorem nat_lt_s12gc {w : World} (g : Laid) (c : Nat) : (w.heap.size < w.heap.size + 1 + 1 + 1 + 1 + 1 + 1 + 1 + 1 + 1 + 1 + 1 + 1 + (g.n + c)) = True := eq_true (by omega)
@[go_sem high] theorem nat_ne_s12gc {w : World} (g : Laid) (c : Nat) : (w.heap.size = w.heap.size + 1 + 1 + 1 + 1 + 1 + 1 + 1 + 1 + 1 + 1 + 1 + 1 + (g.n + c)) = False := eq_false (by omega)
@[go_sem high] theorem nat_en_s12gc {w : World} (g : Laid) (c : Nat) : (w.heap.size + 1 + 1 + 1 + 1 + 1 + 1 + 1 + 1 + 1 + 1 + 1 + 1 + (g.n + c) = w.heap.size) = False := eq_false (by omega)
@[go_sem] theorem nat_lt_h12gc {a : Nat} {w : World} (g : Laid) (c : Nat) (h : a < w.heap.size) : (a < w.heap.size + 1 + 1 + 1 + 1 + 1 + 1 + 1 + 1 + 1 + 1 + 1 + 1 + (g.n + c)) = True := eq_true (by omega)
@[go_sem] theorem nat_ne_h12gc {a : Nat} {w : World} (g : Laid) (c : Nat) (h : a < w.heap.size) : (a = w.heap.size + 1 + 1 + 1 + 1 + 1 + 1 + 1 + 1 + 1 + 1 + 1 + 1 + (g.n + c)) = False := eq_false (by omega)
@[go_sem high] theorem nat_lt_s13 {w : World} : (w.heap.size < w.heap.size + 1 + 1 + 1 + 1 + 1 + 1 + 1 + 1 + 1 + 1 + 1 + 1 + 1) = True := eq_true (by omega)
@[go_sem high] theorem nat_ne_s13 {w : World} : (w.heap.size = w.heap.size + 1 + 1 + 1 + 1 + 1 + 1 + 1 + 1 + 1 + 1 + 1 + 1 + 1) = False := eq_false (by omega)
@[go_sem high] theorem nat_en_s13 {w : World} : (w.heap.size + 1 + 1 + 1 + 1 + 1 + 1 + 1 + 1 + 1 + 1 + 1 + 1 + 1 = w.heap.size) = False := eq_false (by omega)
@[go_sem] theorem nat_lt_h13 {a : Nat} {w : World} (h : a < w.heap.size) : (a < w.heap.size + 1 + 1 + 1 + 1 + 1 + 1 + 1 + 1 + 1 + 1 + 1 + 1 + 1) = True := eq_true (by omega)
@[go_sem] theorem nat_ne_h13 {a : Nat} {w : World} (h : a < w.heap.size) : (a = w.heap.size + 1 + 1 + 1 + 1 + 1 + 1 + 1 + 1 + 1 + 1 + 1 + 1 + 1) = False := eq_false (by omega)
@[go_sem high] theorem nat_lt_s13g {w : World} (g : Laid) : (w.heap.size < w.heap.size + 1 + 1 + 1 + 1 + 1 + 1 + 1 + 1 + 1 + 1 + 1 + 1 + 1 + g.n) = True := eq_true (by omega)
@[go_sem high] theorem nat_ne_s13g {w : World} (g : Laid) : (w.heap.size = w.heap.size + 1 + 1 + 1 + 1 + 1 + 1 + 1 + 1 + 1 + 1 + 1 + 1 + 1 + g.n) = False := eq_false (by omega)
@[go_sem high] theorem nat_en_s13g {w : World} (g : Laid) : (w.heap.size + 1 + 1 + 1 + 1 + 1 + 1 + 1 + 1 + 1 + 1 + 1 + 1 + 1 + g.n = w.heap.size) = False := eq_false (by omega)
@[go_sem] theorem nat_lt_h13g {a : Nat} {w : World} (g : Laid) (h : a < w.heap.size) : (a < w.heap.size + 1 + 1 + 1 + 1 + 1 + 1 + 1 + 1 + 1 + 1 + 1 + 1 + 1 + g.n) = True := eq_true (by omega)
@[go_sem] theorem nat_ne_h13g {a : Nat} {w : World} (g : Laid) (h : a < w.heap.size) : (a = w.heap.size + 1 + 1 + 1 + 1 + 1 + 1 + 1 + 1 + 1 + 1 + 1 + 1 + 1 + g.n) = False := eq_false (by omega)
@[go_sem high] theorem nat_lt_s13gc {w : World} (g : Laid) (c : Nat) : (w.heap.size < w.heap.size + 1 + 1 + 1 + 1 + 1 + 1 + 1 + 1 + 1 + 1 + 1 + 1 + 1 + (g.n + c)) = True := eq_true (by omega)
@[go_sem high] theorem nat_ne_s13gc {w : World} (g : Laid) (c : Nat) : (w.heap.size = w.heap.size + 1 + 1 + 1 + 1 + 1 + 1 + 1 + 1 + 1 + 1 + 1 + 1 + 1 + (g.n + c)) = False := eq_false (by omega)
@[go_sem high] theorem nat_en_s13gc {w : World} (g : Laid) (c : Nat) : (w.heap.size + 1 + 1 + 1 + 1 + 1 + 1 + 1 + 1 + 1 + 1 + 1 + 1 + 1 + (g.n + c) = w.heap.size) = False := eq_false (by omega)
@[go_sem] theorem nat_lt_h13gc {a : Nat} {w : World} (g : Laid) (c : Nat) (h : a < w.heap.size) : (a < w.heap.size + 1 + 1 + 1 + 1 + 1 + 1 + 1 + 1 + 1 + 1 + 1 + 1 + 1 + (g.n + c)) = True := eq_true (by omega)
@[go_sem] theorem nat_ne_h13gc {a : Nat} {w : World} (g : Laid) (c : Nat) (h : a < w.heap.size) : (a = w.heap.size + 1 + 1 + 1 + 1 + 1 + 1 + 1 + 1 + 1 + 1 + 1 + 1 + 1 + (g.n + c)) = False := eq_false (by omega)
@[go_sem high] theorem nat_lt_s14 {w : World} : (w.heap.size < w.heap.size + 1 + 1 + 1 + 1 + 1 + 1 + 1 + 1 + 1 + 1 + 1 + 1 + 1 + 1) = True := eq_true (by omega)
@[go_sem high] theorem nat_ne_s14 {w : World} : (w.heap.size = w.heap.size + 1 + 1 + 1 + 1 + 1 + 1 + 1 + 1 + 1 + 1 + 1 + 1 + 1 + 1) = False := eq_false (by omega)
@[go_sem high] theorem nat_en_s14 {w : World} : (w.heap.size + 1 + 1 + 1 + 1 + 1 + 1 + 1 + 1 + 1 + 1 + 1 + 1 + 1 + 1 = w.heap.size) = False := eq_false (by omega)
@[go_sem] theorem nat_lt_h14 {a : Nat} {w : World} (h : a < w.heap.size) : (a < w.heap.size + 1 + 1 + 1 + 1 + 1 + 1 + 1 + 1 + 1 + 1 + 1 + 1 + 1 + 1) = True := eq_true (by omega)
@[go_sem] theorem nat_ne_h14 {a : Nat} {w : World} (h : a < w.heap.size) : (a = w.heap.size + 1 + 1 + 1 + 1 + 1 + 1 + 1 + 1 + 1 + 1 + 1 + 1 + 1 + 1) = False := eq_false (by omega)
@[go_sem high] theorem nat_lt_s14g {w : World} (g : Laid) : (w.heap.size < w.heap.size + 1 + 1 + 1 + 1 + 1 + 1 + 1 + 1 + 1 + 1 + 1 + 1 + 1 + 1 + g.n) = True := eq_true (by omega)
@[go_sem high] theorem nat_ne_s14g {w : World} (g : Laid) : (w.heap.size = w.heap.size + 1 + 1 + 1 + 1 + 1 + 1 + 1 + 1 + 1 + 1 + 1 + 1 + 1 + 1 + g.n) = False := eq_false (by omega)
@[go_sem high] theorem nat_en_s14g {w : World} (g : Laid) : (w.heap.size + 1 + 1 + 1 + 1 + 1 + 1 + 1 + 1 + 1 + 1 + 1 + 1 + 1 + 1 + g.n = w.heap.size) = False := eq_false (by omega)
@[go_sem] theorem nat_lt_h14g {a : Nat} {w : World} (g : Laid) (h : a < w.heap.size) : (a < w.heap.size + 1 + 1 + 1 + 1 + 1 + 1 + 1 + 1 + 1 + 1 + 1 + 1 + 1 + 1 + g.n) = True := eq_true (by omega)
@[go_sem] theorem nat_ne_h14g {a : Nat} {w : World} (g : Laid) (h : a < w.heap.size) : (a = w.heap.size + 1 + 1 + 1 + 1 + 1 + 1 + 1 + 1 + 1 + 1 + 1 + 1 + 1 + 1 + g.n) = False := eq_false (by omega)
@[go_sem high] theorem nat_lt_s14gc {w : World} (g : Laid) (c : Nat) : (w.heap.size < w.heap.size + 1 + 1 + 1 + 1 + 1 + 1 + 1 + 1 + 1 + 1 + 1 + 1 + 1 + 1 + (g.n + c)) = True := eq_true (by omega)
@[go_sem high] theorem nat_ne_s14gc {w : World} (g : Laid) (c : Nat) : (w.heap.size = w.heap.size + 1 + 1 + 1 + 1 + 1 + 1 + 1 + 1 + 1 + 1 + 1 + 1 + 1 + 1 + (g.n + c)) = False := eq_false (by omega)
@[go_sem high] theorem nat_en_s14gc {w : World} (g : Laid) (c : Nat) : (w.heap.size + 1 + 1 + 1 + 1 + 1 + 1 + 1 + 1 + 1 + 1 + 1 + 1 + 1 + 1 + (g.n + c) = w.heap.size) = False := eq_false (by omega)
@[go_sem] theorem nat_lt_h14gc {a : Nat} {w : World} (g : Laid) (c : Nat) (h : a < w.heap.size) : (a < w.heap.size + 1 + 1 + 1 + 1 + 1 + 1 + 1 + 1 + 1 + 1 + 1 + 1 + 1 + 1 + (g.n + c)) = True := eq_true (by omega)
@[go_sem] theorem nat_ne_h14gc {a : Nat} {w : World} (g : Laid) (c : Nat) (h : a < w.heap.size) : (a = w.heap.size + 1 + 1 + 1 + 1 + 1 + 1 + 1 + 1 + 1 + 1 + 1 + 1 + 1 + 1 + (g.n + c)) = False := eq_false (by omega)
@[go_sem] theorem add_laid (a b : Nat) (g : Laid) : a + g.n + b = a + (g.n + b) := Nat.add_assoc ..
@[go_sem] theorem add_laid2 (a b c : Nat) (g : Laid) : a + (g.n + b) + c = a + (g.n + (b + c)) := by omega

/-! ### Blocks of one's own -/
theorem St.grow {w0 w : World} {L : List (Nat × Array Value × TypeId)} (h : St w0 w L) (g : Laid) : St w0 (Go.Proofs.Ytkfggilildiflaa.grow w g) L := h.call (grow_below w g)
theorem St.drew {w0 w : World} {L : List (Nat × Array Value × TypeId)} (h : St w0 w L) : St w0 w.drew L := h.drewN 1
theorem St.skip {w0 w : World} {L : List (Nat × Array Value × TypeId)} (h : St w0 w L) (o : Obj) : St w0 (w.alloc o) L := h.call ((Below.refl _ _).alloc (Nat.le_refl _) _)
theorem put_is_setRow {w : World} {b : Nat} {cs : Array Value} {t : TypeId} (h : blk w b = some (.cells cs t (0, 0))) (cs' : Array Value) : putRow w b cs' t = w.setRow b cs' := by
  conv => rhs; rw [put_self h]
  rw [put_setRow_same]
theorem St.put {w0 w : World} {L : List (Nat × Array Value × TypeId)} (h : St w0 w L) (i : Nat) {b : Nat} {cs : Array Value} {t : TypeId} (hi : L[i]? = some (b, cs, t)) (cs' : Array Value) : St w0 (putRow w b cs' t) (L.set i (b, cs', t)) := by
  rw [put_is_setRow (h.blk i hi)]
  exact h.setRow i hi cs'
theorem St.ne {w0 w : World} {L : List (Nat × Array Value × TypeId)} (h : St w0 w L) (i j : Nat) {b c : Nat} {cs cs' : Array Value} {t t' : TypeId} (hi : L[i]? = some (b, cs, t)) (hj : L[j]? = some (c, cs', t')) (hij : i ≠ j) : ¬ b = c := fun e => by
  have h1 : (L.map (·.1))[i]? = some b := by simp [hi]
  have h2 : (L.map (·.1))[j]? = some c := by simp [hj]
  subst e
  obtain ⟨l1, e1⟩ := List.getElem?_eq_some_iff.1 h1
  obtain ⟨l2, e2⟩ := List.getElem?_eq_some_iff.1 h2
  exact hij ((List.getElem_inj h.2.2).1 (e1.trans e2.symm))
theorem St.lt {w0 w : World} {L : List (Nat × Array Value × TypeId)} (h : St w0 w L) (i : Nat) {b : Nat} {cs : Array Value} {t : TypeId} (hi : L[i]? = some (b, cs, t)) : b < w.heap.size := blk_lt (h.blk i hi)
theorem St.low {w0 w : World} {L : List (Nat × Array Value × TypeId)} (h : St w0 w L) (i : Nat) {b : Nat} {cs : Array Value} {t : TypeId} (hi : L[i]? = some (b, cs, t)) : w0.heap.size ≤ b := (h.2.1 _ (List.mem_of_getElem? hi)).1
/-- One, two, three, four blocks of one's own, written in front. -/
theorem St.open1 {w0 w : World} {b : Nat} {cs : Array Value} {t : TypeId} (h : St w0 w [(b, cs, t)]) :
    ∃ x, w = putRow x b cs t ∧ St w0 x [(b, cs, t)] ∧ b < x.heap.size := ⟨w, put_self (h.blk 0 rfl), h, h.lt 0 rfl⟩
theorem St.open2 {w0 w : World} {b c : Nat} {cs cs' : Array Value} {t t' : TypeId} (h : St w0 w [(b, cs, t), (c, cs', t')]) :
    ∃ x, w = putRow (putRow x c cs' t') b cs t ∧ St w0 x [(b, cs, t), (c, cs', t')] ∧ b < x.heap.size ∧ c < x.heap.size ∧ ¬ b = c ∧ ¬ c = b :=
  ⟨w, by rw [← put_self (h.blk 1 rfl), ← put_self (h.blk 0 rfl)], h, h.lt 0 rfl, h.lt 1 rfl, h.ne 0 1 rfl rfl (by decide), h.ne 1 0 rfl rfl (by decide)⟩
theorem St.open3 {w0 w : World} {b c d : Nat} {cs cs' cs2 : Array Value} {t t' t2 : TypeId} (h : St w0 w [(b, cs, t), (c, cs', t'), (d, cs2, t2)]) :
    ∃ x, w = putRow (putRow (putRow x d cs2 t2) c cs' t') b cs t ∧ St w0 x [(b, cs, t), (c, cs', t'), (d, cs2, t2)] ∧ b < x.heap.size ∧ c < x.heap.size ∧ d < x.heap.size ∧ ¬ b = c ∧ ¬ c = b ∧ ¬ b = d ∧ ¬ d = b ∧ ¬ c = d ∧ ¬ d = c :=
  ⟨w, by rw [← put_self (h.blk 2 rfl), ← put_self (h.blk 1 rfl), ← put_self (h.blk 0 rfl)], h, h.lt 0 rfl, h.lt 1 rfl, h.lt 2 rfl, h.ne 0 1 rfl rfl (by decide), h.ne 1 0 rfl rfl (by decide), h.ne 0 2 rfl rfl (by decide), h.ne 2 0 rfl rfl (by decide), h.ne 1 2 rfl rfl (by decide), h.ne 2 1 rfl rfl (by decide)⟩
theorem St.put1 {w0 x : World} {b : Nat} {cs : Array Value} {t : TypeId} (h : St w0 x [(b, cs, t)]) (cs2 : Array Value) : St w0 (putRow x b cs2 t) [(b, cs2, t)] := h.put 0 rfl cs2
theorem St.put2 {w0 x : World} {b c : Nat} {cs cs' : Array Value} {t t' : TypeId} (h : St w0 x [(b, cs, t), (c, cs', t')]) (d d' : Array Value) : St w0 (putRow (putRow x c d' t') b d t) [(b, d, t), (c, d', t')] := (h.put 1 rfl d').put 0 rfl d
theorem St.put3 {w0 x : World} {b c e : Nat} {cs cs' cs2 : Array Value} {t t' t2 : TypeId} (h : St w0 x [(b, cs, t), (c, cs', t'), (e, cs2, t2)]) (d d' d2 : Array Value) : St w0 (putRow (putRow (putRow x e d2 t2) c d' t') b d t) [(b, d, t), (c, d', t'), (e, d2, t2)] := ((h.put 2 rfl d2).put 1 rfl d').put 0 rfl d
theorem St.put4 {w0 x : World} {b c e f : Nat} {cs cs' cs2 cs3 : Array Value} {t t' t2 t3 : TypeId} (h : St w0 x [(b, cs, t), (c, cs', t'), (e, cs2, t2), (f, cs3, t3)]) (d d' d2 d3 : Array Value) : St w0 (putRow (putRow (putRow (putRow x f d3 t3) e d2 t2) c d' t') b d t) [(b, d, t), (c, d', t'), (e, d2, t2), (f, d3, t3)] := (((h.put 3 rfl d3).put 2 rfl d2).put 1 rfl d').put 0 rfl d
theorem St.open4 {w0 w : World} {b c d e : Nat} {cs cs' cs2 cs3 : Array Value} {t t' t2 t3 : TypeId} (h : St w0 w [(b, cs, t), (c, cs', t'), (d, cs2, t2), (e, cs3, t3)]) :
    ∃ x, w = putRow (putRow (putRow (putRow x e cs3 t3) d cs2 t2) c cs' t') b cs t ∧ St w0 x [(b, cs, t), (c, cs', t'), (d, cs2, t2), (e, cs3, t3)] ∧ b < x.heap.size ∧ c < x.heap.size ∧ d < x.heap.size ∧ e < x.heap.size ∧ ¬ b = c ∧ ¬ c = b ∧ ¬ b = d ∧ ¬ d = b ∧ ¬ c = d ∧ ¬ d = c ∧ ¬ b = e ∧ ¬ e = b ∧ ¬ c = e ∧ ¬ e = c ∧ ¬ d = e ∧ ¬ e = d :=
  ⟨w, by rw [← put_self (h.blk 3 rfl), ← put_self (h.blk 2 rfl), ← put_self (h.blk 1 rfl), ← put_self (h.blk 0 rfl)], h, h.lt 0 rfl, h.lt 1 rfl, h.lt 2 rfl, h.lt 3 rfl, h.ne 0 1 rfl rfl (by decide), h.ne 1 0 rfl rfl (by decide), h.ne 0 2 rfl rfl (by decide), h.ne 2 0 rfl rfl (by decide), h.ne 1 2 rfl rfl (by decide), h.ne 2 1 rfl rfl (by decide), h.ne 0 3 rfl rfl (by decide), h.ne 3 0 rfl rfl (by decide), h.ne 1 3 rfl rfl (by decide), h.ne 3 1 rfl rfl (by decide), h.ne 2 3 rfl rfl (by decide), h.ne 3 2 rfl rfl (by decide)⟩
theorem St.erase {w0 w : World} {L : List (Nat × Array Value × TypeId)} (h : St w0 w L) (i : Nat) : St w0 w (L.eraseIdx i) :=
  ⟨h.1, fun x hx => h.2.1 x (List.mem_of_mem_eraseIdx hx), h.2.2.sublist ((List.eraseIdx_sublist L i).map _)⟩
theorem St.take {w0 w : World} {L : List (Nat × Array Value × TypeId)} (h : St w0 w L) (n : Nat) : St w0 w (L.take n) :=
  ⟨h.1, fun x hx => h.2.1 x (List.mem_of_mem_take hx), by rw [List.map_take]; exact h.2.2.sublist (List.take_sublist _ _)⟩
theorem St.mono {w0 w w1 : World} {L : List (Nat × Array Value × TypeId)} (h : St w w1 L) (hb : Below w0.heap.size w0 w) : St w0 w1 L :=
  ⟨hb.trans (h.1.mono hb.size), fun x hx => ⟨Nat.le_trans hb.size (h.2.1 x hx).1, (h.2.1 x hx).2⟩, h.2.2⟩
end Go.Proofs.Ytkfggilildiflaa

namespace Go.Proofs.Ytkfggilildiflaa
open Go.ChangeShapes Go.WideShapes Go.ChangeAt Go.RowKit
set_option maxRecDepth 100000 in
set_option maxHeartbeats 1000000 in
theorem putLittle_any (g off n c : Nat) (cur : Array Value) (t : TypeId) (x : Nat) (w : World) (hb : blk w g = some (.cells cur t (0, 0))) (hfit : off + n ≤ csz cur) (hn : n ≤ 1000000000) (_hc : c ≤ maxLen) :
    Calls Try.prog 58 #[.slice (some ⟨g, off, none⟩) n c, .int .u64 x] w fun e w' => e = .returned (.tuple #[]) ∧ w' = w.setRow g (ovw cur off (leB x n)) := by
  rw [← put_is_setRow hb]
  have H0 : Hid (w = putRow w g cur t) := hid (put_self hb)
  have hlt := blk_lt hb
  clear hb
  rw [csz_is] at hfit
  go_enter Try.func58, Try.ntmps58
  go_wp2_with fail
  go_loopw [1, 4, 7] (fun u1 u4 i wr => ∃ k : Nat, k ≤ n ∧ i = .int .i64 k ∧ u1 = .int .u64 ((x / 256 ^ k : Nat) : Int) ∧ wr = putRow w g (ovw cur off (leB x k)) t)
    (fun _ _ i _ => n - (intOf i).toNat)
  case atStart => exact ⟨0, by omega, rfl, by simp, by rw [leB_zero, ovw_nil]; exact H0.out⟩
  case round =>
    obtain ⟨k, hk, rfl, rfl, rfl⟩ := hrel
    by_cases hkn : k < n
    · have hl : (leB x k).length = k := leB_len x k
      obtain ⟨v0, hv0⟩ : ∃ v0, (ovw cur off (leB x k))[off + k]? = some v0 := ⟨_, Array.getElem?_eq_getElem (by rw [ovw_size (by omega)]; omega)⟩
      have hs := ovw_snoc (cur := cur) (o := off) (l := leB x k) (by omega) (UInt8.ofNat (x / 256 ^ k))
      rw [hl, ← leB_succ] at hs
      have hd : x / 256 ^ (k + 1) = x / 256 ^ k / 256 := by rw [Nat.pow_succ, Nat.div_div_eq_div_mul]
      have hbv : bv (UInt8.ofNat (x / 256 ^ k)) = .int .u8 (((x / 256 ^ k : Nat) : Int) % 256) := by simp [bv]
      rw [hbv] at hs
      have HS := hid hs; have HD := hid hd
      clear hl hs hd hbv
      generalize x / 256 ^ k = y at *
      go_wp2
      go_roundw
      case rel => exact ⟨k + 1, by omega, by go_num, by rw [HD.out]; rfl, by rw [← HS.out]⟩
      case measure => simp [intOf]; omega
    · obtain rfl : k = n := by omega
      go_wp2
      go_end0
      exact ⟨rfl, rfl⟩
set_option maxRecDepth 100000 in
set_option maxHeartbeats 1000000 in
theorem putBig_any (g off n c : Nat) (cur : Array Value) (t : TypeId) (x : Nat) (w : World) (hb : blk w g = some (.cells cur t (0, 0))) (hfit : off + n ≤ csz cur) (hn : n ≤ 1000000000) (_hc : c ≤ maxLen) :
    Calls Try.prog 43 #[.slice (some ⟨g, off, none⟩) n c, .int .u64 x] w fun e w' => e = .returned (.tuple #[]) ∧ w' = w.setRow g (ovw cur off (beB x n)) := by
  rw [← put_is_setRow hb]
  have H0 : Hid (w = putRow w g cur t) := hid (put_self hb)
  have hlt := blk_lt hb
  clear hb
  rw [csz_is] at hfit
  go_enter Try.func43, Try.ntmps43
  go_wp2_with fail
  go_loopw [1, 4] (fun u1 i wr => ∃ k : Nat, k ≤ n ∧ i = .int .i64 ((n : Int) - 1 - k) ∧ u1 = .int .u64 ((x / 256 ^ k : Nat) : Int) ∧ wr = putRow w g (ovw cur (off + n - k) (beB x k)) t)
    (fun _ i _ => (intOf i + 1).toNat)
  case atStart => exact ⟨0, by omega, by simp, by simp, by rw [beB_zero, ovw_nil]; exact H0.out⟩
  case round =>
    obtain ⟨k, hk, rfl, rfl, rfl⟩ := hrel
    by_cases hkn : k < n
    · have hl : (beB x k).length = k := beB_len x k
      obtain ⟨m, hm⟩ : ∃ m, n = k + 1 + m := ⟨n - (k + 1), by omega⟩
      have e1 : off + n - k = off + m + 1 := by omega
      have e2 : (n : Int) - 1 - k = (m : Int) := by omega
      have e3 : off + n - (k + 1) = off + m := by omega
      obtain ⟨v0, hv0⟩ : ∃ v0, (ovw cur (off + m + 1) (beB x k))[off + m]? = some v0 := ⟨_, Array.getElem?_eq_getElem (by rw [ovw_size (by omega)]; omega)⟩
      have hs := ovw_cons (cur := cur) (o := off + m) (l := beB x k) (by omega) (UInt8.ofNat (x / 256 ^ k))
      rw [← beB_succ] at hs
      have hd : x / 256 ^ (k + 1) = x / 256 ^ k / 256 := by rw [Nat.pow_succ, Nat.div_div_eq_div_mul]
      have hbv : bv (UInt8.ofNat (x / 256 ^ k)) = .int .u8 (((x / 256 ^ k : Nat) : Int) % 256) := by simp [bv]
      rw [hbv] at hs
      rw [e1, e2]
      have hmn : (m : Int) < (n : Int) := by omega
      have HS := hid hs; have HD := hid hd; have HM := hid hm; have H3 := hid e3
      clear hl hs hd hbv hm e1 e2 e3 H0
      generalize x / 256 ^ k = y at *
      go_wp2
      go_roundw
      case rel => exact ⟨k + 1, by omega, by rw [HM.out]; congr 1; omega, by rw [HD.out]; rfl, by rw [H3.out, ← HS.out]⟩
      case measure => simp [intOf]
    · obtain rfl : k = n := by omega
      rw [show (k : Int) - 1 - k = -1 by omega, show off + k - k = off by omega]
      go_wp2
      go_end0
      exact ⟨rfl, rfl⟩
theorem or_byte (y c : Nat) (hc : c < 256) : y * 256 ||| c = y * 256 + c := by
  have := Nat.two_pow_add_eq_or_of_lt (i := 8) (b := c) (by omega) y
  rw [Nat.mul_comm] at this
  exact this.symm
theorem BytesAt.cell {w : World} {p : Option Addr} {n c : Nat} {l : List UInt8} (h : BytesAt w (.slice p n c) l) {i : Nat} {x : UInt8} (hi : l[i]? = some x) : ∃ b o, p = some ⟨b, o, none⟩ ∧ w.cell? ⟨b, o + i, none⟩ = some (.int .u8 (x.toNat : Int)) ∧ b < w.heap.size := by
  obtain ⟨p', c', hv, h1, _, h3⟩ := h
  simp only [Value.slice.injEq] at hv
  obtain ⟨rfl, _, _⟩ := hv
  obtain ⟨b, o, cs, t, e, hp, hb, hx⟩ := h3 (by intro h; subst h; simp at hi)
  exact ⟨b, o, hp, by rw [cell_of_row w b (o + i) cs t e hb, hx i x hi]; rfl, blk_lt hb⟩
theorem BytesAt.slice {w : World} {v : Value} {l : List UInt8} (h : BytesAt w v l) : ∃ p c, v = .slice p l.length c ∧ l.length ≤ c := by
  obtain ⟨p, c, hv, h1, _, _⟩ := h
  exact ⟨p, c, hv, h1⟩
theorem or_u64 (y d : Nat) (hy : y < 72057594037927936) (hd : d < 256) : bits .or .u64 ((y : Int) * 256) (d : Int) = ((y * 256 + d : Nat) : Int) := by
  have h := u64_or_nat (y * 256) d (by omega) (by omega)
  rw [or_byte y d hd] at h
  rw [← h]
  simp
theorem leN_drop {l : List UInt8} {i : Nat} {x : UInt8} (hi : l[i]? = some x) : leN (l.drop i) = leN (l.drop (i + 1)) * 256 + x.toNat := by
  obtain ⟨h, rfl⟩ := List.getElem?_eq_some_iff.1 hi
  rw [List.drop_eq_getElem_cons h, leN]
  omega
theorem beN_take {l : List UInt8} {i : Nat} {x : UInt8} (hi : l[i]? = some x) : beN (l.take (i + 1)) = beN (l.take i) * 256 + x.toNat := by
  obtain ⟨h, rfl⟩ := List.getElem?_eq_some_iff.1 hi
  rw [List.take_succ_eq_append_getElem h, beN_snoc]
  omega
set_option maxRecDepth 100000 in
set_option maxHeartbeats 1000000 in
theorem little_any (v : Value) (l : List UInt8) (w : World) (hv : BytesAt w v l) (hl : l.length ≤ 8) :
    Calls Try.prog 84 #[v] w fun e w' => e = .returned (.int .u64 (leN l)) ∧ w = w' := by
  obtain ⟨p, c, rfl, hc⟩ := hv.slice
  have HV := hid hv
  have hlt : ∀ i, leN (l.drop i) < 256 ^ (l.length - i) := fun i => by have := leN_lt (l.drop i); rwa [List.length_drop] at this
  have HL := hid hlt
  have H0 := hid (show leN (l.drop l.length) = 0 by simp [leN])
  obtain ⟨n, hn⟩ : ∃ n, n = l.length := ⟨_, rfl⟩
  rw [← hn] at hl HL H0 HV hc ⊢
  have HN := hid hn
  clear hv hlt hn
  go_enter Try.func84, Try.ntmps84
  go_wp2_with fail
  go_loop [3, 4] (fun u3 i => ∃ k : Nat, k ≤ n ∧ i = .int .i64 ((k : Int) - 1) ∧ u3 = .int .u64 ((leN (l.drop k) : Nat) : Int)) (fun _ i => (intOf i + 1).toNat)
  case atStart => exact ⟨n, by omega, by simp, by rw [H0.out]; rfl⟩
  case round =>
    obtain ⟨k, hk, rfl, rfl⟩ := hrel
    by_cases hk0 : 0 < k
    · obtain ⟨m, rfl⟩ : ∃ m, k = m + 1 := ⟨k - 1, by omega⟩
      have hx : l[m]? = some (l.getD m 0) := get_some (by rw [← HN.out]; omega)
      obtain ⟨b, o, rfl, hcell, _⟩ := HV.out.cell hx
      have hs := hid (leN_drop hx)
      have h1 := HL.out (m + 1)
      have hb := (l.getD m 0).toNat_lt
      have hp : 256 ^ (n - (m + 1)) ≤ 256 ^ 7 := Nat.pow_le_pow_right (by omega) (by omega)
      have h2 : leN (l.drop (m + 1)) < 72057594037927936 := by omega
      have ho := hid (or_u64 (leN (l.drop (m + 1))) _ h2 hb)
      clear hx h1 hp
      generalize (l.getD m 0).toNat = d at *
      generalize leN (l.drop (m + 1)) = y at *
      rw [show ((m + 1 : Nat) : Int) - 1 = (m : Int) by omega]
      have hmn : (m : Int) < (n : Int) := by omega
      go_wp2
      go_round
      case rel => exact ⟨m, by omega, by simp, by rw [hs.out, ho.out]⟩
      case measure => simp [intOf]
    · obtain rfl : k = 0 := by omega
      go_wp2
      go_ret
      exact ⟨rfl, rfl⟩
set_option maxRecDepth 100000 in
set_option maxHeartbeats 1000000 in
theorem big_any (v : Value) (l : List UInt8) (w : World) (hv : BytesAt w v l) (hl : l.length ≤ 8) :
    Calls Try.prog 44 #[v] w fun e w' => e = .returned (.int .u64 (beN l)) ∧ w = w' := by
  obtain ⟨p, c, rfl, hc⟩ := hv.slice
  have HV := hid hv
  have hlt : ∀ i, i < l.length → beN (l.take i) < 256 ^ i := fun i hi => by have := beN_lt (l.take i); rwa [List.length_take, Nat.min_eq_left (by omega)] at this
  have HL := hid hlt
  have H0 := hid (show beN (l.take 0) = 0 by rw [List.take_zero, beN_nil])
  have HE := hid (show beN (l.take l.length) = beN l by rw [List.take_length])
  obtain ⟨n, hn⟩ : ∃ n, n = l.length := ⟨_, rfl⟩
  rw [← hn] at hl HL HE HV hc ⊢
  have HN := hid hn
  clear hv hlt hn
  go_enter Try.func44, Try.ntmps44
  go_wp2_with fail
  go_loop [3, 5, 8] (fun u3 u5 i => ∃ k : Nat, k ≤ n ∧ i = .int .i64 (k : Int) ∧ u3 = .int .u64 ((beN (l.take k) : Nat) : Int)) (fun _ _ i => n - (intOf i).toNat)
  case atStart => exact ⟨0, by omega, by simp, by rw [H0.out]; rfl⟩
  case round =>
    obtain ⟨m, hk, rfl, rfl⟩ := hrel
    by_cases hk0 : m < n
    · have hx : l[m]? = some (l.getD m 0) := get_some (by rw [← HN.out]; omega)
      obtain ⟨b, o, rfl, hcell, _⟩ := HV.out.cell hx
      have hs := hid (beN_take hx)
      have h1 := HL.out m hk0
      have hb := (l.getD m 0).toNat_lt
      have hp : 256 ^ m ≤ 256 ^ 7 := Nat.pow_le_pow_right (by omega) (by omega)
      have h2 : beN (l.take m) < 72057594037927936 := by omega
      have ho := hid (or_u64 (beN (l.take m)) _ h2 hb)
      clear hx h1 hp
      generalize (l.getD m 0).toNat = d at *
      generalize beN (l.take m) = y at *
      go_wp2
      go_round
      case rel => exact ⟨m + 1, by omega, by go_num, by rw [hs.out, ho.out]⟩
      case measure => simp [intOf]; omega
    · obtain rfl : m = n := by omega
      go_wp2
      go_ret
      exact ⟨by rw [← HE.out]; rfl, rfl⟩
end Go.Proofs.Ytkfggilildiflaa

namespace Go.Proofs.Ytkfggilildiflaa
open Go.ChangeShapes Go.WideShapes Go.ChangeAt Go.RowKit
theorem leN_nil : leN [] = 0 := by unfold leN; rfl
theorem leN_cons (b : UInt8) (l : List UInt8) : leN (b :: l) = b.toNat + 256 * leN l := by rw [leN]
theorem leN_append : ∀ (a b : List UInt8), leN (a ++ b) = leN a + 256 ^ a.length * leN b
  | [], b => by simp [leN_nil]
  | x :: a, b => by
    rw [List.cons_append, leN_cons, leN_cons, leN_append a b, List.length_cons, Nat.pow_succ, Nat.mul_add, Nat.mul_comm (256 ^ a.length) 256, Nat.mul_assoc]
    omega
theorem leB_append (a b : Nat) : ∀ (j k : Nat), a < 256 ^ j → leB (a + 256 ^ j * b) (j + k) = leB a j ++ leB b k
  | 0, k, h => by
    simp only [Nat.pow_zero, Nat.lt_one_iff] at h
    subst h
    simp [leB_zero]
  | j + 1, k, h => by
    have h1 : a / 256 < 256 ^ j := by
      rw [Nat.div_lt_iff_lt_mul (by omega)]
      rwa [Nat.pow_succ] at h
    have ih := leB_append (a / 256) b j k h1
    rw [show j + 1 + k = (j + k) + 1 by omega, leB_cons, leB_cons, List.cons_append]
    have e1 : (a + 256 ^ (j + 1) * b) / 256 = a / 256 + 256 ^ j * b := by
      rw [Nat.pow_succ, Nat.mul_comm (256 ^ j) 256, Nat.mul_assoc, Nat.add_mul_div_left _ _ (by omega)]
    rw [e1, ih]
    congr 1
    apply UInt8.toNat_inj.1
    rw [UInt8.toNat_ofNat', UInt8.toNat_ofNat', Nat.pow_succ, Nat.mul_comm (256 ^ j) 256, Nat.mul_assoc]
    omega
/-- A block's number doubled. -/
def dblN (n : Nat) : Nat := (2 * n % 2 ^ 128) ^^^ (if 2 ^ 127 ≤ n then 0x87 else 0)
def dblB (k : List UInt8) : List UInt8 := leB (dblN (leN k)) 16
theorem dblB_len (k : List UInt8) : (dblB k).length = 16 := leB_len _ _
theorem xor_low {a c : Nat} (b : Nat) (hc : c < 2 ^ 64) (ha : a < 2 ^ 64) : (a + 2 ^ 64 * b) ^^^ c = (a ^^^ c) + 2 ^ 64 * b := by
  have hx : a ^^^ c < 2 ^ 64 := Nat.xor_lt_two_pow ha hc
  have h1 : ((a + 2 ^ 64 * b) ^^^ c) % 2 ^ 64 = a ^^^ c := by
    rw [Nat.xor_mod_two_pow, Nat.add_mul_mod_self_left, Nat.mod_eq_of_lt ha, Nat.mod_eq_of_lt hc]
  have h2 : ((a + 2 ^ 64 * b) ^^^ c) / 2 ^ 64 = b := by
    rw [Nat.xor_div_two_pow, Nat.add_mul_div_left _ _ (by omega), Nat.div_eq_of_lt ha, Nat.div_eq_of_lt hc]
    simp
  have := Nat.div_add_mod ((a + 2 ^ 64 * b) ^^^ c) (2 ^ 64)
  rw [h1, h2] at this
  omega
theorem or_one {a b : Nat} (hb : b < 2) : 2 * a ||| b = 2 * a + b := by
  have := Nat.two_pow_add_eq_or_of_lt (i := 1) (b := b) (by omega) a
  rw [Nat.pow_one] at this
  exact this.symm
theorem dbl_halves {lo hi : Nat} (h1 : lo < 2 ^ 64) (h2 : hi < 2 ^ 64) :
    dblN (lo + 2 ^ 64 * hi) = ((2 * lo % 2 ^ 64) ^^^ (0x87 * (hi / 2 ^ 63))) + 2 ^ 64 * ((2 * hi % 2 ^ 64) ||| (lo / 2 ^ 63)) := by
  have e0 : 2 * hi % 2 ^ 64 = 2 * (hi % 2 ^ 63) := by omega
  rw [e0, or_one (by omega)]
  have e1 : 2 * (lo + 2 ^ 64 * hi) % 2 ^ 128 = 2 * lo % 2 ^ 64 + 2 ^ 64 * (2 * (hi % 2 ^ 63) + lo / 2 ^ 63) := by omega
  have e2 : (if 2 ^ 127 ≤ lo + 2 ^ 64 * hi then 0x87 else 0) = 0x87 * (hi / 2 ^ 63) := by
    by_cases h : 2 ^ 127 ≤ lo + 2 ^ 64 * hi
    · rw [if_pos h]; omega
    · rw [if_neg h]; omega
  unfold dblN
  rw [e1, e2]
  exact xor_low _ (by omega) (by omega)
theorem dblB_halves {k : List UInt8} (hk : k.length = 16) :
    dblB k = leB ((2 * leN (k.take 8) % 2 ^ 64) ^^^ (0x87 * (leN (k.drop 8) / 2 ^ 63))) 8 ++ leB ((2 * leN (k.drop 8) % 2 ^ 64) ||| (leN (k.take 8) / 2 ^ 63)) 8 := by
  have h1 := leN_lt (k.take 8)
  have h2 := leN_lt (k.drop 8)
  have l1 : (k.take 8).length = 8 := by simp; omega
  have l2 : (k.drop 8).length = 8 := by simp; omega
  rw [l1] at h1
  rw [l2] at h2
  have e : leN k = leN (k.take 8) + 2 ^ 64 * leN (k.drop 8) := by
    have := leN_append (k.take 8) (k.drop 8)
    rw [List.take_append_drop, l1] at this
    exact this
  unfold dblB
  rw [e, dbl_halves h1 h2]
  have h3 : (2 * leN (k.take 8) % 2 ^ 64) ^^^ (0x87 * (leN (k.drop 8) / 2 ^ 63)) < 2 ^ 64 := Nat.xor_lt_two_pow (by omega) (by omega)
  exact leB_append _ _ 8 8 h3
attribute [irreducible] dblN dblB
end Go.Proofs.Ytkfggilildiflaa

namespace Go.Proofs.Ytkfggilildiflaa
open Go.ChangeShapes Go.WideShapes Go.ChangeAt Go.RowKit
theorem below_of_same {P : Program} {f : FuncId} {args : Array Value} {v : Value} {w : World} (h : Calls P f args w fun e w' => e = .returned v ∧ w = w') : Calls P f args w fun e w' => e = .returned v ∧ Below w.heap.size w w' :=
  h.mono fun _ _ ⟨he, hw⟩ => ⟨he, hw ▸ Below.refl _ _⟩
theorem bytesAt_blk {w : World} {g o n c : Nat} {cs : Array Value} {t : TypeId} {fr : Nat × Nat} {l : List UInt8} (hg : blk w g = some (.cells cs t fr)) (hn : l.length = n) (hc : n ≤ c) (h : ∀ i x, l[i]? = some x → cs[o + i]? = some (bv x)) : BytesAt w (.slice (some ⟨g, o, none⟩) n c) l := by
  subst hn
  exact ⟨_, c, rfl, hc, (fun h => by cases h), fun _ => ⟨g, o, cs, t, fr, rfl, hg, h⟩⟩
theorem bytesAt_bvs {w : World} {g o n c : Nat} {L : List UInt8} {t : TypeId} {fr : Nat × Nat} (hg : blk w g = some (.cells (bvs L) t fr)) (hL : o + n ≤ L.length) (hc : n ≤ c) : BytesAt w (.slice (some ⟨g, o, none⟩) n c) ((L.drop o).take n) := by
  refine bytesAt_blk hg (by simp; omega) hc fun i x hi => ?_
  simp only [List.getElem?_take, List.getElem?_drop] at hi
  split at hi
  · exact bvs_at hi
  · cases hi
set_option maxRecDepth 100000 in
set_option maxHeartbeats 1000000 in
theorem halves_any (k : List UInt8) (hk : k.length = 16) (w : World) :
    Calls Try.prog 75 #[.agg (bvs k)] w fun e w' => e = .returned (.tuple #[.int .u64 (leN (k.take 8)), .int .u64 (leN (k.drop 8))]) ∧ Below w.heap.size w w' := by
  have s1 : csz (bvs k) = 16 := by rw [csz_bvs, hk]
  have H1 := hid (fun w' g (hg : blk w' g = some (.cells (bvs k) 63 (0, 0))) => below_of_same (little_any (.slice (some ⟨g, 0, none⟩) 8 16) (k.take 8) w' (by have := bytesAt_bvs (o := 0) (n := 8) (c := 16) hg (by omega) (by omega); rwa [List.drop_zero] at this) (by simp; omega)))
  have H2 := hid (fun w' g (hg : blk w' g = some (.cells (bvs k) 63 (0, 0))) => below_of_same (little_any (.slice (some ⟨g, 8, none⟩) 8 8) (k.drop 8) w' (by have := bytesAt_bvs (o := 8) (n := 8) (c := 8) hg (by omega) (by omega); rwa [List.take_of_length_le (by simp; omega)] at this) (by simp; omega)))
  clear hk
  go_enter Try.func75, Try.ntmps75
  go_wp2_with fail
  refine region_cls (by kernel_rfl) (by kernel_rfl) ?_
  repeat (first | (refine BigFrame.wpQuiet_skip rfl ?_; simp only [Act.put, List.setIfInBounds_toArray, List.set_cons_zero, List.set_cons_succ]) | (refine BigFrame.wpQuiet_want rfl (fun K hK => ?_); apply Exists.intro; refine ⟨fun w' hw' => ?_, hK _ ?_⟩; (focus (have zw := hw'; obtain ⟨zg, rfl⟩ := grow_of hw'; go_simp; (try (go_bits; go_simp)); first | done | rfl | (first | ((with_reducible refine (H1.out _ _ ?_).mono fun e w2 h2 => ⟨h2.1, zw.step h2.2⟩); go_simp) | ((with_reducible refine (H2.out _ _ ?_).mono fun e w2 h2 => ⟨h2.1, zw.step h2.2⟩); go_simp)))); clear hK K; simp only [Act.put, List.setIfInBounds_toArray, List.set_cons_zero, List.set_cons_succ]))
  refine wpQuiet_nil ?_
  intro wq hcq
  obtain ⟨gq, rfl⟩ := grow_of hcq
  clear hcq
  go_wp2
  go_ret2
  exact ⟨rfl, (by repeat (first | (with_reducible exact Below.refl _ _) | (with_reducible assumption) | (with_reducible exact grow_below _ _) | (with_reducible exact St.below (by assumption)) | (with_reducible refine below_grow ?_ _) | (with_reducible refine Below.alloc ?_ (by first | omega | (simp; done) | (simp [go_sem]; done) | (simp [go_sem]; omega)) _) | (with_reducible exact (St.put1 (by assumption) _).below) | (with_reducible exact (St.put2 (by assumption) _ _).below) | (with_reducible exact (St.put3 (by assumption) _ _ _).below) | (with_reducible exact (St.put4 (by assumption) _ _ _ _).below) | (with_reducible refine below_put ?_ (by first | omega | (simp [go_sem]; omega)) _ _) | (with_reducible refine Below.drew ?_) | (with_reducible refine Below.setCell ?_ (by first | omega | (simp [go_sem]; omega)) _) | (with_reducible refine below_setRow' ?_ (by first | omega | (simp [go_sem]; omega)) _) | (with_reducible refine below_drewN' ?_ _)))⟩
set_option maxRecDepth 100000 in
set_option maxHeartbeats 1000000 in
theorem halvesBlock_any (lo hi : Nat) (w : World) :
    Calls Try.prog 76 #[.int .u64 lo, .int .u64 hi] w fun e w' => e = .returned (.agg (bvs (leB lo 8 ++ leB hi 8))) ∧ Below w.heap.size w w' := by
  have s1 : csz (bvs (zs 16)) = 16 := by rw [csz_bvs, zs_len]
  have z := zs16
  have E1 : ovw (ovw (bvs (zs 16)) 0 (leB lo 8)) 8 (leB hi 8) = bvs (leB lo 8 ++ leB hi 8) := by
    have l1 := leB_len lo 8
    have l2 := leB_len hi 8
    rw [ovw_bvs, ovw_bvs, l1, l2]
    generalize leB lo 8 = x at *
    generalize leB hi 8 = y at *
    rw [List.take_zero, List.nil_append, ← l1, List.take_left, Nat.zero_add, ← List.drop_drop, List.drop_left, List.drop_drop, List.drop_of_length_le (by simp [zs_len]; omega), List.append_nil]
  have E := hid E1
  have s2 : csz (ovw (bvs (zs 16)) 0 (leB lo 8)) = 16 := by rw [csz_is, ovw_size (by rw [bvs_size, zs_len, leB_len]; omega), bvs_size, zs_len]
  have s3 : csz (bvs (leB lo 8 ++ leB hi 8)) = 16 := by rw [csz_bvs, List.length_append, leB_len, leB_len]
  clear E1
  go_enter Try.func76, Try.ntmps76
  go_wp2_with fail
  (with_reducible refine (putLittle_any _ _ _ _ (bvs (zs 16)) _ _ _ (by go_simp; first | done | rfl | exact ⟨rfl, rfl⟩) (by rw [s1]; omega) (by omega) (by unfold maxLen; omega)).mono ?_)
  rintro e w1 ⟨rfl, rfl⟩
  go_wp2_with fail
  (with_reducible refine (putLittle_any _ _ _ _ (ovw (bvs (zs 16)) 0 (leB lo 8)) _ _ _ (by go_simp; first | done | rfl | exact ⟨rfl, rfl⟩) (by rw [s2]; omega) (by omega) (by unfold maxLen; omega)).mono ?_)
  rintro e w1 ⟨rfl, rfl⟩
  rw [E.out]
  go_wp2
  exact post_cell (n := 16) Try.results76 (by kernel_rfl) (.inl rfl) _ _ _ _ rfl rfl (by go_simp; first | done | rfl | exact ⟨rfl, rfl⟩) (by first | (rw [← csz_is]; assumption) | rfl) ⟨rfl, (by repeat (first | (with_reducible exact Below.refl _ _) | (with_reducible assumption) | (with_reducible exact grow_below _ _) | (with_reducible exact St.below (by assumption)) | (with_reducible refine below_grow ?_ _) | (with_reducible refine Below.alloc ?_ (by first | omega | (simp; done) | (simp [go_sem]; done) | (simp [go_sem]; omega)) _) | (with_reducible exact (St.put1 (by assumption) _).below) | (with_reducible exact (St.put2 (by assumption) _ _).below) | (with_reducible exact (St.put3 (by assumption) _ _ _).below) | (with_reducible exact (St.put4 (by assumption) _ _ _ _).below) | (with_reducible refine below_put ?_ (by first | omega | (simp [go_sem]; omega)) _ _) | (with_reducible refine Below.drew ?_) | (with_reducible refine Below.setCell ?_ (by first | omega | (simp [go_sem]; omega)) _) | (with_reducible refine below_setRow' ?_ (by first | omega | (simp [go_sem]; omega)) _) | (with_reducible refine below_drewN' ?_ _)))⟩
theorem wrap_two (x : Nat) : IntKind.u64.wrap ((x : Int) * 2) = ((2 * x % 2 ^ 64 : Nat) : Int) := by rw [IntKind.wrap_u64]; omega
theorem dbl_lo (lo hi : Nat) (_h1 : lo < 18446744073709551616) (h2 : hi < 18446744073709551616) :
    bits .xor .u64 (IntKind.u64.wrap ((lo : Int) * 2)) (135 * ((hi : Int) / 9223372036854775808)) = ((2 * lo % 2 ^ 64 ^^^ 135 * (hi / 2 ^ 63) : Nat) : Int) := by
  have e : (135 : Int) * ((hi : Int) / 9223372036854775808) = ((135 * (hi / 2 ^ 63) : Nat) : Int) := by simp
  rw [wrap_two, e, u64_xor_nat _ _ (by omega) (by omega)]
theorem dbl_hi (lo hi : Nat) (h1 : lo < 18446744073709551616) (_h2 : hi < 18446744073709551616) :
    bits .or .u64 (IntKind.u64.wrap ((hi : Int) * 2)) ((lo : Int) / 9223372036854775808) = ((2 * hi % 2 ^ 64 ||| lo / 2 ^ 63 : Nat) : Int) := by
  have e : ((lo : Int) / 9223372036854775808) = ((lo / 2 ^ 63 : Nat) : Int) := by simp
  rw [wrap_two, e, u64_or_nat _ _ (by omega) (by omega)]
set_option maxRecDepth 100000 in
set_option maxHeartbeats 1000000 in
theorem double_any (k : List UInt8) (hk : k.length = 16) (w : World) :
    Calls Try.prog 61 #[.agg (bvs k)] w fun e w' => e = .returned (.agg (bvs (dblB k))) ∧ Below w.heap.size w w' := by
  have s1 : csz (bvs (zs 16)) = 16 := by rw [csz_bvs, zs_len]
  have s2 : csz (bvs k) = 16 := by rw [csz_bvs, hk]
  have s3 : csz (bvs (dblB k)) = 16 := by rw [csz_bvs, dblB_len]
  have z := zs16
  have h1 := leN_lt (k.take 8)
  have h2 := leN_lt (k.drop 8)
  rw [show (k.take 8).length = 8 by simp; omega] at h1
  rw [show (k.drop 8).length = 8 by simp; omega] at h2
  have HH := hid (halves_any k hk)
  have HD := hid (dblB_halves hk)
  clear hk
  generalize leN (k.take 8) = lo at *
  generalize leN (k.drop 8) = hi at *
  have E1 := hid (dbl_lo lo hi (by omega) (by omega))
  have E2 := hid (dbl_hi lo hi (by omega) (by omega))
  have g1 : lo < 18446744073709551616 := by omega
  have g2 : hi < 18446744073709551616 := by omega
  clear h1 h2
  go_enter Try.func61, Try.ntmps61
  go_wp2_with fail
  (with_reducible refine (HH.out _).mono ?_)
  rintro e wg ⟨rfl, hb⟩
  obtain ⟨g1, rfl⟩ := grow_of hb
  clear hb
  go_wp2_with fail
  rw [E1.out, E2.out]
  (with_reducible refine (halvesBlock_any _ _ _).mono ?_)
  rintro e wg ⟨rfl, hb⟩
  obtain ⟨g2, rfl⟩ := grow_of hb
  clear hb
  rw [← HD.out]
  go_wp2
  exact post_cell (n := 16) Try.results61 (by kernel_rfl) (.inl rfl) _ _ _ _ rfl rfl (by go_simp; first | done | rfl | exact ⟨rfl, rfl⟩) (by first | (rw [← csz_is]; assumption) | rfl) ⟨rfl, (by repeat (first | (with_reducible exact Below.refl _ _) | (with_reducible assumption) | (with_reducible exact grow_below _ _) | (with_reducible exact St.below (by assumption)) | (with_reducible refine below_grow ?_ _) | (with_reducible refine Below.alloc ?_ (by first | omega | (simp; done) | (simp [go_sem]; done) | (simp [go_sem]; omega)) _) | (with_reducible exact (St.put1 (by assumption) _).below) | (with_reducible exact (St.put2 (by assumption) _ _).below) | (with_reducible exact (St.put3 (by assumption) _ _ _).below) | (with_reducible exact (St.put4 (by assumption) _ _ _ _).below) | (with_reducible refine below_put ?_ (by first | omega | (simp [go_sem]; omega)) _ _) | (with_reducible refine Below.drew ?_) | (with_reducible refine Below.setCell ?_ (by first | omega | (simp [go_sem]; omega)) _) | (with_reducible refine below_setRow' ?_ (by first | omega | (simp [go_sem]; omega)) _) | (with_reducible refine below_drewN' ?_ _)))⟩
end Go.Proofs.Ytkfggilildiflaa

namespace Go.Proofs.Ytkfggilildiflaa
open Go.ChangeShapes Go.WideShapes Go.ChangeAt Go.RowKit
/-- So many bits as cells. -/
def bitsC (n P : Nat) : Array Value := ((List.range n).map fun j => Value.int .i64 (tb P j)).toArray
theorem bitsC_size (n P : Nat) : csz (bitsC n P) = n := by simp [csz, bitsC]
theorem bitsC_any (n P j : Nat) : (bitsC n P)[j]? = if j < n then some (.int .i64 (tb P j)) else none := by
  by_cases h : j < n <;> simp [bitsC, h]
theorem bitsC_get {n j : Nat} (P : Nat) (hj : j < n) : (bitsC n P)[j]? = some (.int .i64 (tb P j)) := by rw [bitsC_any, if_pos hj]
theorem bitsC_put {n : Nat} (P Q j : Nat) (x : Int) (hx : x = tb Q j) (h : ∀ k, k < n → k ≠ j → tb P k = tb Q k) : (bitsC n P).setIfInBounds j (.int .i64 x) = bitsC n Q := by
  apply Array.ext_getElem?
  intro k
  rw [Array.getElem?_setIfInBounds, bitsC_any, bitsC_any]
  by_cases hj : j = k
  · subst hj
    rw [if_pos rfl, hx, show (bitsC n P).size = n by simp [bitsC]]
  · rw [if_neg hj]
    by_cases hk : k < n
    · rw [if_pos hk, if_pos hk, h k hk (fun e => hj e.symm)]
    · rw [if_neg hk, if_neg hk]
theorem bitsC_flip {n : Nat} (P j : Nat) : (bitsC n P).setIfInBounds j (.int .i64 ((1 : Int) - (tb P j : Int))) = bitsC n (P ^^^ (1 <<< j)) := bitsC_put P _ j _ (tb_flip P j) (fun k _ h => tb_flip' P j k h)
theorem tb_two_succ (x j : Nat) : tb (2 * x) (j + 1) = tb x j := by
  unfold tb
  rw [Nat.pow_succ, Nat.mul_comm (2 ^ j) 2, Nat.mul_div_mul_left _ _ (by decide)]
theorem tb_two_zero (x : Nat) : tb (2 * x) 0 = 0 := by unfold tb; simp
theorem tb_mod (x i j : Nat) : tb (x % 2 ^ i) j = if j < i then tb x j else 0 := by
  rw [tb_is, tb_is, Nat.testBit_mod_two_pow]
  by_cases h : j < i <;> simp [h]
theorem dblP_step {n : Nat} (N i : Nat) : (bitsC n (2 * (N % 2 ^ i))).setIfInBounds (i + 1) (.int .i64 (tb N i)) = bitsC n (2 * (N % 2 ^ (i + 1))) := by
  refine bitsC_put _ _ (i + 1) _ ?_ (fun k _ hk => ?_)
  · rw [tb_two_succ, tb_mod, if_pos (by omega)]
  · cases k with
    | zero => rw [tb_two_zero, tb_two_zero]
    | succ k =>
      rw [tb_two_succ, tb_two_succ, tb_mod, tb_mod]
      by_cases h : k < i
      · rw [if_pos h, if_pos (by omega)]
      · rw [if_neg h, if_neg (by omega)]
theorem tb_leN : ∀ (l : List UInt8) (i : Nat), tb (leN l) i = tb (l.getD (i / 8) 0).toNat (i % 8)
  | [], i => by simp [leN_nil, tb]
  | b :: l, i => by
    have hb := b.toNat_lt
    rw [leN_cons]
    by_cases h : i < 8
    · rw [show i / 8 = 0 by omega, show i % 8 = i by omega, List.getD_cons_zero]
      have e := tb_mod (b.toNat + 256 * leN l) 8 i
      rw [if_pos h] at e
      rw [← e]
      congr 1
      omega
    · obtain ⟨i', rfl⟩ : ∃ i', i = i' + 8 := ⟨i - 8, by omega⟩
      rw [show (i' + 8) / 8 = i' / 8 + 1 by omega, show (i' + 8) % 8 = i' % 8 by omega, List.getD_cons_succ, ← tb_leN l i']
      unfold tb
      rw [Nat.pow_add, Nat.mul_comm (2 ^ i') (2 ^ 8), ← Nat.div_div_eq_div_mul]
      congr 2
      omega
/-- The bytes while they are put together, from the highest bit on. -/
def outQ (M i q : Nat) : UInt8 := UInt8.ofNat (M / 2 ^ (max i (8 * q)) % 2 ^ (8 * (q + 1) - max i (8 * q)))
def outS (M i : Nat) : List UInt8 := (List.range 16).map (outQ M i)
theorem outS_len (M i : Nat) : (outS M i).length = 16 := by simp [outS]
theorem outS_get (M i : Nat) {q : Nat} (hq : q < 16) : (outS M i).getD q 0 = outQ M i q := by
  simp [outS, List.getD_eq_getElem?_getD, hq]
theorem outS_start (M : Nat) : outS M 128 = zs 16 := by
  apply List.ext_getElem?
  intro q
  by_cases hq : q < 16
  · rw [show zs 16 = (List.range 16).map (fun _ => (0 : UInt8)) by decide +kernel]
    simp only [outS, List.getElem?_map, List.getElem?_range hq, Option.map_some]
    unfold outQ
    rw [show 8 * (q + 1) - max 128 (8 * q) = 0 by omega, Nat.pow_zero, Nat.mod_one]
    rfl
  · rw [List.getElem?_eq_none (by rw [outS_len]; omega), List.getElem?_eq_none (by rw [zs_len]; omega)]
theorem outS_step (M i : Nat) (hi : i < 128) : (outS M (i + 1)).set (i / 8) (outQ M (i + 1) (i / 8) * 2 + UInt8.ofNat (tb M i)) = outS M i := by
  apply List.ext_getElem?
  intro q
  rw [List.getElem?_set, outS_len]
  by_cases hq : q < 16
  · simp only [outS, List.getElem?_map, List.getElem?_range hq, Option.map_some]
    by_cases e : i / 8 = q
    · subst e
      rw [if_pos rfl, if_pos (by omega)]
      congr 1
      unfold outQ tb
      have m1 : max i (8 * (i / 8)) = i := by omega
      have m2 : max (i + 1) (8 * (i / 8)) = i + 1 := by omega
      rw [m1, m2, Nat.pow_succ, ← Nat.div_div_eq_div_mul]
      obtain ⟨r, hr⟩ : ∃ r, 8 * (i / 8 + 1) - (i + 1) = r := ⟨_, rfl⟩
      rw [hr, show 8 * (i / 8 + 1) - i = r + 1 by omega]
      have hr8 : r ≤ 7 := by omega
      generalize M / 2 ^ i = x
      apply UInt8.toNat_inj.1
      rw [UInt8.toNat_add, UInt8.toNat_mul, UInt8.toNat_ofNat', UInt8.toNat_ofNat', UInt8.toNat_ofNat', show (2 : Nat) ^ (r + 1) = 2 * 2 ^ r by rw [Nat.pow_succ, Nat.mul_comm], Nat.mod_mul]
      have h1 : x / 2 % 2 ^ r < 2 ^ r := Nat.mod_lt _ (Nat.two_pow_pos r)
      have h2 : 2 ^ r ≤ 2 ^ 7 := Nat.pow_le_pow_right (by decide) hr8
      have h3 : UInt8.toNat 2 = 2 := rfl
      rw [h3]
      omega
    · rw [if_neg e]
      congr 1
      unfold outQ
      by_cases h : i < 8 * q
      · rw [show max i (8 * q) = 8 * q by omega, show max (i + 1) (8 * q) = 8 * q by omega]
      · rw [show 8 * (q + 1) - max i (8 * q) = 0 by omega, show 8 * (q + 1) - max (i + 1) (8 * q) = 0 by omega]
        simp [Nat.mod_one]
  · rw [if_neg (by omega), List.getElem?_eq_none (by rw [outS_len]; omega), List.getElem?_eq_none (by rw [outS_len]; omega)]
theorem leB_get : ∀ (k : Nat) (n q : Nat), q < k → (leB n k)[q]? = some (UInt8.ofNat (n / 256 ^ q))
  | k + 1, n, q, h => by
    rw [leB_succ]
    by_cases e : q < k
    · rw [List.getElem?_append_left (by rw [leB_len]; exact e)]
      exact leB_get k n q e
    · obtain rfl : q = k := by omega
      rw [List.getElem?_append_right (by rw [leB_len]; exact Nat.le_refl _), leB_len, Nat.sub_self]
      rfl
theorem outS_end (M : Nat) : outS M 0 = leB M 16 := by
  apply List.ext_getElem?
  intro q
  by_cases hq : q < 16
  · rw [leB_get 16 M q hq]
    simp only [outS, List.getElem?_map, List.getElem?_range hq, Option.map_some]
    congr 1
    unfold outQ
    rw [show max 0 (8 * q) = 8 * q by omega, show 8 * (q + 1) - 8 * q = 8 by omega, Nat.pow_mul]
    apply UInt8.toNat_inj.1
    rw [UInt8.toNat_ofNat', UInt8.toNat_ofNat', show (2 : Nat) ^ 8 = 256 from rfl]
    omega
  · rw [List.getElem?_eq_none (by rw [outS_len]; omega), List.getElem?_eq_none (by rw [leB_len]; omega)]
/-- The doubled number's bits, of which the highest is left out. -/
theorem dblN_tb (N j : Nat) (hj : j < 128) : tb (if 2 ^ 127 ≤ N then 2 * N ^^^ 0x87 else 2 * N) j = tb (dblN N) j := by
  unfold dblN
  by_cases h : 2 ^ 127 ≤ N
  · rw [if_pos h, if_pos h, tb_xor, tb_xor, tb_mod, if_pos hj]
  · rw [if_neg h, if_neg h, Nat.xor_zero, tb_mod, if_pos hj]
theorem dbl_top (N : Nat) (hN : N < 2 ^ 128) : tb (2 * N) 128 = if 2 ^ 127 ≤ N then 1 else 0 := by
  unfold tb
  by_cases h : 2 ^ 127 ≤ N
  · rw [if_pos h]; omega
  · rw [if_neg h]; omega
attribute [irreducible] bitsC outS outQ
end Go.Proofs.Ytkfggilildiflaa

namespace Go.Proofs.Ytkfggilildiflaa
open Go.ChangeShapes Go.WideShapes Go.ChangeAt Go.RowKit
theorem byte_step (x k : Nat) : UInt8.ofNat (x / 2 ^ (k + 1)) * 2 + UInt8.ofNat (tb x k) = UInt8.ofNat (x / 2 ^ k) := by
  unfold tb
  rw [Nat.pow_succ, ← Nat.div_div_eq_div_mul]
  generalize x / 2 ^ k = y
  apply UInt8.toNat_inj.1
  rw [UInt8.toNat_add, UInt8.toNat_mul, UInt8.toNat_ofNat', UInt8.toNat_ofNat', UInt8.toNat_ofNat', show UInt8.toNat 2 = 2 from rfl]
  omega
/-- The sum so far: i bytes, and of the next one the bits from k on. -/
def xrS (X : List UInt8) (i k : Nat) : List UInt8 := (fillN (zs 16) X i).set i (UInt8.ofNat ((X.getD i 0).toNat / 2 ^ k))
theorem xrS_len {X : List UInt8} (hX : X.length = 16) (i k : Nat) : (xrS X i k).length = 16 := by
  unfold xrS; rw [List.length_set, fillN_len (by rw [zs_len, hX]), zs_len]
theorem xrS_first {X : List UInt8} (hX : X.length = 16) {i : Nat} (hi : i < 16) : xrS X i 8 = fillN (zs 16) X i := by
  have h0 : UInt8.ofNat ((X.getD i 0).toNat / 2 ^ 8) = 0 := by
    have := (X.getD i 0).toNat_lt
    rw [Nat.div_eq_of_lt (by omega)]; rfl
  unfold xrS
  rw [h0]
  apply List.ext_getElem?
  intro j
  rw [List.getElem?_set]
  by_cases e : i = j
  · subst e
    rw [if_pos rfl, fillN_len (by rw [zs_len, hX]), zs_len, if_pos hi]
    unfold fillN
    rw [List.getElem?_append_right (by simp; omega)]
    simp only [List.length_take, List.getElem?_drop]
    rw [show i + (i - min i X.length) = i by omega, show zs 16 = (List.range 16).map (fun _ => (0 : UInt8)) by decide +kernel]
    simp [hi]
  · rw [if_neg e]
theorem xrS_get {X : List UInt8} (hX : X.length = 16) {i : Nat} (hi : i < 16) (k : Nat) : (xrS X i k).getD i 0 = UInt8.ofNat ((X.getD i 0).toNat / 2 ^ k) := by
  unfold xrS
  rw [List.getD_eq_getElem?_getD, List.getElem?_set_self (by rw [fillN_len (by rw [zs_len, hX]), zs_len]; exact hi)]
  rfl
theorem xrS_step (X : List UInt8) (i k : Nat) : (xrS X i (k + 1)).set i (UInt8.ofNat ((X.getD i 0).toNat / 2 ^ (k + 1)) * 2 + UInt8.ofNat (tb (X.getD i 0).toNat k)) = xrS X i k := by
  unfold xrS
  rw [List.set_set, byte_step]
theorem xrS_last {X : List UInt8} (hX : X.length = 16) {i : Nat} (hi : i < 16) : xrS X i 0 = fillN (zs 16) X (i + 1) := by
  unfold xrS
  rw [Nat.pow_zero, Nat.div_one, ← fillN_set (by rw [zs_len, hX]) (by rw [hX]; exact hi)]
  congr 1
  apply UInt8.toNat_inj.1
  rw [UInt8.toNat_ofNat']
  have := (X.getD i 0).toNat_lt
  omega
theorem xor_bits (a b : UInt8) (k : Nat) : (tb a.toNat k + tb b.toNat k) % 2 = tb (a ^^^ b).toNat k := by
  rw [UInt8.toNat_xor, tb_xor]
attribute [irreducible] xrS
end Go.Proofs.Ytkfggilildiflaa

namespace Go.Proofs.Ytkfggilildiflaa
open Go.ChangeShapes Go.WideShapes Go.ChangeAt Go.RowKit
theorem z129 : Try.zeroCells101 = bitsC 129 0 := by unfold bitsC; rfl
/-- The bits behind so many of the four changes. -/
def flD (M : Nat) : Nat → Nat
  | 0 => M
  | 1 => M ^^^ (1 <<< 0)
  | 2 => M ^^^ (1 <<< 0) ^^^ (1 <<< 1)
  | 3 => M ^^^ (1 <<< 0) ^^^ (1 <<< 1) ^^^ (1 <<< 2)
  | _ => M ^^^ (1 <<< 0) ^^^ (1 <<< 1) ^^^ (1 <<< 2) ^^^ (1 <<< 7)
theorem flD_all (M : Nat) : flD M 4 = M ^^^ 0x87 := by
  show M ^^^ (1 <<< 0) ^^^ (1 <<< 1) ^^^ (1 <<< 2) ^^^ (1 <<< 7) = _
  rw [Nat.xor_assoc, Nat.xor_assoc, Nat.xor_assoc]
  rfl
def litD : Array Value := #[.int .i64 0, .int .i64 1, .int .i64 2, .int .i64 7]
theorem litD_is : #[Value.int .i64 0, .int .i64 1, .int .i64 2, .int .i64 7] = litD := rfl
def atD : Nat → Nat | 0 => 0 | 1 => 1 | 2 => 2 | _ => 7
theorem litD_get {j : Nat} (h : j < 4) : litD[j]? = some (.int .i64 (atD j : Int)) := by
  match j, h with
  | 0, _ => rfl
  | 1, _ => rfl
  | 2, _ => rfl
  | 3, _ => rfl
theorem atD_lt (j : Nat) : atD j < 8 := by unfold atD; split <;> omega
theorem flD_step {M j : Nat} (h : j < 4) : (bitsC 129 (flD M j)).setIfInBounds (atD j) (.int .i64 ((1 : Int) - (tb (flD M j) (atD j) : Int))) = bitsC 129 (flD M (j + 1)) := by
  match j, h with
  | 0, _ => exact bitsC_flip _ 0
  | 1, _ => exact bitsC_flip _ 1
  | 2, _ => exact bitsC_flip _ 2
  | 3, _ => exact bitsC_flip _ 7
attribute [irreducible] litD atD flD
theorem bitsC_same {n : Nat} {P Q : Nat} (h : ∀ j, j < n → tb P j = tb Q j) : bitsC n P = bitsC n Q := by
  apply Array.ext_getElem?
  intro k
  rw [bitsC_any, bitsC_any]
  by_cases hk : k < n
  · rw [if_pos hk, if_pos hk, h k hk]
  · rw [if_neg hk, if_neg hk]
theorem out_byte (b : UInt8) (c : Nat) (h : c ≤ 1) : ((b.toNat : Int) * 2 % 256 + (c : Int)) = (((b * 2 + UInt8.ofNat c).toNat : Nat) : Int) := by
  have := b.toNat_lt
  rw [UInt8.toNat_add, UInt8.toNat_mul, UInt8.toNat_ofNat']
  simp
  omega
theorem tb_two (x i : Nat) : tb x i ≤ 1 := tb_le x i
set_option maxRecDepth 100000 in
set_option maxHeartbeats 4000000 in
theorem refDouble_any (k : List UInt8) (hk : k.length = 16) (w : World) :
    Calls Try.prog 56 #[.agg (bvs k)] w fun e w' => e = .returned (.agg (bvs (dblB k))) ∧ Below w.heap.size w w' := by
  have s1 : csz (bvs (zs 16)) = 16 := by rw [csz_bvs, zs_len]
  have s2 : csz (bvs k) = 16 := by rw [csz_bvs, hk]
  have s3 : csz (bvs (dblB k)) = 16 := by rw [csz_bvs, dblB_len]
  have HK := hid hk
  have z := zs16
  have z2 := z129
  have z3 := litD_is
  obtain ⟨N, hN⟩ : ∃ N, N = leN k := ⟨_, rfl⟩
  have hN2 : N < 2 ^ 128 := by have := leN_lt k; rw [hk] at this; rw [hN]; exact this
  have HD := hid (show dblB k = outS (dblN N) 0 by rw [outS_end, hN]; unfold dblB; rfl)
  have HN := hid hN
  have HT := hid (dbl_top N hN2)
  have HM := hid (Nat.mod_eq_of_lt hN2)
  have HQ := hid (dblN_tb N)
  clear hk hN hN2
  go_enter Try.func56, Try.ntmps56
  go_wp2_with fail
  go_loopw [4] (fun u4 wr => ∃ i : Nat, i ≤ 128 ∧ u4 = .int .i64 i ∧ St w wr [(w.heap.size + 1 + 1, bitsC 129 (2 * (N % 2 ^ i)), 101), (w.heap.size + 1, bvs (zs 16), 63), (w.heap.size, bvs k, 63)])
    (fun u4 _ => 128 - (intOf u4).toNat)
  case atStart => exact ⟨0, by omega, rfl, by simp only [Nat.pow_zero, Nat.mod_one, Nat.mul_zero]; rw [← z129]; exact (St.alloc' (St.alloc' (St.alloc' (St.start w) (by first | rfl | simp)) (by first | rfl | simp)) (by first | rfl | simp))⟩
  case round =>
    obtain ⟨i, hi, rfl, hS⟩ := hrel
    obtain ⟨x, rfl, hS, l1, l2, l3, n1, n2, n3, n4, n5, n6⟩ := hS.open3
    by_cases hlt : i < 128
    · have hb := bvs_get (l := k) (k := i / 8) (by rw [HK.out]; omega)
      have q1 : (i : Int) / 8 < 16 := by omega
      have hm := bitsC_get (n := 129) (2 * (N % 2 ^ i)) (j := i + 1) (by omega)
      have E1 := hid (show (i : Int) % 8 = ((i % 8 : Nat) : Int) by omega)
      have E2 := hid (tb_leN k i)
      rw [← HN.out] at E2
      generalize k.getD (i / 8) 0 = b at *
      go_wp2_with fail
      rw [E1.out]
      (with_reducible refine (bit_any b (i % 8) (by omega) _).mono ?_)
      rintro e w1 ⟨rfl, rfl⟩
      go_wp2
      go_roundw
      case rel => exact ⟨i + 1, by omega, by go_num, by rw [← E2.out, dblP_step]; exact hS.put3 _ _ _⟩
      case measure => simp [intOf]; omega
    · obtain rfl : i = 128 := by omega
      rw [HM.out]
      have hm := bitsC_get (n := 129) (2 * N) (j := 128) (by omega)
      rw [HT.out] at hm
      rw [HM.out] at hS
      by_cases hbig : 2 ^ 127 ≤ N
      · rw [if_pos hbig] at hm HQ
        obtain ⟨Q, hQ⟩ : ∃ Q, 2 * N ^^^ 135 = Q := ⟨_, rfl⟩
        rw [hQ] at HQ
        have H4 := hid ((flD_all (2 * N)).trans hQ)
        have H0 := hid (show flD (2 * N) 0 = 2 * N by unfold flD; rfl)
        clear hbig hQ
        generalize dblN N = M at *
        go_wp2_with fail
        go_loopw [6, 28] (fun u6 u28 wr => ∃ j : Nat, j ≤ 4 ∧ u28 = .int .i64 j ∧ St w wr [(x.heap.size, litD, 3), (w.heap.size + 1 + 1, bitsC 129 (flD (2 * N) j), 101), (w.heap.size + 1, bvs (zs 16), 63)])
          (fun _ u28 _ => 4 - (intOf u28).toNat)
        case atStart => exact ⟨0, by omega, rfl, by rw [H0.out]; exact (St.alloc' (n := x.heap.size) (hS.put3 _ _ _) (by simp [go_sem])).take 3⟩
        case round =>
          obtain ⟨j, hj, rfl, hS2⟩ := hrel
          obtain ⟨y, rfl, hS2, l1, l2, l3, n1, n2, n3, n4, n5, n6⟩ := hS2.open3
          by_cases hlt : j < 4
          · have hg := litD_get hlt
            have ha := atD_lt j
            have hm := bitsC_get (n := 129) (flD (2 * N) j) (j := atD j) (by omega)
            have E2 := hid (flD_step (M := 2 * N) hlt)
            have ht := tb_two (flD (2 * N) j) (atD j)
            generalize atD j = q at *
            generalize tb (flD (2 * N) j) q = c at *
            have q1 : (q : Int) < 129 := by omega
            have q2 : (0 : Int) ≤ (c : Int) := by omega
            have q3 : (c : Int) ≤ 1 := by omega
            go_wp2
            go_roundw
            case rel => exact ⟨j + 1, by omega, by go_num, by rw [← E2.out]; exact hS2.put3 _ _ _⟩
            case measure => simp [intOf]; omega
          · obtain rfl : j = 4 := by omega
            rw [H4.out] at *
            go_wp2_with fail
            go_loopw [8] (fun u8 wr => ∃ i : Nat, i ≤ 128 ∧ u8 = .int .i64 ((i : Int) - 1) ∧ St w wr [(y.heap.size, bvs (outS M i), 63), (w.heap.size + 1 + 1, bitsC 129 Q, 101), (w.heap.size + 1, bvs (zs 16), 63)])
              (fun u8 _ => (intOf u8 + 1).toNat)
            case atStart => exact ⟨128, by omega, rfl, by rw [outS_start]; exact ((St.alloc' (n := y.heap.size) (hS2.put3 _ _ _) (by simp [go_sem])).erase 1)⟩
            case round =>
              obtain ⟨i, hi, rfl, hS⟩ := hrel
              obtain ⟨y, rfl, hS, l1, l2, l3, n1, n2, n3, n4, n5, n6⟩ := hS.open3
              have s4 : csz (bvs (outS M i)) = 16 := by rw [csz_bvs, outS_len]
              by_cases h0 : 0 < i
              · obtain ⟨m, rfl⟩ : ∃ m, i = m + 1 := ⟨i - 1, by omega⟩
                rw [show ((m + 1 : Nat) : Int) - 1 = (m : Int) by omega]
                have hb := bvs_get (l := outS M (m + 1)) (k := m / 8) (by rw [outS_len]; omega)
                rw [outS_get M (m + 1) (by omega)] at hb
                have q1 : (m : Int) / 8 < 16 := by omega
                have q0 : (0 : Int) ≤ (m : Int) / 8 := by omega
                have q3 : ((m : Int) / 8).toNat = m / 8 := by omega
                have q2 : (m : Int) < 129 := by omega
                have hm := bitsC_get (n := 129) Q (j := m) (by omega)
                rw [HQ.out m (by omega)] at hm
                have ht := tb_two M m
                have E2 := hid (outS_step M m (by omega))
                have E3 := hid (out_byte (outQ M (m + 1) (m / 8)) (tb M m) ht)
                generalize outQ M (m + 1) (m / 8) = b at *
                generalize tb M m = c at *
                have hbl := b.toNat_lt
                go_wp2_with fail
                refine region_tail_lit (by kernel_rfl) (by kernel_rfl) ?_
                dsimp only [List.dropLast, List.getLast?, List.getLast, Option.getD]
                repeat (first | (refine BigFrame.wpQuiet_skip rfl ?_; simp only [Act.put, List.setIfInBounds_toArray, List.set_cons_zero, List.set_cons_succ]) | (refine BigFrame.wpQuiet_want rfl (fun K hK => ?_); apply Exists.intro; refine ⟨fun w' hw' => ?_, hK _ ?_⟩; (focus (have zw := hw'; obtain ⟨zg, rfl⟩ := grow_of hw'; go_simp; (try (go_bits; go_simp)); first | done | rfl | (fail))); clear hK K; simp only [Act.put, List.setIfInBounds_toArray, List.set_cons_zero, List.set_cons_succ]))
                refine wpQuiet_nil ?_
                intro wq hcq
                obtain ⟨gq, rfl⟩ := grow_of hcq
                clear hcq
                go_wp2
                go_roundw
                case rel => exact ⟨m, by omega, rfl, by rw [E3.out, bvs_set, E2.out]; exact (hS.put3 _ _ _).grow _⟩
                case measure => simp [intOf]
              · obtain rfl : i = 0 := by omega
                rw [← HD.out] at *
                go_wp2
                exact post_cell (n := 16) Try.results56 (by kernel_rfl) (.inl rfl) _ _ _ _ rfl rfl (by go_simp; first | done | rfl | exact ⟨rfl, rfl⟩) (by first | (rw [← csz_is]; assumption) | rfl) ⟨rfl, (by repeat (first | (with_reducible exact Below.refl _ _) | (with_reducible assumption) | (with_reducible exact grow_below _ _) | (with_reducible exact St.below (by assumption)) | (with_reducible refine below_grow ?_ _) | (with_reducible refine Below.alloc ?_ (by first | omega | (simp; done) | (simp [go_sem]; done) | (simp [go_sem]; omega)) _) | (with_reducible exact (St.put1 (by assumption) _).below) | (with_reducible exact (St.put2 (by assumption) _ _).below) | (with_reducible exact (St.put3 (by assumption) _ _ _).below) | (with_reducible exact (St.put4 (by assumption) _ _ _ _).below) | (with_reducible refine below_put ?_ (by first | omega | (simp [go_sem]; omega)) _ _) | (with_reducible refine Below.drew ?_) | (with_reducible refine Below.setCell ?_ (by first | omega | (simp [go_sem]; omega)) _) | (with_reducible refine below_setRow' ?_ (by first | omega | (simp [go_sem]; omega)) _) | (with_reducible refine below_drewN' ?_ _)))⟩
      · rw [if_neg hbig] at hm HQ
        generalize 2 * N = Q at *
        clear hbig
        generalize dblN N = M at *
        replace hm : (bitsC 129 Q)[128]? = some (.int .i64 0) := hm
        go_wp2_with fail
        go_loopw [8] (fun u8 wr => ∃ i : Nat, i ≤ 128 ∧ u8 = .int .i64 ((i : Int) - 1) ∧ St w wr [(x.heap.size, bvs (outS M i), 63), (w.heap.size + 1 + 1, bitsC 129 Q, 101), (w.heap.size + 1, bvs (zs 16), 63)])
          (fun u8 _ => (intOf u8 + 1).toNat)
        case atStart => exact ⟨128, by omega, rfl, by rw [outS_start]; exact (St.alloc' (n := x.heap.size) (hS.put3 _ _ _) (by simp [go_sem])).take 3⟩
        case round =>
          obtain ⟨i, hi, rfl, hS⟩ := hrel
          obtain ⟨y, rfl, hS, l1, l2, l3, n1, n2, n3, n4, n5, n6⟩ := hS.open3
          have s4 : csz (bvs (outS M i)) = 16 := by rw [csz_bvs, outS_len]
          by_cases h0 : 0 < i
          · obtain ⟨m, rfl⟩ : ∃ m, i = m + 1 := ⟨i - 1, by omega⟩
            rw [show ((m + 1 : Nat) : Int) - 1 = (m : Int) by omega]
            have hb := bvs_get (l := outS M (m + 1)) (k := m / 8) (by rw [outS_len]; omega)
            rw [outS_get M (m + 1) (by omega)] at hb
            have q1 : (m : Int) / 8 < 16 := by omega
            have q0 : (0 : Int) ≤ (m : Int) / 8 := by omega
            have q3 : ((m : Int) / 8).toNat = m / 8 := by omega
            have q2 : (m : Int) < 129 := by omega
            have hm := bitsC_get (n := 129) Q (j := m) (by omega)
            rw [HQ.out m (by omega)] at hm
            have ht := tb_two M m
            have E2 := hid (outS_step M m (by omega))
            have E3 := hid (out_byte (outQ M (m + 1) (m / 8)) (tb M m) ht)
            generalize outQ M (m + 1) (m / 8) = b at *
            generalize tb M m = c at *
            have hbl := b.toNat_lt
            go_wp2_with fail
            refine region_tail_lit (by kernel_rfl) (by kernel_rfl) ?_
            dsimp only [List.dropLast, List.getLast?, List.getLast, Option.getD]
            repeat (first | (refine BigFrame.wpQuiet_skip rfl ?_; simp only [Act.put, List.setIfInBounds_toArray, List.set_cons_zero, List.set_cons_succ]) | (refine BigFrame.wpQuiet_want rfl (fun K hK => ?_); apply Exists.intro; refine ⟨fun w' hw' => ?_, hK _ ?_⟩; (focus (have zw := hw'; obtain ⟨zg, rfl⟩ := grow_of hw'; go_simp; (try (go_bits; go_simp)); first | done | rfl | (fail))); clear hK K; simp only [Act.put, List.setIfInBounds_toArray, List.set_cons_zero, List.set_cons_succ]))
            refine wpQuiet_nil ?_
            intro wq hcq
            obtain ⟨gq, rfl⟩ := grow_of hcq
            clear hcq
            go_wp2
            go_roundw
            case rel => exact ⟨m, by omega, rfl, by rw [E3.out, bvs_set, E2.out]; exact (hS.put3 _ _ _).grow _⟩
            case measure => simp [intOf]
          · obtain rfl : i = 0 := by omega
            rw [← HD.out] at *
            go_wp2
            exact post_cell (n := 16) Try.results56 (by kernel_rfl) (.inl rfl) _ _ _ _ rfl rfl (by go_simp; first | done | rfl | exact ⟨rfl, rfl⟩) (by first | (rw [← csz_is]; assumption) | rfl) ⟨rfl, (by repeat (first | (with_reducible exact Below.refl _ _) | (with_reducible assumption) | (with_reducible exact grow_below _ _) | (with_reducible exact St.below (by assumption)) | (with_reducible refine below_grow ?_ _) | (with_reducible refine Below.alloc ?_ (by first | omega | (simp; done) | (simp [go_sem]; done) | (simp [go_sem]; omega)) _) | (with_reducible exact (St.put1 (by assumption) _).below) | (with_reducible exact (St.put2 (by assumption) _ _).below) | (with_reducible exact (St.put3 (by assumption) _ _ _).below) | (with_reducible exact (St.put4 (by assumption) _ _ _ _).below) | (with_reducible refine below_put ?_ (by first | omega | (simp [go_sem]; omega)) _ _) | (with_reducible refine Below.drew ?_) | (with_reducible refine Below.setCell ?_ (by first | omega | (simp [go_sem]; omega)) _) | (with_reducible refine below_setRow' ?_ (by first | omega | (simp [go_sem]; omega)) _) | (with_reducible refine below_drewN' ?_ _)))⟩
theorem xorL_at {a b : List UInt8} {i : Nat} (ha : i < a.length) (hb : i < b.length) : (xorL a b).getD i 0 = a.getD i 0 ^^^ b.getD i 0 := by
  simp [xorL, List.getD_eq_getElem?_getD, ha, hb, List.getElem?_zipWith]
set_option maxRecDepth 100000 in
set_option maxHeartbeats 4000000 in
theorem refXor_any (a b : List UInt8) (ha : a.length = 16) (hb : b.length = 16) (w : World) :
    Calls Try.prog 57 #[.agg (bvs a), .agg (bvs b)] w fun e w' => e = .returned (.agg (bvs (xorL a b))) ∧ Below w.heap.size w w' := by
  have s1 : csz (bvs (zs 16)) = 16 := by rw [csz_bvs, zs_len]
  have s2 : csz (bvs a) = 16 := by rw [csz_bvs, ha]
  have s3 : csz (bvs b) = 16 := by rw [csz_bvs, hb]
  have hX := xorL_len a b 16 ha hb
  have HA := hid ha; have HB := hid hb; have HX := hid hX
  have HG := hid (fun i (hi : i < 16) => xorL_at (a := a) (b := b) (i := i) (by rw [ha]; exact hi) (by rw [hb]; exact hi))
  generalize xorL a b = X at *
  have s4 : csz (bvs X) = 16 := by rw [csz_bvs, hX]
  have z := zs16
  clear ha hb hX
  go_enter Try.func57, Try.ntmps57
  go_wp2_with fail
  go_loopw [6, 7] (fun u6 u7 wr => ∃ i : Nat, i ≤ 16 ∧ u6 = .int .i64 i ∧ St w wr [(w.heap.size + 1 + 1 + 1, bvs (fillN (zs 16) X i), 63), (w.heap.size + 1 + 1, bvs (zs 16), 63), (w.heap.size + 1, bvs b, 63), (w.heap.size, bvs a, 63)])
    (fun u6 _ _ => 16 - (intOf u6).toNat)
  case atStart => exact ⟨0, by omega, rfl, by rw [fillN_zero]; exact (St.alloc' (St.alloc' (St.alloc' (St.alloc' (St.start w) (by first | rfl | simp)) (by first | rfl | simp)) (by first | rfl | simp)) (by first | rfl | simp))⟩
  case round =>
    obtain ⟨i, hi, rfl, hS⟩ := hrel
    by_cases hlt : i < 16
    · have ha := bvs_get (l := a) (k := i) (by rw [HA.out]; exact hlt)
      have hb := bvs_get (l := b) (k := i) (by rw [HB.out]; exact hlt)
      have hx := HG.out i hlt
      have H1 := hid (xrS_first HX.out hlt)
      have H2 := hid (xrS_last HX.out hlt)
      have q1 : (i : Int) < 16 := by omega
      go_wp2_with fail
      go_loopw [7] (fun u7 wr => ∃ k : Nat, k ≤ 8 ∧ u7 = .int .i64 ((k : Int) - 1) ∧ St w wr [(w.heap.size + 1 + 1 + 1, bvs (xrS X i k), 63), (w.heap.size + 1 + 1, bvs (zs 16), 63), (w.heap.size + 1, bvs b, 63), (w.heap.size, bvs a, 63)])
        (fun u7 _ => (intOf u7 + 1).toNat)
      case atStart => exact ⟨8, by omega, rfl, by rw [H1.out]; exact hS⟩
      case round =>
        obtain ⟨k, hk, rfl, hS2⟩ := hrel
        obtain ⟨y, rfl, hS2, l1, l2, l3, l4, n1, n2, n3, n4, n5, n6, n7, n8, n9, n10, n11, n12⟩ := hS2.open4
        by_cases h0 : 0 < k
        · obtain ⟨m, rfl⟩ : ∃ m, k = m + 1 := ⟨k - 1, by omega⟩
          rw [show ((m + 1 : Nat) : Int) - 1 = (m : Int) by omega]
          have hg := bvs_get (l := xrS X i (m + 1)) (k := i) (by rw [xrS_len HX.out]; exact hlt)
          rw [xrS_get HX.out hlt] at hg
          have E2 := hid (xrS_step X i m)
          have hbit := hid (xor_bits (a.getD i 0) (b.getD i 0) m)
          rw [← hx] at hbit
          have E3 := hid (out_byte (UInt8.ofNat ((X.getD i 0).toNat / 2 ^ (m + 1))) (tb (X.getD i 0).toNat m) (tb_two _ _))
          clear hx
          generalize UInt8.ofNat ((X.getD i 0).toNat / 2 ^ (m + 1)) = o at *
          generalize tb (X.getD i 0).toNat m = c at *
          generalize a.getD i 0 = a1 at *
          generalize b.getD i 0 = b1 at *
          have hol := o.toNat_lt
          have t1 := tb_two a1.toNat m
          have t2 := tb_two b1.toNat m
          go_wp2_with fail
          refine region_tail_lit (by kernel_rfl) (by kernel_rfl) ?_
          dsimp only [List.dropLast, List.getLast?, List.getLast, Option.getD]
          repeat (first | (refine BigFrame.wpQuiet_skip rfl ?_; simp only [Act.put, List.setIfInBounds_toArray, List.set_cons_zero, List.set_cons_succ]) | (refine BigFrame.wpQuiet_want rfl (fun K hK => ?_); apply Exists.intro; refine ⟨fun w' hw' => ?_, hK _ ?_⟩; (focus (have zw := hw'; obtain ⟨zg, rfl⟩ := grow_of hw'; go_simp; (try (go_bits; go_simp)); first | done | rfl | (go_at_call 74; refine (bit_any _ _ (by omega) _).mono ?_; exact fun e w' ⟨he, hw⟩ => ⟨he, hw ▸ zw⟩))); clear hK K; simp only [Act.put, List.setIfInBounds_toArray, List.set_cons_zero, List.set_cons_succ]))
          refine wpQuiet_nil ?_
          intro wq hcq
          obtain ⟨gq, rfl⟩ := grow_of hcq
          clear hcq
          go_wp2
          go_roundw
          case rel => exact ⟨m, by omega, rfl, by rw [show ((tb a1.toNat m : Nat) : Int) + ((tb b1.toNat m : Nat) : Int) = ((tb a1.toNat m + tb b1.toNat m : Nat) : Int) by omega, show (((tb a1.toNat m + tb b1.toNat m : Nat) : Int) % 2) = (((tb a1.toNat m + tb b1.toNat m) % 2 : Nat) : Int) by omega, hbit.out, E3.out, bvs_set, E2.out]; exact (hS2.put4 _ _ _ _).grow _⟩
          case measure => simp [intOf]
        · obtain rfl : k = 0 := by omega
          rw [H2.out] at *
          go_wp2
          go_roundw
          case rel => exact ⟨i + 1, by omega, by go_num, hS2.put4 _ _ _ _⟩
          case measure => simp [intOf]; omega
    · obtain rfl : i = 16 := by omega
      have e := fillN_all (x := zs 16) (k := 16) (by rw [HX.out, zs_len]) HX.out
      rw [e] at hS
      clear e
      obtain ⟨y, rfl, hS2, l1, l2, l3, l4, n1, n2, n3, n4, n5, n6, n7, n8, n9, n10, n11, n12⟩ := hS.open4
      go_wp2
      exact post_cell (n := 16) Try.results57 (by kernel_rfl) (.inl rfl) _ _ _ _ rfl rfl (by go_simp; first | done | rfl | exact ⟨rfl, rfl⟩) (by first | (rw [← csz_is]; assumption) | rfl) ⟨rfl, (by repeat (first | (with_reducible exact Below.refl _ _) | (with_reducible assumption) | (with_reducible exact grow_below _ _) | (with_reducible exact St.below (by assumption)) | (with_reducible refine below_grow ?_ _) | (with_reducible refine Below.alloc ?_ (by first | omega | (simp; done) | (simp [go_sem]; done) | (simp [go_sem]; omega)) _) | (with_reducible exact (St.put1 (by assumption) _).below) | (with_reducible exact (St.put2 (by assumption) _ _).below) | (with_reducible exact (St.put3 (by assumption) _ _ _).below) | (with_reducible exact (St.put4 (by assumption) _ _ _ _).below) | (with_reducible refine below_put ?_ (by first | omega | (simp [go_sem]; omega)) _ _) | (with_reducible refine Below.drew ?_) | (with_reducible refine Below.setCell ?_ (by first | omega | (simp [go_sem]; omega)) _) | (with_reducible refine below_setRow' ?_ (by first | omega | (simp [go_sem]; omega)) _) | (with_reducible refine below_drewN' ?_ _)))⟩
end Go.Proofs.Ytkfggilildiflaa

namespace Go.Proofs.Ytkfggilildiflaa
open Go.ChangeShapes Go.WideShapes Go.ChangeAt Go.RowKit
def blockAt (l : List UInt8) (j : Nat) : List UInt8 := (l.drop (16 * j)).take 16
theorem blockAt_len {l : List UInt8} {j : Nat} (h : 16 * j + 16 ≤ l.length) : (blockAt l j).length = 16 := by unfold blockAt; simp; omega
/-- So many blocks, turned each by itself. -/
def headL (f : List UInt8 → List UInt8 → List UInt8) (T : Nat → List UInt8) (l : List UInt8) : Nat → List UInt8
  | 0 => []
  | k + 1 => headL f T l k ++ f (T k) (blockAt l k)
/-- A text turned. -/
def turnL (f : List UInt8 → List UInt8 → List UInt8) (T : Nat → List UInt8) (back : Bool) (l : List UInt8) : List UInt8 :=
  if l.length % 16 = 0 then headL f T l (l.length / 16)
  else
    headL f T l (l.length / 16 - 1) ++
      (f (T (if back then l.length / 16 - 1 else l.length / 16)) (l.drop (16 * (l.length / 16)) ++ (f (T (if back then l.length / 16 else l.length / 16 - 1)) (blockAt l (l.length / 16 - 1))).drop (l.length % 16)) ++
        (f (T (if back then l.length / 16 else l.length / 16 - 1)) (blockAt l (l.length / 16 - 1))).take (l.length % 16))
/-- It keeps a block's length. -/
def Wide (f : List UInt8 → List UInt8 → List UInt8) (T : Nat → List UInt8) : Prop := ∀ j x, x.length = 16 → (f (T j) x).length = 16
theorem headL_len {f : List UInt8 → List UInt8 → List UInt8} {T : Nat → List UInt8} (hf : Wide f T) {l : List UInt8} : ∀ k, 16 * k ≤ l.length → (headL f T l k).length = 16 * k
  | 0, _ => rfl
  | k + 1, h => by
    have ih := headL_len hf (l := l) k (by omega)
    simp only [headL, List.length_append]
    rw [ih, hf k _ (blockAt_len (by omega))]
    omega
theorem headL_block {f : List UInt8 → List UInt8 → List UInt8} {T : Nat → List UInt8} (hf : Wide f T) {l : List UInt8} : ∀ (k : Nat) (rest : List UInt8), 16 * k ≤ l.length → ∀ j, j < k → blockAt (headL f T l k ++ rest) j = f (T j) (blockAt l j)
  | k + 1, rest, h, j, hj => by
    have h1 := headL_len hf (l := l) k (by omega)
    have h2 := hf k (blockAt l k) (blockAt_len (by omega))
    rw [headL, List.append_assoc]
    by_cases e : j < k
    · exact headL_block hf k _ (by omega) j e
    · obtain rfl : j = k := by omega
      unfold blockAt at h2 ⊢
      rw [List.drop_append_of_le_length (by omega), List.drop_of_length_le (by omega), List.nil_append]
      exact (List.take_append_of_le_length (by omega)).trans (List.take_of_length_le (by omega))
theorem take_block {l : List UInt8} {k : Nat} : l.take (16 * k) ++ blockAt l k = l.take (16 * (k + 1)) := by
  unfold blockAt
  rw [show 16 * (k + 1) = 16 * k + 16 by omega, List.take_add]
/-- What is turned and turned back, block by block. -/
theorem headL_back {f g : List UInt8 → List UInt8 → List UInt8} {T : Nat → List UInt8} (hf : Wide f T) (hg : ∀ j x, x.length = 16 → g (T j) (f (T j) x) = x) {l : List UInt8} {k : Nat} (rest : List UInt8) (hk : 16 * k ≤ l.length) :
    ∀ n, n ≤ k → headL g T (headL f T l k ++ rest) n = l.take (16 * n)
  | 0, _ => by simp [headL]
  | n + 1, h => by
    rw [headL, headL_back hf hg rest hk n (by omega), headL_block hf k rest hk n (by omega), hg n _ (blockAt_len (by omega)), take_block]
theorem turnL_len {f : List UInt8 → List UInt8 → List UInt8} {T : Nat → List UInt8} (hf : Wide f T) (back : Bool) {l : List UInt8} (h16 : 16 ≤ l.length) : (turnL f T back l).length = l.length := by
  unfold turnL
  split
  · rw [headL_len hf _ (by omega)]; omega
  · obtain ⟨a, ha⟩ : ∃ a, a = (if back then l.length / 16 else l.length / 16 - 1) := ⟨_, rfl⟩
    obtain ⟨b, hb⟩ : ∃ b, b = (if back then l.length / 16 - 1 else l.length / 16) := ⟨_, rfl⟩
    rw [← ha, ← hb]
    have h1 := hf a _ (blockAt_len (l := l) (j := l.length / 16 - 1) (by omega))
    generalize f (T a) (blockAt l (l.length / 16 - 1)) = c at *
    have h2 := hf b (l.drop (16 * (l.length / 16)) ++ c.drop (l.length % 16)) (by simp; omega)
    rw [List.length_append, List.length_append, headL_len hf _ (by omega), h2, List.length_take]
    omega
theorem turnL_back {f g : List UInt8 → List UInt8 → List UInt8} {T : Nat → List UInt8} (hf : Wide f T) (hg : ∀ j x, x.length = 16 → g (T j) (f (T j) x) = x) (back : Bool) {l : List UInt8} (h16 : 16 ≤ l.length) :
    turnL g T (!back) (turnL f T back l) = l := by
  have hlen := turnL_len hf back h16
  obtain ⟨out, ho⟩ : ∃ out, out = turnL f T back l := ⟨_, rfl⟩
  rw [← ho] at hlen ⊢
  obtain ⟨m, hm⟩ : ∃ m, m = l.length / 16 := ⟨_, rfl⟩
  obtain ⟨r, hr⟩ : ∃ r, r = l.length % 16 := ⟨_, rfl⟩
  have hl : l.length = 16 * m + r := by omega
  unfold turnL at ho ⊢
  rw [hlen, ← hm, ← hr]
  rw [← hm, ← hr] at ho
  by_cases h0 : r = 0
  · rw [if_pos h0] at ho ⊢
    have h1 := headL_back (l := l) hf hg (k := m) [] (by omega) m (Nat.le_refl _)
    rw [List.append_nil] at h1
    rw [ho, h1, List.take_of_length_le (by omega)]
  · rw [if_neg h0] at ho ⊢
    obtain ⟨a, ha⟩ : ∃ a, a = (if back then m else m - 1) := ⟨_, rfl⟩
    obtain ⟨b, hb⟩ : ∃ b, b = (if back then m - 1 else m) := ⟨_, rfl⟩
    have ha' : (if (!back) = true then m - 1 else m) = a := by cases back <;> simp [ha]
    have hb' : (if (!back) = true then m else m - 1) = b := by cases back <;> simp [hb]
    rw [← ha, ← hb] at ho
    rw [ha', hb']
    have hB := blockAt_len (l := l) (j := m - 1) (by omega)
    have hga := hg a _ hB
    have h1 := hf a _ hB
    obtain ⟨c, hc⟩ : ∃ c, c = f (T a) (blockAt l (m - 1)) := ⟨_, rfl⟩
    rw [← hc] at h1 hga ho
    have hxl : (l.drop (16 * m) ++ c.drop r).length = 16 := by simp; omega
    have h2 := hf b _ hxl
    have hgb := hg b _ hxl
    obtain ⟨d, hd⟩ : ∃ d, d = f (T b) (l.drop (16 * m) ++ c.drop r) := ⟨_, rfl⟩
    rw [← hd] at h2 hgb ho
    have hH := headL_len hf (l := l) (m - 1) (by omega)
    -- what the turned text's parts are
    have o1 : headL g T out (m - 1) = l.take (16 * (m - 1)) := by rw [ho]; exact headL_back hf hg _ (by omega) _ (Nat.le_refl _)
    have o2 : blockAt out (m - 1) = d := by
      rw [ho]; unfold blockAt
      rw [List.drop_append_of_le_length (by omega), List.drop_of_length_le (by omega), List.nil_append]
      exact (List.take_append_of_le_length (by omega)).trans (List.take_of_length_le (by omega))
    have o3 : out.drop (16 * m) = c.take r := by
      rw [ho, ← List.append_assoc, List.drop_append_of_le_length (by rw [List.length_append]; omega), List.drop_of_length_le (by rw [List.length_append]; omega), List.nil_append]
    rw [o1, o2, o3, hgb]
    have hdl : (l.drop (16 * m)).length = r := by simp; omega
    have e1 : (l.drop (16 * m) ++ c.drop r).drop r = c.drop r := by
      rw [List.drop_append_of_le_length (by omega), List.drop_of_length_le (by omega), List.nil_append]
    have e2 : (l.drop (16 * m) ++ c.drop r).take r = l.drop (16 * m) := by
      rw [List.take_append_of_le_length (by omega), List.take_of_length_le (by omega)]
    rw [e1, e2, List.take_append_drop, hga, ← List.append_assoc, take_block, show m - 1 + 1 = m by omega, List.take_append_drop]
/-- Each block is turned by itself. -/
theorem headL_same {f g : List UInt8 → List UInt8 → List UInt8} {T : Nat → List UInt8} (hf : Wide f T) (hg : ∀ j x, x.length = 16 → g (T j) (f (T j) x) = x) {l l' : List UInt8} {m i : Nat} (hl : 16 * m ≤ l.length) (hl' : 16 * m ≤ l'.length) (hi : i < m) :
    blockAt (headL f T l m) i = blockAt (headL f T l' m) i ↔ blockAt l i = blockAt l' i := by
  have h1 := headL_block hf m [] hl i hi
  have h2 := headL_block hf m [] hl' i hi
  rw [List.append_nil] at h1 h2
  rw [h1, h2]
  refine ⟨fun h => ?_, fun h => by rw [h]⟩
  have := congrArg (g (T i)) h
  rwa [hg i _ (blockAt_len (by omega)), hg i _ (blockAt_len (by omega))] at this
theorem block_set {l : List UInt8} {k : Nat} {b : UInt8} (hk : k < l.length) (hb : b ≠ l.getD k 0) {i : Nat} : blockAt (l.set k b) i = blockAt l i ↔ k / 16 ≠ i := by
  unfold blockAt
  constructor
  · rintro h rfl
    have h1 := congrArg (·[k % 16]?) h
    simp only [List.getElem?_take, if_pos (Nat.mod_lt k (by decide : 0 < 16)), List.getElem?_drop] at h1
    rw [Nat.div_add_mod, List.getElem?_set_self hk, List.getElem?_eq_getElem hk, Option.some.injEq] at h1
    apply hb
    rw [List.getD_eq_getElem?_getD, List.getElem?_eq_getElem hk]
    exact h1
  · intro h
    apply List.ext_getElem?
    intro j
    simp only [List.getElem?_take, List.getElem?_drop]
    split
    · rw [List.getElem?_set_ne (by omega)]
    · rfl
end Go.Proofs.Ytkfggilildiflaa

namespace Go.Proofs.Ytkfggilildiflaa
open Go.ChangeShapes Go.WideShapes Go.ChangeAt Go.RowKit
/-- A block doubled so many times. -/
def dblIt (x : List UInt8) : Nat → List UInt8
  | 0 => x
  | j + 1 => dblB (dblIt x j)
theorem dblIt_zero (x : List UInt8) : dblIt x 0 = x := rfl
theorem dblIt_succ (x : List UInt8) (j : Nat) : dblIt x (j + 1) = dblB (dblIt x j) := rfl
theorem dblIt_len {x : List UInt8} (h : x.length = 16) : ∀ j, (dblIt x j).length = 16
  | 0 => h
  | _ + 1 => dblB_len _
/-- The tweak of block j of a sector. -/
def tweakV (key : List UInt8) (n j : Nat) : List UInt8 := dblIt (sealV key (leB n 8 ++ zs 8)) j
theorem tweakV_zero (key : List UInt8) (n : Nat) : tweakV key n 0 = sealV key (leB n 8 ++ zs 8) := rfl
theorem tweakV_succ (key : List UInt8) (n j : Nat) : tweakV key n (j + 1) = dblB (tweakV key n j) := rfl
theorem tweakV_it (key : List UInt8) (n j : Nat) : tweakV key n j = dblIt (tweakV key n 0) j := rfl
theorem num_len (n : Nat) : (leB n 8 ++ zs 8).length = 16 := by rw [List.length_append, leB_len, zs_len]
theorem tweakV_len {key : List UInt8} (h : key.length = 16 ∨ key.length = 32) (n j : Nat) : (tweakV key n j).length = 16 := dblIt_len (sealV_len h (num_len n)) j
/-- A block hidden, or shown, with a tweak. -/
def hideB (key t x : List UInt8) : List UInt8 := xorL (sealV key (xorL x t)) t
def showB (key t x : List UInt8) : List UInt8 := xorL (openV key (xorL x t)) t
theorem hideB_len {key t x : List UInt8} (h : key.length = 16 ∨ key.length = 32) (ht : t.length = 16) (hx : x.length = 16) : (hideB key t x).length = 16 := xorL_len _ _ 16 (sealV_len h (xorL_len _ _ 16 hx ht)) ht
theorem showB_len {key t x : List UInt8} (h : key.length = 16 ∨ key.length = 32) (ht : t.length = 16) (hx : x.length = 16) : (showB key t x).length = 16 := xorL_len _ _ 16 (openV_len h (xorL_len _ _ 16 hx ht)) ht
theorem open_seal {key x : List UInt8} (h : key.length = 16 ∨ key.length = 32) (hx : x.length = 16) : openV key (sealV key x) = x := dec_enc_all (rkeys_16 h) hx
theorem seal_open {key x : List UInt8} (h : key.length = 16 ∨ key.length = 32) (hx : x.length = 16) : sealV key (openV key x) = x := enc_dec_all (rkeys_16 h) hx
theorem show_hide {key t x : List UInt8} (h : key.length = 16 ∨ key.length = 32) (ht : t.length = 16) (hx : x.length = 16) : showB key t (hideB key t x) = x := by
  unfold showB hideB
  rw [xorL_twice (by rw [sealV_len h (xorL_len _ _ 16 hx ht), ht]), open_seal h (xorL_len _ _ 16 hx ht), xorL_twice (by rw [hx, ht])]
theorem hide_show {key t x : List UInt8} (h : key.length = 16 ∨ key.length = 32) (ht : t.length = 16) (hx : x.length = 16) : hideB key t (showB key t x) = x := by
  unfold showB hideB
  rw [xorL_twice (by rw [openV_len h (xorL_len _ _ 16 hx ht), ht]), seal_open h (xorL_len _ _ 16 hx ht), xorL_twice (by rw [hx, ht])]
/-- A text hidden, or shown: the key's halves. -/
def hideV (key : List UInt8) (n : Nat) (l : List UInt8) : List UInt8 := turnL (hideB (key.take (key.length / 2))) (tweakV (key.drop (key.length / 2)) n) false l
def showV (key : List UInt8) (n : Nat) (l : List UInt8) : List UInt8 := turnL (showB (key.take (key.length / 2))) (tweakV (key.drop (key.length / 2)) n) true l
theorem halves_len {key : List UInt8} (h : key.length = 32 ∨ key.length = 64) : ((key.take (key.length / 2)).length = 16 ∨ (key.take (key.length / 2)).length = 32) ∧ ((key.drop (key.length / 2)).length = 16 ∨ (key.drop (key.length / 2)).length = 32) := by
  simp; omega
theorem hide_wide {key : List UInt8} (h : key.length = 32 ∨ key.length = 64) (n : Nat) : Wide (hideB (key.take (key.length / 2))) (tweakV (key.drop (key.length / 2)) n) := fun j _ hx => hideB_len (halves_len h).1 (tweakV_len (halves_len h).2 n j) hx
theorem show_wide {key : List UInt8} (h : key.length = 32 ∨ key.length = 64) (n : Nat) : Wide (showB (key.take (key.length / 2))) (tweakV (key.drop (key.length / 2)) n) := fun j _ hx => showB_len (halves_len h).1 (tweakV_len (halves_len h).2 n j) hx
theorem hideV_len {key : List UInt8} (h : key.length = 32 ∨ key.length = 64) (n : Nat) {l : List UInt8} (hl : 16 ≤ l.length) : (hideV key n l).length = l.length := turnL_len (hide_wide h n) false hl
theorem showV_len {key : List UInt8} (h : key.length = 32 ∨ key.length = 64) (n : Nat) {l : List UInt8} (hl : 16 ≤ l.length) : (showV key n l).length = l.length := turnL_len (show_wide h n) true hl
theorem showV_hideV {key : List UInt8} (h : key.length = 32 ∨ key.length = 64) (n : Nat) {l : List UInt8} (hl : 16 ≤ l.length) : showV key n (hideV key n l) = l :=
  turnL_back (hide_wide h n) (fun j _ hx => show_hide (halves_len h).1 (tweakV_len (halves_len h).2 n j) hx) false hl
theorem hideV_showV {key : List UInt8} (h : key.length = 32 ∨ key.length = 64) (n : Nat) {l : List UInt8} (hl : 16 ≤ l.length) : hideV key n (showV key n l) = l :=
  turnL_back (show_wide h n) (fun j _ hx => hide_show (halves_len h).1 (tweakV_len (halves_len h).2 n j) hx) true hl
/-- The fixed fact ahead of all these laws. -/
theorem alive_is : (hideV (zs 32) 0 (zs 32)).getD 0 0 = 0x91 ∧ (hideV (zs 32) 0 (zs 32)).getD 31 0 = 0x2e := by decide +kernel
attribute [irreducible] dblIt tweakV hideB showB hideV showV
end Go.Proofs.Ytkfggilildiflaa

namespace Go.Proofs.Ytkfggilildiflaa
open Go.ChangeShapes Go.WideShapes Go.ChangeAt Go.RowKit
attribute [local irreducible] xorL sboxL subB sealV openV
/-- A whole number as a number without a sign. -/
def u64N (n : Int) : Nat := (n % 18446744073709551616).toNat
theorem u64N_is (n : Int) : IntKind.u64.wrap n = (u64N n : Int) := by rw [IntKind.wrap_u64]; unfold u64N; omega
theorem u64N_lt (n : Int) : u64N n < 18446744073709551616 := by unfold u64N; omega
theorem u64N_zero : u64N 0 = 0 := by unfold u64N; rfl
attribute [irreducible] u64N
theorem num_ovw (N : Nat) : ovw (bvs (zs 16)) 0 (leB N 8) = bvs (leB N 8 ++ zs 8) := by
  rw [ovw_bvs, leB_len, List.take_zero, List.nil_append]
  congr 2
  unfold zs
  rfl
set_option maxRecDepth 100000 in
set_option maxHeartbeats 1000000 in
theorem tweak_any (key : List UInt8) (n : Int) (v : Value) (w : World) (X : Value) (R : List UInt8) (hR : R.length = 16) (hv : BytesAt w v key)
    (hseal : ∀ w', BytesAt w' v key → Calls Try.prog 59 #[v, .agg (bvs (leB (u64N n) 8 ++ zs 8))] w' fun e w2 => e = .returned (.tuple #[.agg (bvs R), X]) ∧ Below w'.heap.size w' w2) :
    Calls Try.prog 35 #[v, .int .i64 n] w fun e w' => e = .returned (.tuple #[.agg (bvs R), X]) ∧ Below w.heap.size w w' := by
  have s1 : csz (bvs (zs 16)) = 16 := by rw [csz_bvs, zs_len]
  have s2 : csz (bvs (leB (u64N n) 8 ++ zs 8)) = 16 := by rw [csz_bvs, num_len]
  have s3 : csz (bvs R) = 16 := by rw [csz_bvs, hR]
  have z := zs16; have e0 := zs_ne
  have E0 := hid (u64N_is n)
  have E1 := hid (num_ovw (u64N n))
  have HV := hid hv; have HS := hid hseal
  clear hv hseal hR
  generalize u64N n = N at *
  go_enter Try.func35, Try.ntmps35
  go_wp2_with fail
  rw [E0.out]
  (with_reducible refine (putLittle_any _ _ _ _ (bvs (zs 16)) _ _ _ (by go_simp; first | done | rfl | exact ⟨rfl, rfl⟩) (by rw [s1]; omega) (by omega) (by unfold maxLen; omega)).mono ?_)
  rintro e w1 ⟨rfl, rfl⟩
  rw [E1.out]
  go_wp2_with fail
  (with_reducible refine (HS.out _ (HV.out.below (by repeat (first | (with_reducible exact Below.refl _ _) | (with_reducible assumption) | (with_reducible exact grow_below _ _) | (with_reducible exact St.below (by assumption)) | (with_reducible refine below_grow ?_ _) | (with_reducible refine Below.alloc ?_ (by first | omega | (simp; done) | (simp [go_sem]; done) | (simp [go_sem]; omega)) _) | (with_reducible exact (St.put1 (by assumption) _).below) | (with_reducible exact (St.put2 (by assumption) _ _).below) | (with_reducible exact (St.put3 (by assumption) _ _ _).below) | (with_reducible exact (St.put4 (by assumption) _ _ _ _).below) | (with_reducible refine below_put ?_ (by first | omega | (simp [go_sem]; omega)) _ _) | (with_reducible refine Below.drew ?_) | (with_reducible refine Below.setCell ?_ (by first | omega | (simp [go_sem]; omega)) _) | (with_reducible refine below_setRow' ?_ (by first | omega | (simp [go_sem]; omega)) _) | (with_reducible refine below_drewN' ?_ _))))).mono ?_)
  rintro e wg ⟨rfl, hb⟩
  obtain ⟨g1, rfl⟩ := grow_of hb
  clear hb
  go_wp2
  exact post_cell_tmp (n := 16) Try.results35 (by kernel_rfl) (.inl rfl) _ _ _ _ rfl rfl (by go_simp; first | done | rfl | exact ⟨rfl, rfl⟩) (by first | (rw [← csz_is]; assumption) | rfl) ⟨rfl, (by repeat (first | (with_reducible exact Below.refl _ _) | (with_reducible assumption) | (with_reducible exact grow_below _ _) | (with_reducible exact St.below (by assumption)) | (with_reducible refine below_grow ?_ _) | (with_reducible refine Below.alloc ?_ (by first | omega | (simp; done) | (simp [go_sem]; done) | (simp [go_sem]; omega)) _) | (with_reducible exact (St.put1 (by assumption) _).below) | (with_reducible exact (St.put2 (by assumption) _ _).below) | (with_reducible exact (St.put3 (by assumption) _ _ _).below) | (with_reducible exact (St.put4 (by assumption) _ _ _ _).below) | (with_reducible refine below_put ?_ (by first | omega | (simp [go_sem]; omega)) _ _) | (with_reducible refine Below.drew ?_) | (with_reducible refine Below.setCell ?_ (by first | omega | (simp [go_sem]; omega)) _) | (with_reducible refine below_setRow' ?_ (by first | omega | (simp [go_sem]; omega)) _) | (with_reducible refine below_drewN' ?_ _)))⟩
theorem tweak_good (key : List UInt8) (h : key.length = 16 ∨ key.length = 32) (n : Int) (v : Value) (w : World) (hv : BytesAt w v key) :
    Calls Try.prog 35 #[v, .int .i64 n] w fun e w' => e = .returned (.tuple #[.agg (bvs (tweakV key (u64N n) 0)), .nilIface]) ∧ Below w.heap.size w w' := by
  have e : tweakV key (u64N n) 0 = sealV key (leB (u64N n) 8 ++ zs 8) := tweakV_zero _ _
  rw [e]
  exact tweak_any key n v w _ _ (sealV_len h (num_len _)) hv fun w' hv' => seal_good key _ h (num_len _) v w' hv'
theorem tweak_bad (key : List UInt8) (h : ¬ (key.length = 16 ∨ key.length = 32)) (hm : key.length ≤ maxLen) (n : Int) (v : Value) (w : World) (hv : BytesAt w v key) :
    Calls Try.prog 35 #[v, .int .i64 n] w fun e w' => e = .returned (.tuple #[.agg (bvs (zs 16)), .iface 44 (.int .i64 3)]) ∧ Below w.heap.size w w' :=
  tweak_any key n v w _ _ (zs_len 16) hv fun w' hv' => seal_bad key _ h hm (num_len _) v w' hv'
set_option maxRecDepth 100000 in
set_option maxHeartbeats 1000000 in
theorem hideBlock_good (key t x : List UInt8) (h : key.length = 16 ∨ key.length = 32) (ht : t.length = 16) (hx : x.length = 16) (v : Value) (w : World) (hv : BytesAt w v key) :
    Calls Try.prog 37 #[v, .agg (bvs t), .agg (bvs x)] w fun e w' => e = .returned (.tuple #[.agg (bvs (hideB key t x)), .nilIface]) ∧ Below w.heap.size w w' := by
  have hX := xorL_len _ _ 16 hx ht
  have HS := hid (fun w' (hv' : BytesAt w' v key) => seal_good key _ h hX v w' hv')
  have hR : (sealV key (xorL x t)).length = 16 := sealV_len h hX
  have H1 := hid (xor_any x t hx ht)
  have H2 := hid (xor_any _ t hR ht)
  have E := hid (show xorL (sealV key (xorL x t)) t = hideB key t x by unfold hideB; rfl)
  rw [E.out] at H2
  have s1 : csz (bvs (zs 16)) = 16 := by rw [csz_bvs, zs_len]
  have s2 : csz (bvs t) = 16 := by rw [csz_bvs, ht]
  have s3 : csz (bvs x) = 16 := by rw [csz_bvs, hx]
  have s4 : csz (bvs (hideB key t x)) = 16 := by rw [csz_bvs, hideB_len h ht hx]
  have s5 : csz (bvs (sealV key (xorL x t))) = 16 := by rw [csz_bvs, hR]
  have z := zs16; have e0 := zs_ne
  have HV := hid hv
  clear hv hX hR h ht hx E
  go_enter Try.func37, Try.ntmps37
  go_wp2_with fail
  (with_reducible refine (H1.out _).mono ?_)
  rintro e wg ⟨rfl, hb⟩
  obtain ⟨g1, rfl⟩ := grow_of hb
  clear hb
  go_wp2_with fail
  (with_reducible refine (HS.out _ (HV.out.below (by repeat (first | (with_reducible exact Below.refl _ _) | (with_reducible assumption) | (with_reducible exact grow_below _ _) | (with_reducible exact St.below (by assumption)) | (with_reducible refine below_grow ?_ _) | (with_reducible refine Below.alloc ?_ (by first | omega | (simp; done) | (simp [go_sem]; done) | (simp [go_sem]; omega)) _) | (with_reducible exact (St.put1 (by assumption) _).below) | (with_reducible exact (St.put2 (by assumption) _ _).below) | (with_reducible exact (St.put3 (by assumption) _ _ _).below) | (with_reducible exact (St.put4 (by assumption) _ _ _ _).below) | (with_reducible refine below_put ?_ (by first | omega | (simp [go_sem]; omega)) _ _) | (with_reducible refine Below.drew ?_) | (with_reducible refine Below.setCell ?_ (by first | omega | (simp [go_sem]; omega)) _) | (with_reducible refine below_setRow' ?_ (by first | omega | (simp [go_sem]; omega)) _) | (with_reducible refine below_drewN' ?_ _))))).mono ?_)
  rintro e wg ⟨rfl, hb⟩
  obtain ⟨g2, rfl⟩ := grow_of hb
  clear hb
  go_wp2_with fail
  (with_reducible refine (H2.out _).mono ?_)
  rintro e wg ⟨rfl, hb⟩
  obtain ⟨g3, rfl⟩ := grow_of hb
  clear hb
  go_wp2
  exact post_cell_tmp (n := 16) Try.results37 (by kernel_rfl) (.inl rfl) _ _ _ _ rfl rfl (by go_simp; first | done | rfl | exact ⟨rfl, rfl⟩) (by first | (rw [← csz_is]; assumption) | rfl) ⟨rfl, (by repeat (first | (with_reducible exact Below.refl _ _) | (with_reducible assumption) | (with_reducible exact grow_below _ _) | (with_reducible exact St.below (by assumption)) | (with_reducible refine below_grow ?_ _) | (with_reducible refine Below.alloc ?_ (by first | omega | (simp; done) | (simp [go_sem]; done) | (simp [go_sem]; omega)) _) | (with_reducible exact (St.put1 (by assumption) _).below) | (with_reducible exact (St.put2 (by assumption) _ _).below) | (with_reducible exact (St.put3 (by assumption) _ _ _).below) | (with_reducible exact (St.put4 (by assumption) _ _ _ _).below) | (with_reducible refine below_put ?_ (by first | omega | (simp [go_sem]; omega)) _ _) | (with_reducible refine Below.drew ?_) | (with_reducible refine Below.setCell ?_ (by first | omega | (simp [go_sem]; omega)) _) | (with_reducible refine below_setRow' ?_ (by first | omega | (simp [go_sem]; omega)) _) | (with_reducible refine below_drewN' ?_ _)))⟩
set_option maxRecDepth 100000 in
set_option maxHeartbeats 1000000 in
theorem hideBlock_bad (key t x : List UInt8) (h : ¬ (key.length = 16 ∨ key.length = 32)) (hm : key.length ≤ maxLen) (ht : t.length = 16) (hx : x.length = 16) (v : Value) (w : World) (hv : BytesAt w v key) :
    Calls Try.prog 37 #[v, .agg (bvs t), .agg (bvs x)] w fun e w' => e = .returned (.tuple #[.agg (bvs (zs 16)), .iface 44 (.int .i64 3)]) ∧ Below w.heap.size w w' := by
  have hX := xorL_len _ _ 16 hx ht
  have HS := hid (fun w' (hv' : BytesAt w' v key) => seal_bad key _ h hm hX v w' hv')
  have H1 := hid (xor_any x t hx ht)
  have s1 : csz (bvs (zs 16)) = 16 := by rw [csz_bvs, zs_len]
  have s2 : csz (bvs t) = 16 := by rw [csz_bvs, ht]
  have s3 : csz (bvs x) = 16 := by rw [csz_bvs, hx]
  have z := zs16; have e0 := zs_ne
  have HV := hid hv
  clear hv hX h ht hx
  go_enter Try.func37, Try.ntmps37
  go_wp2_with fail
  (with_reducible refine (H1.out _).mono ?_)
  rintro e wg ⟨rfl, hb⟩
  obtain ⟨g1, rfl⟩ := grow_of hb
  clear hb
  go_wp2_with fail
  (with_reducible refine (HS.out _ (HV.out.below (by repeat (first | (with_reducible exact Below.refl _ _) | (with_reducible assumption) | (with_reducible exact grow_below _ _) | (with_reducible exact St.below (by assumption)) | (with_reducible refine below_grow ?_ _) | (with_reducible refine Below.alloc ?_ (by first | omega | (simp; done) | (simp [go_sem]; done) | (simp [go_sem]; omega)) _) | (with_reducible exact (St.put1 (by assumption) _).below) | (with_reducible exact (St.put2 (by assumption) _ _).below) | (with_reducible exact (St.put3 (by assumption) _ _ _).below) | (with_reducible exact (St.put4 (by assumption) _ _ _ _).below) | (with_reducible refine below_put ?_ (by first | omega | (simp [go_sem]; omega)) _ _) | (with_reducible refine Below.drew ?_) | (with_reducible refine Below.setCell ?_ (by first | omega | (simp [go_sem]; omega)) _) | (with_reducible refine below_setRow' ?_ (by first | omega | (simp [go_sem]; omega)) _) | (with_reducible refine below_drewN' ?_ _))))).mono ?_)
  rintro e wg ⟨rfl, hb⟩
  obtain ⟨g2, rfl⟩ := grow_of hb
  clear hb
  go_wp2
  exact post_cell_tmp (n := 16) Try.results37 (by kernel_rfl) (.inl rfl) _ _ _ _ rfl rfl (by go_simp; first | done | rfl | exact ⟨rfl, rfl⟩) (by first | (rw [← csz_is]; assumption) | rfl) ⟨rfl, (by repeat (first | (with_reducible exact Below.refl _ _) | (with_reducible assumption) | (with_reducible exact grow_below _ _) | (with_reducible exact St.below (by assumption)) | (with_reducible refine below_grow ?_ _) | (with_reducible refine Below.alloc ?_ (by first | omega | (simp; done) | (simp [go_sem]; done) | (simp [go_sem]; omega)) _) | (with_reducible exact (St.put1 (by assumption) _).below) | (with_reducible exact (St.put2 (by assumption) _ _).below) | (with_reducible exact (St.put3 (by assumption) _ _ _).below) | (with_reducible exact (St.put4 (by assumption) _ _ _ _).below) | (with_reducible refine below_put ?_ (by first | omega | (simp [go_sem]; omega)) _ _) | (with_reducible refine Below.drew ?_) | (with_reducible refine Below.setCell ?_ (by first | omega | (simp [go_sem]; omega)) _) | (with_reducible refine below_setRow' ?_ (by first | omega | (simp [go_sem]; omega)) _) | (with_reducible refine below_drewN' ?_ _)))⟩
theorem refSeal_any (key x : List UInt8) (_h : key.length = 16 ∨ key.length = 32) (hx : x.length = 16) (hm : key.length ≤ 100000) (v : Value) (w : World) (hr : RowsAt w 16 v (rkeys key)) :
    Calls Try.prog 45 #[v, .agg (bvs x)] w fun e w' => e = .returned (.agg (bvs (sealV key x))) ∧ Below w.heap.size w w' := by
  unfold sealV
  exact refEncrypt_any (rkeys key) x hx v w (keysAt_rows hr) (by rw [rkeys_len]; omega)
set_option maxRecDepth 100000 in
set_option maxHeartbeats 1000000 in
theorem refBlock_any (key t x : List UInt8) (h : key.length = 16 ∨ key.length = 32) (ht : t.length = 16) (hx : x.length = 16) (v : Value) (w : World) (hr : RowsAt w 16 v (rkeys key)) :
    Calls Try.prog 34 #[v, .agg (bvs t), .agg (bvs x)] w fun e w' => e = .returned (.agg (bvs (hideB key t x))) ∧ Below w.heap.size w w' := by
  have hX := xorL_len _ _ 16 hx ht
  have HS := hid (fun w' (hv' : RowsAt w' 16 v (rkeys key)) => refSeal_any key _ h hX (by omega) v w' hv')
  have hR : (sealV key (xorL x t)).length = 16 := sealV_len h hX
  have H1 := hid (refXor_any x t hx ht)
  have H2 := hid (refXor_any _ t hR ht)
  have E := hid (show xorL (sealV key (xorL x t)) t = hideB key t x by unfold hideB; rfl)
  rw [E.out] at H2
  have s1 : csz (bvs (zs 16)) = 16 := by rw [csz_bvs, zs_len]
  have s2 : csz (bvs t) = 16 := by rw [csz_bvs, ht]
  have s3 : csz (bvs x) = 16 := by rw [csz_bvs, hx]
  have s4 : csz (bvs (hideB key t x)) = 16 := by rw [csz_bvs, hideB_len h ht hx]
  have z := zs16; have e0 := zs_ne
  have HV := hid hr
  clear hr hX hR h ht hx E
  go_enter Try.func34, Try.ntmps34
  go_wp2_with fail
  refine region_tail_lit (by kernel_rfl) (by kernel_rfl) ?_
  dsimp only [List.dropLast, List.getLast?, List.getLast, Option.getD]
  repeat (first | (refine BigFrame.wpQuiet_skip rfl ?_; simp only [Act.put, List.setIfInBounds_toArray, List.set_cons_zero, List.set_cons_succ]) | (refine BigFrame.wpQuiet_want rfl (fun K hK => ?_); apply Exists.intro; refine ⟨fun w' hw' => ?_, hK _ ?_⟩; (focus (have zw := hw'; obtain ⟨zg, rfl⟩ := grow_of hw'; go_simp; (try (go_bits; go_simp)); first | done | rfl | (first | ((with_reducible refine (H1.out _).mono fun e w2 h2 => ⟨h2.1, zw.step h2.2⟩)) | ((with_reducible refine (HS.out _ ?_).mono fun e w2 h2 => ⟨h2.1, zw.step h2.2⟩); exact HV.out.below (by repeat (first | (with_reducible exact Below.refl _ _) | (with_reducible assumption) | (with_reducible exact grow_below _ _) | (with_reducible exact St.below (by assumption)) | (with_reducible refine below_grow ?_ _) | (with_reducible refine Below.alloc ?_ (by first | omega | (simp; done) | (simp [go_sem]; done) | (simp [go_sem]; omega)) _) | (with_reducible exact (St.put1 (by assumption) _).below) | (with_reducible exact (St.put2 (by assumption) _ _).below) | (with_reducible exact (St.put3 (by assumption) _ _ _).below) | (with_reducible exact (St.put4 (by assumption) _ _ _ _).below) | (with_reducible refine below_put ?_ (by first | omega | (simp [go_sem]; omega)) _ _) | (with_reducible refine Below.drew ?_) | (with_reducible refine Below.setCell ?_ (by first | omega | (simp [go_sem]; omega)) _) | (with_reducible refine below_setRow' ?_ (by first | omega | (simp [go_sem]; omega)) _) | (with_reducible refine below_drewN' ?_ _)))) | ((with_reducible refine (H2.out _).mono fun e w2 h2 => ⟨h2.1, zw.step h2.2⟩))))); clear hK K; simp only [Act.put, List.setIfInBounds_toArray, List.set_cons_zero, List.set_cons_succ]))
  refine wpQuiet_nil ?_
  intro wq hcq
  obtain ⟨gq, rfl⟩ := grow_of hcq
  clear hcq
  go_wp2
  exact post_cell (n := 16) Try.results34 (by kernel_rfl) (.inl rfl) _ _ _ _ rfl rfl (by go_simp; first | done | rfl | exact ⟨rfl, rfl⟩) (by first | (rw [← csz_is]; assumption) | rfl) ⟨rfl, (by repeat (first | (with_reducible exact Below.refl _ _) | (with_reducible assumption) | (with_reducible exact grow_below _ _) | (with_reducible exact St.below (by assumption)) | (with_reducible refine below_grow ?_ _) | (with_reducible refine Below.alloc ?_ (by first | omega | (simp; done) | (simp [go_sem]; done) | (simp [go_sem]; omega)) _) | (with_reducible exact (St.put1 (by assumption) _).below) | (with_reducible exact (St.put2 (by assumption) _ _).below) | (with_reducible exact (St.put3 (by assumption) _ _ _).below) | (with_reducible exact (St.put4 (by assumption) _ _ _ _).below) | (with_reducible refine below_put ?_ (by first | omega | (simp [go_sem]; omega)) _ _) | (with_reducible refine Below.drew ?_) | (with_reducible refine Below.setCell ?_ (by first | omega | (simp [go_sem]; omega)) _) | (with_reducible refine below_setRow' ?_ (by first | omega | (simp [go_sem]; omega)) _) | (with_reducible refine below_drewN' ?_ _)))⟩
end Go.Proofs.Ytkfggilildiflaa

namespace Go.Proofs.Ytkfggilildiflaa
open Go.ChangeShapes Go.WideShapes Go.ChangeAt Go.RowKit
theorem wrap_succ (k : Nat) : wrap64 (wrap64 (k : Int) + 1) = wrap64 ((k + 1 : Nat) : Int) := by unfold wrap64; omega
theorem Rd.newRow {L0 L : List (Nat × Obj)} {W W1 : World} (h : Rd L0 W L W1) {b : Nat} (hb : W.heap.size ≤ b) (hn : b ∉ L.map (·.1)) (cs : Array Value) : Rd L0 W L (W1.setRow b cs) := by
  refine ⟨⟨fun x hx => ?_, h.holds.2⟩, ⟨h.kept.os, h.kept.tape, h.kept.output, by have := h.kept.size; simpa using this, fun k hk hn2 => ?_⟩, h.fresh⟩
  · refine (setRow_other W1 b x.1 cs (fun e => hn (e ▸ List.mem_map.2 ⟨x, hx, rfl⟩))).trans (h.holds.1 x hx)
  · exact (setRow_other W1 b k cs (by omega)).trans (h.kept.block k hk hn2)
theorem Rd.grow {L0 L : List (Nat × Obj)} {W W1 : World} (h : Rd L0 W L W1) (g : Laid) : Rd L0 W L (Go.Proofs.Ytkfggilildiflaa.grow W1 g) := h.trans (.call h.holds (grow_below W1 g))
theorem Rd.drewN {L0 L : List (Nat × Obj)} {W W1 : World} (h : Rd L0 W L W1) (n : Nat) : Rd L0 W L (W1.drewN n) := h.trans (.call h.holds ⟨rfl, rfl, rfl, Nat.le_refl _, fun _ _ => rfl⟩)
theorem Rd.skip {L0 L : List (Nat × Obj)} {W W1 : World} (h : Rd L0 W L W1) (o : Obj) : Rd L0 W L (W1.alloc o) := h.trans (.call h.holds ((Below.refl _ _).alloc (Nat.le_refl _) _))
theorem Holds.fresh {W : World} {L : List (Nat × Obj)} (h : Holds W L) {b : Nat} (hb : W.heap.size ≤ b) : b ∉ L.map (·.1) := fun hm => by
  obtain ⟨x, hx, he⟩ := List.mem_map.1 hm
  have := h.lt hx
  omega
set_option maxRecDepth 100000 in
set_option maxHeartbeats 1000000 in
theorem tweaks_any (x : List UInt8) (hx : x.length = 16) (w : World) : Calls Try.prog 36 #[.agg (bvs x)] w fun e w' => e = .returned (.func (.func 60) #[] #[.pointer (some ⟨w.heap.size, 0, none⟩)]) ∧ w' = w.alloc (.cells (bvs x) 63) := by
  have s1 : csz (bvs x) = 16 := by rw [csz_bvs, hx]
  clear hx
  go_enter Try.func36, Try.ntmps36
  go_wp2
  go_ret
  exact ⟨rfl, rfl⟩
set_option maxRecDepth 100000 in
set_option maxHeartbeats 2000000 in
theorem tweaks1_iter (x : List UInt8) (hx : x.length = 16) (g : Nat) (W0 : World) (hg : blk W0 g = some (.cells (bvs x) 63 (0, 0))) :
    IterAt Try.prog 60 #[.pointer (some ⟨g, 0, none⟩)] (fun k => #[.int .i64 (wrap64 k), .agg (bvs (dblIt x k))]) none [g] W0 := by
  intro l J Jx M W L0 hbW hR hM hJ0 hH hY
  have hgW : blk W g = some (.cells (bvs x) 63 (0, 0)) := (hbW.block g (blk_lt hg)).trans hg
  have hgl := blk_lt hgW
  have hM' := hid (hM rfl)
  have HY := hid hY
  have s1 : csz (bvs x) = 16 := by rw [csz_bvs, hx]
  have HL := hid (fun k => show csz (bvs (dblIt x k)) = 16 by rw [csz_bvs, dblIt_len hx])
  have HL2 := hid (fun k => dblIt_len hx k)
  have HD := hid (fun k => (dblIt_succ x k).symm)
  have H0 := hid (dblIt_zero x)
  have z := zs16
  have sz : csz (bvs (zs 16)) = 16 := by rw [csz_bvs, zs_len]
  have e0 := zs_ne
  clear hM hY hR hg hbW hx
  refine (callsIn_wide (n := 1)).1 ?_
  refine callsIn_of_wp Try.func60 rfl trivial ?_ rfl
  simp only [Try.ntmps60, List.size_toArray, List.length_cons, List.length_nil, Nat.reduceAdd, Nat.reduceSub, Array.replicate_succ, Array.replicate_zero, List.push_toArray, List.append_toArray, List.nil_append, List.cons_append]
  gi_wp2
  gi_region
  all_goals gi_wp2
  gi_loopg [3, 4] M (fun n u3 u4 wr => ∃ k L b, n + k = M ∧ u3 = .int .i64 (wrap64 ((k : Nat) : Int)) ∧ u4 = .pointer (some ⟨b, 0, none⟩) ∧ J k L ∧ Rd L0 W L wr ∧ blk wr b = some (.cells (bvs (dblIt x k)) 63 (0, 0)) ∧ W.heap.size ≤ b ∧ b ∉ L.map (·.1))
  case atStart => exact ⟨0, L0, W.heap.size, by omega, by simp [wrap64], rfl, hJ0, by repeat (first | exact Rd.refl hH | refine Rd.skip ?_ _ | refine Rd.drewN ?_ _ | exact Rd.drewN ?_ 1), by rw [H0.out]; go_simp, Nat.le_refl _, hH.fresh (Nat.le_refl _)⟩
  case round =>
    obtain ⟨k, L, b, hk, rfl, rfl, hJ, hRd, hb, hbW, hbn⟩ := hrel
    have hl := HL.out k
    have hl2 := HL.out (k + 1)
    have hlt := blk_lt hb
    obtain ⟨fn, tmps, assign, body, hy, hRo⟩ := HY.out k L wr hJ hRd (fun n h => by cases h)
    have HH := hid hRd; have HHJ := hid hJ; have HB := hid hb; have HN := hid hbn
    clear hRd hJ
    gi_wp2
    refine hRo.mono ?_
    rintro e W3 ⟨L2, hRd2, (⟨rfl, hJ2⟩ | ⟨rfl, hx⟩)⟩
    · have hT := HH.out.trans hRd2
      have hm := hM'.out (k + 1) L2 hJ2
      obtain ⟨hb2, hbn2⟩ := hRd2.far HB.out HN.out
      have hb3 : blk W3 b = some (.cells (bvs (dblIt x k)) 63 (0, 0)) := hb2
      have hlt3 := blk_lt hb3
      have hsz := hT.kept.size
      have HT := hid hT; clear hT; have HJ := hid hJ2; have HN2 := hid hbn2
      clear hRd2 hJ2 hRo hy HH HHJ hb2 hbn2 hb
      have hb4 := blk_setRow_same hb3 (bvs (dblIt x (k + 1)))
      gi_wp2_with fail
      refine (callsIn_wide.2 (double_any (dblIt x k) (HL2.out k) _)).mono ?_
      rintro e w' ⟨rfl, hb⟩
      obtain ⟨g3, rfl⟩ := grow_of hb
      rw [HD.out]
      clear hb
      gi_wp2
      gi_roundg (gk - 1)
      case rel =>
        have hR := ((HT.out.newRow hbW HN2.out (bvs (dblIt x (k + 1)))).grow g3)
        exact ⟨k + 1, L2, W3.heap.size + g3.n, by omega, by rw [← wrap_succ], rfl, HJ.out, hR.skip _, by go_simp, by omega, hR.holds.fresh (by go_simp)⟩
      case measure => omega
    · have hT := HH.out.trans hRd2
      gi_wp2
      go_end0
      exact ⟨⟨_, rfl⟩, L2, hT, .inr hx⟩
end Go.Proofs.Ytkfggilildiflaa

namespace Go.Proofs.Ytkfggilildiflaa
open Go.RowKit
/-- None of these operations defers a call. -/
def noDefer (l : List Oper) : Bool := l.all fun o => match o.op with | .defer _ => false | _ => true
theorem noDefer_at {l : List Oper} (h : noDefer l = true) {i : Nat} {o : Oper} (hi : l[i]? = some o) : ∀ c, o.op ≠ .defer c := fun c e => by
  have := List.all_eq_true.1 h o (List.mem_of_getElem? hi)
  simp [e] at this
section
variable {P : Program} {md : Region.Mode} {lp : Nat}
theorem ready_noneR {ops : Array Oper} {Q : Exit → Act → World → Prop} {listed : Array Bool} {a : Act} {w : World} (hr : Region.ready md ops listed = []) (hQ : Q .normal a w) : ∀ fuel, wpAnyIn (Fence.wide.inRound lp) 0 P md ops Q fuel listed a w
  | 0 => ⟨hr, hQ⟩
  | _ + 1 => ⟨fun _ => hQ, fun i hi => by rw [hr] at hi; cases hi⟩
theorem wpIn_of_at {o : Oper} {a : Act} {v : Value} {K : Act → World → Prop} {Q : Exit → Act → World → Prop} {w : World} {C : World → Prop} (hnd : ∀ c, o.op ≠ .defer c) (hC : C w) (h : o.quietAt P a C w v) (hK : ∀ w', C w' → K (a.put o.dst v) w') : o.wpIn (Fence.wide.inRound lp) 0 P a w K Q := by
  unfold Oper.quietAt at h
  unfold Oper.wpIn
  refine ⟨fun _ _ => trivial, ?_⟩
  rw [Oper.semAt_plain _ _ _ hnd]
  generalize (execOp a.eval o).run P w = r at *
  cases r with
  | halt x w' => exact h.elim
  | ok n w' =>
    cases n <;> simp only [Oper.quietUpon] at h <;> simp only [Oper.uponIn]
    case value u => obtain ⟨rfl, rfl⟩ := h; exact hK _ hC
    case skip => obtain ⟨rfl, rfl⟩ := h; exact hK _ hC
    case enter f args =>
      obtain ⟨rfl, h⟩ := h
      refine ⟨(fun hd => by cases hd), callsIn_wide.2 (h.mono fun e w'' he => ?_)⟩
      obtain ⟨rfl, hw⟩ := he
      exact hK _ hw
theorem any_tailR {Q : Exit → Act → World → Prop} {l T : List Oper} (hdn : downB md (l ++ T) = true) (hT : tailOK md (l ++ T).toArray l.length T = true) : ∀ (r : List Oper) (k fuel : Nat) (listed : Array Bool) (a : Act) (w : World), T.drop k = r → listed.size = (l ++ T).length → Closed md (l ++ T).toArray listed →
    (∀ j, j < l.length + k → listed.getD j false = true) → (∀ j, l.length + k ≤ j → j < (l ++ T).length → listed.getD j true = false) → left listed ≤ fuel → wpListIn (Fence.wide.inRound lp) 0 P (l ++ T).toArray Q r a w → wpAnyIn (Fence.wide.inRound lp) 0 P md (l ++ T).toArray Q fuel listed a w
  | [], k, fuel, listed, a, w, hr, hsz, hcl, hl, _, _, h => by
    have hk : T.length ≤ k := List.drop_eq_nil_iff.1 hr
    refine ready_noneR ?_ h fuel
    rw [List.eq_nil_iff_forall_not_mem]
    intro i hi
    obtain ⟨h0, o, ho, _⟩ := mem_ready.1 hi
    have hi' : i < (l ++ T).length := by simpa using (Array.getElem?_eq_some_iff.1 ho).1
    have h1 := hl i (by simp only [List.length_append] at hi'; omega)
    rw [getD_flip (by omega) true false, h1] at h0
    cases h0
  | o :: r, k, fuel, listed, a, w, hr, hsz, hcl, hl, hu, hf, h => by
    have hk : k < T.length := by
      rcases Nat.lt_or_ge k T.length with h' | h'
      · exact h'
      · rw [List.drop_of_length_le h'] at hr; cases hr
    have ho : T[k]? = some o := by
      have := congrArg (fun l => l[0]?) hr
      simpa using this
    have hgo : (l ++ T).toArray[l.length + k]? = some o := by
      simp only [List.getElem?_toArray]
      rw [List.getElem?_append_right (by omega), Nat.add_sub_cancel_left, ho]
    have hun : listed.getD (l.length + k) true = false := hu _ (Nat.le_refl _) (by simp; omega)
    cases fuel with
    | zero => have := left_pos hun; omega
    | succ fuel =>
      refine ⟨fun h0 => absurd h0 (some_ready hdn hsz (l.length + k) (by simp; omega) hun), fun i hi => ?_⟩
      have hik : i = l.length + k := by
        obtain ⟨h0, oi, hoi, _⟩ := mem_ready.1 hi
        have hi' : i < (l ++ T).length := by simpa using (Array.getElem?_eq_some_iff.1 hoi).1
        rcases Nat.lt_trichotomy i (l.length + k) with h' | h' | h'
        · rw [getD_flip (by omega) true false, hl i h'] at h0; cases h0
        · exact h'
        · have hoT : T[i - l.length]? = some oi := by
            simp only [List.getElem?_toArray] at hoi
            rwa [List.getElem?_append_right (by omega)] at hoi
          have := ready_waits hcl hi hoi (tailOK_spec hT hoT (i := l.length + k) (by omega))
          rw [getD_flip (by simp only [List.length_append] at hsz; omega) false true, hun] at this
          cases this
      subst hik
      have hw : wpOpIn (Fence.wide.inRound lp) 0 P (l ++ T).toArray Q (l.length + k) (wpListIn (Fence.wide.inRound lp) 0 P (l ++ T).toArray Q r) a w := by
        unfold wpOpIn
        rw [hgo]
        exact h
      have hd : T.drop (k + 1) = r := by
        have := congrArg List.tail hr
        simpa using this
      refine wpOpIn_mono (fun a' w' h' => any_tailR hdn hT r (k + 1) fuel _ a' w' hd (by simpa using hsz) (hcl.set hi) (fun j hj => ?_) (fun j hj hj2 => ?_) (by have := left_set hun; omega) h') hw
      · by_cases hjk : l.length + k = j
        · subst hjk
          have : l.length + k < listed.size := by simp only [List.length_append] at hsz; omega
          simp [Array.getD, this]
        · rw [getD_set_ne false hjk]; exact hl j (by omega)
      · rw [getD_set_ne true (by omega)]; exact hu j (by omega) hj2

theorem any_frontR {Q : Exit → Act → World → Prop} {l T : List Oper} {W : World} {a0 : Act} {L : List (Oper × Kind)} (hB : frontOK md l T = true) (hND : noDefer l = true) (hL : L.map (·.1) = l)
    (hstep : ∀ k x, L[k]? = some x → stepOK P md (l ++ T).toArray W x.1 (fun b => actT (L.take k) 0 a0 b) (factsT (L.take k) 0 []) x.2)
    (hQ : ∀ b w', New W L (fun _ => true) b w' → wpListIn (Fence.wide.inRound lp) 0 P (l ++ T).toArray Q T (actT L 0 a0 b) w') :
    ∀ (fuel : Nat) (listed : Array Bool) (b : Nat → Nat) (a : Act) (w : World), listed.size = (l ++ T).length → Closed md (l ++ T).toArray listed → (∀ j, l.length ≤ j → j < (l ++ T).length → listed.getD j true = false) → left listed ≤ fuel →
      Sees L a0 (fun j => listed.getD j false) b a → New W L (fun j => listed.getD j false) b w → wpAnyIn (Fence.wide.inRound lp) 0 P md (l ++ T).toArray Q fuel listed a w := by
  simp only [frontOK, Bool.and_eq_true] at hB
  obtain ⟨⟨⟨hsel, hdn⟩, hT⟩, hall⟩ := hB
  have hLl : L.length = l.length := by rw [← hL]; simp
  have hlo : ∀ {i : Nat} {x : Oper × Kind}, L[i]? = some x → l[i]? = some x.1 := fun {i x} h => by rw [← hL]; simp [h]
  have hpair : ∀ {i j : Nat} {x y : Oper × Kind} {t : Tmp}, L[i]? = some x → L[j]? = some y → y.1.dst = some t →
      ((i = j ∨ x.1.dst ≠ some t) ∧ (t ∈ x.1.looksAt (l ++ T).toArray → j < i ∧ direct md x.1 j = true)) := fun {i j x y t} hi hj hd => by
    have hil : i < l.length := by rw [← hLl]; exact (List.getElem?_eq_some_iff.1 hi).1
    have hjl : j < l.length := by rw [← hLl]; exact (List.getElem?_eq_some_iff.1 hj).1
    have h1 := List.all_eq_true.1 hall i (List.mem_range.2 hil)
    simp only [hlo hi] at h1
    have h2 := List.all_eq_true.1 h1 j (List.mem_range.2 hjl)
    simp only [hlo hj, hd, Bool.and_eq_true, Bool.or_eq_true, beq_iff_eq, bne_iff_ne, Bool.not_eq_true', decide_eq_true_eq] at h2
    refine ⟨h2.1, fun ht => h2.2.resolve_left ?_⟩
    simp [ht]
  have hA : Apart L := fun j k x y t hj hk hx hy => ((hpair hj hk hy).1).resolve_right fun h => h hx
  have hfin : ∀ (fuel : Nat) (listed : Array Bool) (b : Nat → Nat) (a : Act) (w : World), listed.size = (l ++ T).length → Closed md (l ++ T).toArray listed → (∀ j, l.length ≤ j → j < (l ++ T).length → listed.getD j true = false) → left listed ≤ fuel →
      Sees L a0 (fun j => listed.getD j false) b a → New W L (fun j => listed.getD j false) b w → (∀ j, j < l.length → listed.getD j false = true) → wpAnyIn (Fence.wide.inRound lp) 0 P md (l ++ T).toArray Q fuel listed a w := by
    intro fuel listed b a w hsz hcl hu hf hS hN hdone
    have ha : a = actT L 0 a0 b := by
      have h2 := Sees.text hA a0 b L.length (Nat.le_refl _)
      rw [List.take_length] at h2
      have ht : a.tmps = (actT L 0 a0 b).tmps := Array.ext_getElem? fun t => hS.same h2 t fun j x hj _ => by
        have hjl : j < L.length := (List.getElem?_eq_some_iff.1 hj).1
        exact ⟨hdone j (by omega), by simpa using hjl⟩
      have hd : a.defers = (actT L 0 a0 b).defers := hS.1.trans h2.1.symm
      cases a
      cases h : actT L 0 a0 b
      rw [h] at ht hd
      simp only at ht hd
      rw [ht, hd]
    subst ha
    have hN' : New W L (fun _ => true) b w := hN.step (Below.refl _ _) fun j o mk cs t hj _ => hdone j (by rw [← hLl]; exact (List.getElem?_eq_some_iff.1 hj).1)
    exact any_tailR hdn hT T 0 fuel listed _ w rfl hsz hcl (fun j hj => hdone j (by simpa using hj)) (fun j hj hj2 => hu j (by simpa using hj) hj2) hf (hQ b w hN')
  intro fuel
  induction fuel with
  | zero =>
    intro listed b a w hsz hcl hu hf hS hN
    refine hfin 0 listed b a w hsz hcl hu hf hS hN fun j hj => ?_
    cases hv : listed.getD j false with
    | true => rfl
    | false =>
      rw [getD_flip (by simp only [List.length_append] at hsz; omega) false true] at hv
      have := left_pos hv; omega
  | succ fuel ih =>
    intro listed b a w hsz hcl hu hf hS hN
    by_cases hdone : ∀ j, j < l.length → listed.getD j false = true
    · exact hfin (fuel + 1) listed b a w hsz hcl hu hf hS hN hdone
    · simp only [Classical.not_forall] at hdone
      obtain ⟨m, hm, hmu⟩ := hdone
      have hmu' : listed.getD m false = false := by simpa using hmu
      have hmt : listed.getD m true = false := by rw [getD_flip (by simp only [List.length_append] at hsz; omega) true false]; exact hmu'
      refine ⟨fun h0 => absurd h0 (some_ready hdn hsz m (by simp only [List.length_append]; omega) hmt), fun i hi => ?_⟩
      obtain ⟨hiu, oi, hoi, _⟩ := mem_ready.1 hi
      have hi' : i < (l ++ T).length := by simpa using (Array.getElem?_eq_some_iff.1 hoi).1
      have hil : i < l.length := by
        rcases Nat.lt_or_ge i l.length with h' | h'
        · exact h'
        · have hoT : T[i - l.length]? = some oi := by
            simp only [List.getElem?_toArray] at hoi
            rwa [List.getElem?_append_right h'] at hoi
          have := ready_waits hcl hi hoi (tailOK_spec hT hoT (i := m) (by omega))
          rw [hmu'] at this; cases this
      have hgx : L[i]? = some (L[i]'(by omega)) := List.getElem?_eq_getElem (by omega)
      generalize L[i]'(by omega) = x at hgx
      have hox : oi = x.1 := by
        simp only [List.getElem?_toArray] at hoi
        rw [List.getElem?_append_left hil, hlo hgx] at hoi
        exact (Option.some.inj hoi).symm
      subst hox
      have hsel' : ∀ cs b, x.1.op ≠ .select cs b := fun cs b => Region.noSelect_spec hsel i x.1 cs b (by simpa using hlo hgx)
      have htext := Sees.text hA a0 b i (by omega)
      have hiu' : listed.getD i false = false := by rw [getD_flip (by omega) false true]; exact hiu
      -- the frame in the text's order looks the same to this operation
      have hsame := eval_same (ops := (l ++ T).toArray) hsel' (a1 := a) (a2 := actT (L.take i) 0 a0 b) fun t ht => hS.same htext t fun j y hj hd => by
        have h1 := (hpair hgx hj hd).2 ht
        exact ⟨direct_listed hi hoi h1.2, by simpa using h1.1⟩
      have hF : FactsAt md x.1 (factsT (L.take i) 0 []) b w := fun f hf hd => by
        rcases mem_factsT _ _ _ hf with h1 | ⟨k, o, mk, hk, he⟩
        · cases h1
        · have hk' : L[k]? = some (o, .fresh mk f.2.1 f.2.2) := by
            rw [List.getElem?_take] at hk
            split at hk
            · exact hk
            · cases hk
          have : f.1 = k := by omega
          rw [this] at hd ⊢
          exact (hN.2.1 k o mk _ _ hk' (direct_listed hi hoi hd)).2
      have hst := hstep i x hgx
      have hset : ∀ j, j < L.length → (j == i || listed.getD j false) = (listed.setIfInBounds i true).getD j false := fun j hj => by
        by_cases hji : i = j
        · subst hji
          simp [Array.getD, show i < listed.size by omega]
        · rw [getD_set_ne false hji]; simp [Ne.symm hji]
      have hu' : ∀ j, l.length ≤ j → j < (l ++ T).length → (listed.setIfInBounds i true).getD j true = false := fun j hj hj2 => by
        rw [getD_set_ne true (by omega)]; exact hu j hj hj2
      have hf' : left (listed.setIfInBounds i true) ≤ fuel := by have := left_set hiu; omega
      have hgo : ∀ (b' : Nat → Nat) (w' : World), Sees L a0 (fun j => j == i || listed.getD j false) b' (a.put x.1.dst (x.2.val (b' i))) → New W L (fun j => j == i || listed.getD j false) b' w' →
          wpAnyIn (Fence.wide.inRound lp) 0 P md (l ++ T).toArray Q fuel (listed.setIfInBounds i true) (a.put x.1.dst (x.2.val (b' i))) w' := fun b' w' hS' hN' =>
        ih _ b' _ w' (by simpa using hsz) (hcl.set hi) hu' hf' (hS'.congr hset (fun _ _ _ => rfl)) (hN'.step (Below.refl _ _) fun j o mk cs t hj hl => by
          rw [hset j (List.getElem?_eq_some_iff.1 hj).1]; exact hl)
      obtain ⟨o, κ⟩ := x
      unfold wpOpIn
      rw [hoi]
      simp only
      cases κ with
      | fix v =>
        have hkeep : ∀ w', Below w.heap.size w w' → New W L (fun j => j == i || listed.getD j false) b w' := fun w' hb => hN.step hb fun j o' mk cs t hj hl => by
          by_cases hji : j = i
          · subst hji; rw [hgx] at hj; cases hj
          · simpa [hji] using hl
        have hS' := hS.put hA hgx
        rcases hst b w hN.1 hF with ⟨hw, hq⟩ | ⟨hw, hv⟩
        · rw [← hsame.2] at hw
          rw [if_pos hw]
          refine wpIn_of_at (C := Below w.heap.size w) (noDefer_at hND (hlo hgx)) (Below.refl _ _) (v := v) ?_ fun w' hb => hgo b w' hS' (hkeep w' hb)
          unfold Oper.quietAt at hq ⊢
          rw [hsame.1]
          exact hq
        · rw [← hsame.2] at hw
          rw [if_neg (by rw [hw]; decide)]
          have h1 := hgo b w hS' (hkeep w (Below.refl _ _))
          simp only [Kind.val, hv] at h1
          exact ⟨fun _ _ => trivial, h1⟩
      | fresh mk cs t =>
        have hN' := hN.lay hgx hiu'
        have hS1 : Sees L a0 (fun j => listed.getD j false) (fun j => if j = i then w.heap.size else b j) a := hS.congr (fun _ _ => rfl) fun j _ hl => by
          rw [if_neg]
          intro e
          subst e
          rw [hiu'] at hl; cases hl
        have hS' := hS1.put hA hgx
        obtain ⟨hw, hr⟩ := hst b w hN.1 hF
        rw [← hsame.2] at hw
        rw [if_pos hw]
        have h1 := hgo _ _ hS' hN'
        unfold Oper.wpIn
        refine ⟨fun _ _ => trivial, ?_⟩
        rw [Oper.semAt_plain _ _ _ (noDefer_at hND (hlo hgx)), hsame.1, hr, Oper.uponIn_value]
        simpa [Kind.val] using h1

/-- **The region: one walk in the text's order.** -/
theorem region_monoR {id : Nat} {Q : Exit → Act → World → Prop} {a : Act} {w : World} (l T : List Oper) (hm : P.follows .mixedOrders = true) (hB : frontOK .any l T = true) (hND : noDefer l = true)
    (h : wpM P .any (l ++ T).toArray w (fun a' F => ∀ b w', Cls w w' → (∀ x ∈ F, w.heap.size ≤ b x.1 ∧ blk w' (b x.1) = some (.cells x.2.1 x.2.2 (0, 0))) → (∀ x ∈ F, ∀ y ∈ F, x.1 ≠ y.1 → b x.1 ≠ b y.1) → wpListIn (Fence.wide.inRound lp) 0 P (l ++ T).toArray Q T (a' b) w') l 0 (fun _ => a) []) :
    (Code.region id (l ++ T).toArray true).wpIn (Fence.wide.inRound lp) 0 P Q a w := by
  obtain ⟨L, hL, hstep, hQ⟩ := wpM_out l 0 _ [] h
  refine wpIn_region_any hm (any_frontR hB hND hL hstep (fun b w' hN => hQ b w' hN.1 (fun x hx => ?_) (fun x hx y hy hne => ?_)) _ _ (fun _ => 0) a _ (by simp) (fun j o _ hl => by simp only [Array.getD] at hl; split at hl <;> simp at hl) (fun j _ hj => by simp only [List.length_append] at hj; simp [Array.getD]; omega) ?_ ?_ ?_)
  · rcases mem_factsT _ _ _ hx with h1 | ⟨k, o, mk, hk, he⟩
    · cases h1
    · have : x.1 = k := by omega
      rw [this]
      exact hN.2.1 k o mk _ _ hk rfl
  · rcases mem_factsT _ _ _ hx with h1 | ⟨k, o, mk, hk, he⟩
    · cases h1
    rcases mem_factsT _ _ _ hy with h1 | ⟨k', o', mk', hk', he'⟩
    · cases h1
    have e1 : x.1 = k := by omega
    have e2 : y.1 = k' := by omega
    rw [e1, e2] at hne ⊢
    exact hN.2.2 k k' _ _ _ _ _ _ _ _ hk hk' rfl rfl hne
  · unfold left
    exact Nat.le_trans List.countP_le_length (by simp)
  · refine (Sees.start L a (fun _ => 0)).congr (fun j _ => ?_) (fun _ _ _ => rfl)
    simp only [Array.getD]
    split <;> simp
  · refine ⟨⟨rfl, rfl, rfl, Nat.le_refl _, fun _ _ => rfl⟩, fun j o mk cs t hj hl => ?_, fun i j x y mx cx tx my cy ty hi hj h1 _ => ?_⟩
    · simp only [Array.getD] at hl
      split at hl <;> simp at hl
    · simp only [Array.getD] at h1
      split at h1 <;> simp at h1

theorem region_monoR_lit {id : Nat} {Q : Exit → Act → World → Prop} {a : Act} {w : World} {l : List Oper} (n : Nat) (hm : P.follows .mixedOrders = true) (hB : frontOK .any (l.take n) (l.drop n) = true) (hND : noDefer (l.take n) = true)
    (h : wpM P .any l.toArray w (fun a' F => ∀ b w', Cls w w' → (∀ x ∈ F, w.heap.size ≤ b x.1 ∧ blk w' (b x.1) = some (.cells x.2.1 x.2.2 (0, 0))) → (∀ x ∈ F, ∀ y ∈ F, x.1 ≠ y.1 → b x.1 ≠ b y.1) → wpListIn (Fence.wide.inRound lp) 0 P l.toArray Q (l.drop n) (a' b) w') (l.take n) 0 (fun _ => a) []) :
    (Code.region id l.toArray true).wpIn (Fence.wide.inRound lp) 0 P Q a w := by
  have := region_monoR (P := P) (id := id) (Q := Q) (a := a) (w := w) (l.take n) (l.drop n) hm hB hND (by rwa [List.take_append_drop])
  rwa [List.take_append_drop] at this

end
end Go.Proofs.Ytkfggilildiflaa

namespace Go.Proofs.Ytkfggilildiflaa
open Go.ChangeShapes Go.WideShapes Go.ChangeAt Go.RowKit
theorem setRow_self {w : World} {g : Nat} {cs : Array Value} {t : TypeId} (h : blk w g = some (.cells cs t (0, 0))) : w.setRow g cs = w := by
  have := put_self h
  rw [← put_is_setRow h]; exact this.symm
theorem run_copy_bytes {P : Program} (w : World) (dT sT ty elem : TypeId) (hu : P.underlying dT = some (.slice elem)) (hs : (P.info? elem).map (·.size) = some 1) {g off dLen dCap : Nat} {cur : Array Value} {t : TypeId} {sv : Value} {L : List UInt8}
    (hg : blk w g = some (.cells cur t (0, 0))) (hS : BytesAt w sv L) (hfit : off + (L.take dLen).length ≤ csz cur) :
    (Builtin.copy_ #[dT, sT] ty #[.slice (some ⟨g, off, none⟩) dLen dCap, sv]).run P w = .ok (.int .i64 ((L.take dLen).length : Int)) (w.setRow g (ovw cur off (L.take dLen))) := by
  obtain ⟨p, c, rfl, hc, h0, h3⟩ := hS
  have hlen : ((L.take dLen).map bv).length = Nat.min L.length dLen := by simp [Nat.min_comm]
  by_cases hz : L.take dLen = []
  · have hmin : Nat.min L.length dLen = 0 := by rw [← hlen, hz]; rfl
    rw [run_copy_none w dT sT ty elem (some ⟨g, off, none⟩) p dLen dCap L.length c hu hs hmin, hz, ovw_nil, setRow_self hg]
    rfl
  · have hne : L ≠ [] := fun e => hz (by rw [e, List.take_nil])
    obtain ⟨b, o, cs, t2, fr, rfl, hb, hx⟩ := h3 hne
    have := run_copy_row (P := P) w dT sT ty elem g off dLen dCap ⟨b, o, none⟩ L.length c cur t ((L.take dLen).map bv) hu hs hg hlen (fun j v hj => by
      rw [add_addr, cell_of_row w b (o + j) cs t2 fr hb]
      simp only [List.getElem?_map, List.getElem?_take] at hj
      split at hj
      · cases hl : L[j]? with
        | none => simp [hl] at hj
        | some x => simp [hl] at hj; subst hj; exact hx j x hl
      · simp at hj) (by rw [List.length_map, ← csz_is]; exact hfit) copy_one'
    rw [this]
    congr 1
    · simp [goInt]
    · congr 1
      unfold ovw
      simp
theorem wp_copy {P : Program} {ops : Array Oper} {rest : List Oper} {o : Oper} {a : Act} {Q : Exit → Act → World → Prop} {w : World} (hgd : o.guard = none) {d s : Operand} {dT sT elem : TypeId} (ho : o.op = .call { callee := .builtin .copy, args := #[d, s], argTypes := #[dT, sT] })
    (hu : P.underlying dT = some (.slice elem)) (hsz : (P.info? elem).map (·.size) = some 1) {g off dLen dCap : Nat} {cur : Array Value} {t : TypeId} {sv : Value} {L : List UInt8} (hd : a.eval d = .slice (some ⟨g, off, none⟩) dLen dCap) (hs : a.eval s = sv)
    (hg : blk w g = some (.cells cur t (0, 0))) (hS : BytesAt w sv L) (hfit : off + (L.take dLen).length ≤ csz cur)
    (h : wpList P ops Q rest (a.put o.dst (.int .i64 ((L.take dLen).length : Int))) (w.setRow g (ovw cur off (L.take dLen)))) : wpList P ops Q (o :: rest) a w := by
  refine wpList_plain hgd fun K hK => ?_
  have hrun := run_copy_bytes (P := P) w dT sT o.type elem hu hsz (dCap := dCap) hg hS hfit
  unfold Oper.wp
  simp [execOp, ho, resolve, invoke, builtin, hd, hs, hrun, Result.andThen]
  exact hK _ _ (by simpa using h)
theorem wpIn_copy {F : Fence} {n : Nat} {P : Program} {ops : Array Oper} {rest : List Oper} {o : Oper} {a : Act} {Q : Exit → Act → World → Prop} {w : World} (hgd : o.guard = none) {d s : Operand} {dT sT elem : TypeId} (ho : o.op = .call { callee := .builtin .copy, args := #[d, s], argTypes := #[dT, sT] })
    (hu : P.underlying dT = some (.slice elem)) (hsz : (P.info? elem).map (·.size) = some 1) {g off dLen dCap : Nat} {cur : Array Value} {t : TypeId} {sv : Value} {L : List UInt8} (hd : a.eval d = .slice (some ⟨g, off, none⟩) dLen dCap) (hs : a.eval s = sv)
    (hg : blk w g = some (.cells cur t (0, 0))) (hS : BytesAt w sv L) (hfit : off + (L.take dLen).length ≤ csz cur)
    (h : wpListIn F n P ops Q rest (a.put o.dst (.int .i64 ((L.take dLen).length : Int))) (w.setRow g (ovw cur off (L.take dLen)))) : wpListIn F n P ops Q (o :: rest) a w := by
  refine wpListIn_plain hgd fun K hK => ?_
  have hrun := run_copy_bytes (P := P) w dT sT o.type elem hu hsz (dCap := dCap) hg hS hfit
  unfold Oper.wpIn
  refine ⟨?_, ?_⟩
  · simp [Oper.about, ho, resolve, Target.leads, Sem.run_pure]
  · rw [Oper.semAt_plain F _ _ (by rw [ho]; intro c hc'; cases hc')]
    simp [execOp, ho, resolve, invoke, builtin, hd, hs, hrun, Result.andThen]
    exact hK _ _ (by simpa using h)
theorem made_noughts (n : Nat) : madeCells (Value.int .u8 0).cells n = bvs (zs n) := by
  apply Array.ext_getElem?
  intro i
  by_cases h : i < n
  · rw [zs_one n i h]
    have : (madeCells (Value.int .u8 0).cells n)[i]? = some ((Value.int .u8 0).cells[i % (Value.int .u8 0).cells.size]!) := by simp [madeCells, h]
    rw [this]
    have e : i % (Value.int .u8 0).cells.size = 0 := by show i % 1 = 0; omega
    rw [e]; rfl
  · rw [Array.getElem?_eq_none (by rw [size_madeCells]; omega), Array.getElem?_eq_none (by rw [bvs_size, zs_len]; omega)]
@[go_sem ↓] theorem run_makeBytes (kl kc : IntKind) (l c : Int) (h0 : 0 ≤ l) (hlc : l ≤ c) (hb : c ≤ 281474976710656) (w : World) :
    (Instr.makeSlice 22 (.int kl l) (.int kc c)).run Try.prog w = .ok (.slice (some ⟨w.heap.size, 0, none⟩) l.toNat c.toNat) (w.alloc (.cells (bvs (zs c.toNat)) 5)) := by
  obtain ⟨ht, i, z, hi, hz, hsz, hby, _⟩ := elemB_iff elem_22
  have hz2 : z = .int .u8 0 := by
    have h : (Try.prog.info? 5).bind (·.zero) = some (.int .u8 0) := by kernel_rfl
    rw [hi] at h
    simpa [hz] using h
  rw [run_make w 22 5 i z ht hi hz kl kc l c h0 hlc (by rw [hby]; omega) (by omega), hsz, Nat.mul_one, hz2, made_noughts]
@[go_sem ↓] theorem run_arrayAt_key (a : Addr) (n c : Nat) (h : 16 ≤ n) (w : World) : (Instr.arrayAt 63 (.slice (some a) n c)).run Try.prog w = .ok (.pointer (some a)) w := by
  have hn : ¬ n < 16 := by omega
  simp [Instr.arrayAt, run_underlying Try.underlying63, hn]
/-- A new block within what has been laid. -/
theorem grow_split {w : World} {g : Laid} {b : Nat} {cs : Array Value} {t : TypeId} (h : w.heap.size ≤ b) (hb : blk (grow w g) b = some (.cells cs t (0, 0))) : ∃ ga gb, grow w g = grow ((grow w ga).alloc (.cells cs t)) gb ∧ b = w.heap.size + ga.n := by
  have hb' : (w.heap ++ g.objs)[b]? = some (.cells cs t (0, 0)) := hb
  rw [Array.getElem?_append, if_neg (by omega)] at hb'
  obtain ⟨hlt, hv⟩ := Array.getElem?_eq_some_iff.1 hb'
  obtain ⟨k, hk⟩ : ∃ k, b = w.heap.size + k := ⟨b - w.heap.size, by omega⟩
  subst hk
  rw [Nat.add_sub_cancel_left] at hb' hlt
  have hm : min k g.objs.size = k := by omega
  refine ⟨⟨g.objs.extract 0 k, 0⟩, ⟨g.objs.extract (k + 1) g.objs.size, g.drawn⟩, ?_, by simp [Laid.n, hm]⟩
  unfold grow World.alloc
  simp only
  congr 1
  apply Array.ext_getElem?
  intro i
  simp only [Array.getElem?_append, Array.getElem?_push, Array.size_push, Array.size_append, Array.size_extract, Array.getElem?_extract, Nat.sub_zero, hm]
  by_cases h1 : i < w.heap.size
  · rw [if_pos h1, if_pos (by omega), if_neg (by omega), if_pos h1]
  · rw [if_neg h1]
    by_cases h2 : i < w.heap.size + k
    · rw [if_pos (by omega), if_neg (by omega), if_neg h1, if_pos (by omega)]
      congr 1; omega
    · by_cases h3 : i = w.heap.size + k
      · subst h3
        rw [if_pos (by omega), if_pos rfl, Nat.add_sub_cancel_left, hb']
      · rw [if_neg (by omega)]
        by_cases h4 : i - w.heap.size < g.objs.size
        · rw [if_pos (by omega)]
          congr 1; omega
        · rw [if_neg (by omega), Array.getElem?_eq_none (by omega)]
theorem bytesAt_whole {w : World} {g n : Nat} {t : TypeId} {fr : Nat × Nat} {L : List UInt8} (h : blk w g = some (.cells (bvs L) t fr)) (hn : L.length = n) : BytesAt w (.slice (some ⟨g, 0, none⟩) n n) L :=
  bytesAt_blk h hn (Nat.le_refl _) fun i x hi => by rw [Nat.zero_add]; exact bvs_at hi
end Go.Proofs.Ytkfggilildiflaa
