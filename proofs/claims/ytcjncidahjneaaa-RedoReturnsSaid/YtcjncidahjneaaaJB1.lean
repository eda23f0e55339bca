/-
  Laws that the claims of this seat use, of several texts in one: Plain, Grow2, Ovw, Octets, DoubleP, Double, CopyB, CopyG. No condition of their own.
-/
import Derived.Laws.CopyOwn
import Derived.Laws.Cover3
import Derived.Laws.CopyRow
import Derived.Laws.IdiomCopy
import Derived.Test.YtcjncidahjneaaaJB0

namespace Go.Proofs.Ytcjncidahjneaaa
open Go.ChangeShapes Go.WideShapes Go.ChangeAt Go.RowKit

end Go.Proofs.Ytcjncidahjneaaa

namespace Go.Proofs.Ytcjncidahjneaaa
open Go.ChangeShapes Go.WideShapes Go.ChangeAt Go.RowKit
/-- So many cells, of which the first are these. -/
def Beg (cur : Array Value) (m : Nat) (xs : List Value) : Prop := cur.size = m ∧ cur.toList.take xs.length = xs
theorem Beg.nil (cur : Array Value) (m : Nat) (h : cur.size = m) : Beg cur m [] := ⟨h, by simp⟩
theorem Beg.all {cur : Array Value} {m : Nat} {xs : List Value} (h : Beg cur m xs) (hm : xs.length = m) : cur = xs.toArray := by
  obtain ⟨h1, h2⟩ := h
  rw [List.take_of_length_le (by simp; omega)] at h2
  rw [← h2]
theorem Beg.row {cur : Array Value} {m n : Nat} {ks : List (List UInt8)} (h : Beg cur m (flat ks)) (hn : 0 < n) (hk : ∀ k ∈ ks, k.length = n) {i : Nat} {k : List UInt8} (hi : ks[i]? = some k) : i * n + n ≤ csz cur ∧ cut cur (i * n) n = bvs k :=
  row_of_flat hn hk h.2 hi

theorem copy_one' {c : List UInt8} : ∀ v ∈ c.map bv, v.oneCell' = true := fun v hv => by
  obtain ⟨b, _, rfl⟩ := List.mem_map.1 hv
  rfl
/-- One of one's blocks, brought to the front. -/
theorem front_mem {α : Type} : ∀ {L : List α} {i : Nat} {x : α}, L[i]? = some x → ∀ y, y ∈ x :: L.eraseIdx i ↔ y ∈ L
  | [], i, x, h, y => by simp at h
  | a :: L, 0, x, h, y => by simp at h; subst h; simp
  | a :: L, i + 1, x, h, y => by
    have ih := front_mem (L := L) (i := i) (x := x) (by simpa using h) y
    simp only [List.eraseIdx_cons_succ, List.mem_cons] at ih ⊢
    constructor
    · rintro (h1 | h1 | h1)
      · exact .inr (ih.1 (.inl h1))
      · exact .inl h1
      · exact .inr (ih.1 (.inr h1))
    · rintro (h1 | h1)
      · exact .inr (.inl h1)
      · rcases ih.2 h1 with h2 | h2
        · exact .inl h2
        · exact .inr (.inr h2)
theorem front_nodup : ∀ {L : List (Nat × Array Value × TypeId)} {i : Nat} {x : Nat × Array Value × TypeId}, L[i]? = some x → (L.map (·.1)).Nodup → ((x :: L.eraseIdx i).map (·.1)).Nodup
  | [], i, x, h, _ => by simp at h
  | a :: L, 0, x, h, hn => by simp at h; subst h; simpa using hn
  | a :: L, i + 1, x, h, hn => by
    have hx : L[i]? = some x := by simpa using h
    simp only [List.map_cons, List.nodup_cons] at hn
    have ih := front_nodup (L := L) hx hn.2
    simp only [List.map_cons, List.nodup_cons, List.eraseIdx_cons_succ] at ih ⊢
    have hne : x.1 ≠ a.1 := fun e => hn.1 (e ▸ List.mem_map.2 ⟨x, List.mem_of_getElem? hx, rfl⟩)
    refine ⟨?_, ?_, ih.2⟩
    · simp only [List.mem_cons, not_or]
      exact ⟨hne, ih.1⟩
    · intro hm
      obtain ⟨y, hy, he⟩ := List.mem_map.1 hm
      exact hn.1 (List.mem_map.2 ⟨y, (front_mem hx y).1 (List.mem_cons_of_mem _ hy), he⟩)
theorem St.front {w0 wr : World} {L : List (Nat × Array Value × TypeId)} (h : St w0 wr L) (i : Nat) {x : Nat × Array Value × TypeId} (hi : L[i]? = some x) : St w0 wr (x :: L.eraseIdx i) :=
  ⟨h.1, fun y hy => h.2.1 y ((front_mem hi y).1 hy), front_nodup hi h.2.2⟩

end Go.Proofs.Ytcjncidahjneaaa

namespace Go.Proofs.Ytcjncidahjneaaa
open Go.ChangeShapes Go.WideShapes Go.ChangeAt Go.RowKit
/-- Cells written over from a place on. -/
def ovw (cur : Array Value) (o : Nat) (l : List UInt8) : Array Value := (cur.toList.take o ++ (l.map bv ++ cur.toList.drop (o + l.length))).toArray
theorem ovw_size {cur : Array Value} {o : Nat} {l : List UInt8} (h : o + l.length ≤ cur.size) : (ovw cur o l).size = cur.size := by
  unfold ovw; simp; omega
theorem ovw_nil (cur : Array Value) (o : Nat) : ovw cur o [] = cur := by
  unfold ovw; simp
theorem ovw_bvs (x l : List UInt8) (o : Nat) : ovw (bvs x) o l = bvs (x.take o ++ (l ++ x.drop (o + l.length))) := by
  unfold ovw bvs
  simp [List.map_take, List.map_drop]
/-- A number's bytes, the lowest first. -/
def leB (n : Nat) : Nat → List UInt8
  | 0 => []
  | k + 1 => leB n k ++ [UInt8.ofNat (n / 256 ^ k)]
theorem leB_succ (n k : Nat) : leB n (k + 1) = leB n k ++ [UInt8.ofNat (n / 256 ^ k)] := rfl
theorem leB_len (n k : Nat) : (leB n k).length = k := by
  induction k with
  | zero => rfl
  | succ k ih => simp [leB_succ, ih]
theorem leB_cons (n k : Nat) : leB n (k + 1) = UInt8.ofNat n :: leB (n / 256) k := by
  induction k with
  | zero => simp [leB]
  | succ k ih =>
    rw [leB_succ, ih, leB_succ (n / 256) k, List.cons_append, Nat.div_div_eq_div_mul, Nat.pow_succ, Nat.mul_comm]
/-- A number out of bytes, the lowest first. -/
def leN : List UInt8 → Nat
  | [] => 0
  | b :: l => b.toNat + 256 * leN l
theorem leN_lt : ∀ l : List UInt8, leN l < 256 ^ l.length
  | [] => by simp [leN]
  | b :: l => by
    have h := leN_lt l
    have hb := b.toNat_lt
    simp only [leN, List.length_cons, Nat.pow_succ]
    omega
theorem leN_leB (n k : Nat) : leN (leB n k) = n % 256 ^ k := by
  induction k generalizing n with
  | zero => simp [leB, leN, Nat.mod_one]
  | succ k ih =>
    rw [leB_cons, leN, ih]
    rw [Nat.pow_succ, Nat.mul_comm (256 ^ k) 256, Nat.mod_mul]
    simp
theorem ovw_cons {cur : Array Value} {o : Nat} {l : List UInt8} (h : o + 1 + l.length ≤ cur.size) (b : UInt8) : (ovw cur (o + 1) l).setIfInBounds o (bv b) = ovw cur o (b :: l) := by
  have ho : o < cur.toList.length := by simp; omega
  have h1 : (cur.toList.take o).length = o := by simp; omega
  unfold ovw
  rw [List.take_succ_eq_append_getElem ho, List.append_assoc, List.setIfInBounds_toArray, List.set_append_right _ _ (by omega), h1, Nat.sub_self, List.length_cons, show o + (l.length + 1) = o + 1 + l.length by omega]
  rfl
/-- A number's bytes, and a number out of bytes, the highest first. -/
def beB (n k : Nat) : List UInt8 := (leB n k).reverse
def beN (l : List UInt8) : Nat := leN l.reverse
theorem beB_zero (n : Nat) : beB n 0 = [] := rfl
theorem beB_succ (n k : Nat) : beB n (k + 1) = UInt8.ofNat (n / 256 ^ k) :: beB n k := by
  unfold beB; rw [leB_succ, List.reverse_append]; rfl
theorem beB_len (n k : Nat) : (beB n k).length = k := by unfold beB; rw [List.length_reverse, leB_len]
theorem beN_snoc (l : List UInt8) (b : UInt8) : beN (l ++ [b]) = b.toNat + 256 * beN l := by
  unfold beN; rw [List.reverse_append]; rfl
theorem beN_nil : beN [] = 0 := rfl
theorem beN_lt (l : List UInt8) : beN l < 256 ^ l.length := by
  have := leN_lt l.reverse
  rwa [List.length_reverse] at this
theorem beN_beB (n k : Nat) : beN (beB n k) = n % 256 ^ k := by
  unfold beB beN
  rw [List.reverse_reverse, leN_leB]
attribute [irreducible] ovw leB leN beB beN
end Go.Proofs.Ytcjncidahjneaaa

namespace Go.Proofs.Ytcjncidahjneaaa
open Go.ChangeShapes Go.WideShapes Go.ChangeAt Go.RowKit
set_option maxRecDepth 100000 in
set_option maxHeartbeats 1000000 in
theorem putBig_any (g off n c : Nat) (cur : Array Value) (t : TypeId) (x : Nat) (w : World) (hb : blk w g = some (.cells cur t (0, 0))) (hfit : off + n ≤ csz cur) (hn : n ≤ 1000000000) (_hc : c ≤ maxLen) :
    Calls Try.prog 32 #[.slice (some ⟨g, off, none⟩) n c, .int .u64 x] w fun e w' => e = .returned (.tuple #[]) ∧ w' = w.setRow g (ovw cur off (beB x n)) := by
  rw [← put_is_setRow hb]
  have H0 : Hid (w = putRow w g cur t) := hid (put_self hb)
  have hlt := blk_lt hb
  clear hb
  rw [csz_is] at hfit
  go_enter Try.func32, Try.ntmps32
  go_wp2_with fail
  go_loopw [1, 4] (fun u1 i wr => ∃ k : Nat, k ≤ n ∧ i = .int .i64 ((n : Int) - 1 - k) ∧ u1 = .int .u64 ((x / 256 ^ k : Nat) : Int) ∧ wr = putRow w g (ovw cur (off + n - k) (beB x k)) t)
    (fun _ i _ => (intOf i + 1).toNat)
  case atStart => exact ⟨0, by omega, by simp, by simp, by rw [beB_zero, ovw_nil]; exact H0.out⟩
  case round =>
    obtain ⟨k, hk, rfl, rfl, rfl⟩ := hrel
    by_cases hkn : k < n
    · have hl : (beB x k).length = k := beB_len x k
      obtain ⟨m, hm⟩ : ∃ m, n = k + 1 + m := ⟨n - (k + 1), by omega⟩
      have e1 : off + n - k = off + m + 1 := by omega
      have e2 : (n : Int) - 1 - k = (m : Int) := by omega
      have e3 : off + n - (k + 1) = off + m := by omega
      obtain ⟨v0, hv0⟩ : ∃ v0, (ovw cur (off + m + 1) (beB x k))[off + m]? = some v0 := ⟨_, Array.getElem?_eq_getElem (by rw [ovw_size (by omega)]; omega)⟩
      have hs := ovw_cons (cur := cur) (o := off + m) (l := beB x k) (by omega) (UInt8.ofNat (x / 256 ^ k))
      rw [← beB_succ] at hs
      have hd : x / 256 ^ (k + 1) = x / 256 ^ k / 256 := by rw [Nat.pow_succ, Nat.div_div_eq_div_mul]
      have hbv : bv (UInt8.ofNat (x / 256 ^ k)) = .int .u8 (((x / 256 ^ k : Nat) : Int) % 256) := by simp [bv]
      rw [hbv] at hs
      rw [e1, e2]
      have hmn : (m : Int) < (n : Int) := by omega
      have HS := hid hs; have HD := hid hd; have HM := hid hm; have H3 := hid e3
      clear hl hs hd hbv hm e1 e2 e3 H0
      generalize x / 256 ^ k = y at *
      go_wp2
      go_roundw
      case rel => exact ⟨k + 1, by omega, by rw [HM.out]; congr 1; omega, by rw [HD.out]; rfl, by rw [H3.out, ← HS.out]⟩
      case measure => simp [intOf]
    · obtain rfl : k = n := by omega
      rw [show (k : Int) - 1 - k = -1 by omega, show off + k - k = off by omega]
      go_wp2
      go_end0
      exact ⟨rfl, rfl⟩
theorem or_byte (y c : Nat) (hc : c < 256) : y * 256 ||| c = y * 256 + c := by
  have := Nat.two_pow_add_eq_or_of_lt (i := 8) (b := c) (by omega) y
  rw [Nat.mul_comm] at this
  exact this.symm
theorem BytesAt.cell {w : World} {p : Option Addr} {n c : Nat} {l : List UInt8} (h : BytesAt w (.slice p n c) l) {i : Nat} {x : UInt8} (hi : l[i]? = some x) : ∃ b o, p = some ⟨b, o, none⟩ ∧ w.cell? ⟨b, o + i, none⟩ = some (.int .u8 (x.toNat : Int)) ∧ b < w.heap.size := by
  obtain ⟨p', c', hv, h1, _, h3⟩ := h
  simp only [Value.slice.injEq] at hv
  obtain ⟨rfl, _, _⟩ := hv
  obtain ⟨b, o, cs, t, e, hp, hb, hx⟩ := h3 (by intro h; subst h; simp at hi)
  exact ⟨b, o, hp, by rw [cell_of_row w b (o + i) cs t e hb, hx i x hi]; rfl, blk_lt hb⟩
theorem BytesAt.slice {w : World} {v : Value} {l : List UInt8} (h : BytesAt w v l) : ∃ p c, v = .slice p l.length c ∧ l.length ≤ c := by
  obtain ⟨p, c, hv, h1, _, _⟩ := h
  exact ⟨p, c, hv, h1⟩
theorem or_u64 (y d : Nat) (hy : y < 72057594037927936) (hd : d < 256) : bits .or .u64 ((y : Int) * 256) (d : Int) = ((y * 256 + d : Nat) : Int) := by
  have h := u64_or_nat (y * 256) d (by omega) (by omega)
  rw [or_byte y d hd] at h
  rw [← h]
  simp
theorem beN_take {l : List UInt8} {i : Nat} {x : UInt8} (hi : l[i]? = some x) : beN (l.take (i + 1)) = beN (l.take i) * 256 + x.toNat := by
  obtain ⟨h, rfl⟩ := List.getElem?_eq_some_iff.1 hi
  rw [List.take_succ_eq_append_getElem h, beN_snoc]
  omega
set_option maxRecDepth 100000 in
set_option maxHeartbeats 1000000 in
theorem big_any (v : Value) (l : List UInt8) (w : World) (hv : BytesAt w v l) (hl : l.length ≤ 8) :
    Calls Try.prog 35 #[v] w fun e w' => e = .returned (.int .u64 (beN l)) ∧ w = w' := by
  obtain ⟨p, c, rfl, hc⟩ := hv.slice
  have HV := hid hv
  have hlt : ∀ i, i < l.length → beN (l.take i) < 256 ^ i := fun i hi => by have := beN_lt (l.take i); rwa [List.length_take, Nat.min_eq_left (by omega)] at this
  have HL := hid hlt
  have H0 := hid (show beN (l.take 0) = 0 by rw [List.take_zero, beN_nil])
  have HE := hid (show beN (l.take l.length) = beN l by rw [List.take_length])
  obtain ⟨n, hn⟩ : ∃ n, n = l.length := ⟨_, rfl⟩
  rw [← hn] at hl HL HE HV hc ⊢
  have HN := hid hn
  clear hv hlt hn
  go_enter Try.func35, Try.ntmps35
  go_wp2_with fail
  go_loop [3, 5, 8] (fun u3 u5 i => ∃ k : Nat, k ≤ n ∧ i = .int .i64 (k : Int) ∧ u3 = .int .u64 ((beN (l.take k) : Nat) : Int)) (fun _ _ i => n - (intOf i).toNat)
  case atStart => exact ⟨0, by omega, by simp, by rw [H0.out]; rfl⟩
  case round =>
    obtain ⟨m, hk, rfl, rfl⟩ := hrel
    by_cases hk0 : m < n
    · have hx : l[m]? = some (l.getD m 0) := get_some (by rw [← HN.out]; omega)
      obtain ⟨b, o, rfl, hcell, _⟩ := HV.out.cell hx
      have hs := hid (beN_take hx)
      have h1 := HL.out m hk0
      have hb := (l.getD m 0).toNat_lt
      have hp : 256 ^ m ≤ 256 ^ 7 := Nat.pow_le_pow_right (by omega) (by omega)
      have h2 : beN (l.take m) < 72057594037927936 := by omega
      have ho := hid (or_u64 (beN (l.take m)) _ h2 hb)
      clear hx h1 hp
      generalize (l.getD m 0).toNat = d at *
      generalize beN (l.take m) = y at *
      go_wp2
      go_round
      case rel => exact ⟨m + 1, by omega, by go_num, by rw [hs.out, ho.out]⟩
      case measure => simp [intOf]; omega
    · obtain rfl : m = n := by omega
      go_wp2
      go_ret
      exact ⟨by rw [← HE.out]; rfl, rfl⟩
end Go.Proofs.Ytcjncidahjneaaa

namespace Go.Proofs.Ytcjncidahjneaaa
open Go.ChangeShapes Go.WideShapes Go.ChangeAt Go.RowKit
end Go.Proofs.Ytcjncidahjneaaa

namespace Go.Proofs.Ytcjncidahjneaaa
open Go.ChangeShapes Go.WideShapes Go.ChangeAt Go.RowKit
theorem bytesAt_blk {w : World} {g o n c : Nat} {cs : Array Value} {t : TypeId} {fr : Nat × Nat} {l : List UInt8} (hg : blk w g = some (.cells cs t fr)) (hn : l.length = n) (hc : n ≤ c) (h : ∀ i x, l[i]? = some x → cs[o + i]? = some (bv x)) : BytesAt w (.slice (some ⟨g, o, none⟩) n c) l := by
  subst hn
  exact ⟨_, c, rfl, hc, (fun h => by cases h), fun _ => ⟨g, o, cs, t, fr, rfl, hg, h⟩⟩
theorem bytesAt_bvs {w : World} {g o n c : Nat} {L : List UInt8} {t : TypeId} {fr : Nat × Nat} (hg : blk w g = some (.cells (bvs L) t fr)) (hL : o + n ≤ L.length) (hc : n ≤ c) : BytesAt w (.slice (some ⟨g, o, none⟩) n c) ((L.drop o).take n) := by
  refine bytesAt_blk hg (by simp; omega) hc fun i x hi => ?_
  simp only [List.getElem?_take, List.getElem?_drop] at hi
  split at hi
  · exact bvs_at hi
  · cases hi
end Go.Proofs.Ytcjncidahjneaaa

namespace Go.Proofs.Ytcjncidahjneaaa
open Go.ChangeShapes Go.WideShapes Go.ChangeAt Go.RowKit
theorem setRow_self {w : World} {g : Nat} {cs : Array Value} {t : TypeId} (h : blk w g = some (.cells cs t (0, 0))) : w.setRow g cs = w := by
  have := put_self h
  rw [← put_is_setRow h]; exact this.symm
theorem run_copy_bytes {P : Program} (w : World) (dT sT ty elem : TypeId) (hu : P.underlying dT = some (.slice elem)) (hs : (P.info? elem).map (·.size) = some 1) {g off dLen dCap : Nat} {cur : Array Value} {t : TypeId} {sv : Value} {L : List UInt8}
    (hg : blk w g = some (.cells cur t (0, 0))) (hS : BytesAt w sv L) (hfit : off + (L.take dLen).length ≤ csz cur) :
    (Builtin.copy_ #[dT, sT] ty #[.slice (some ⟨g, off, none⟩) dLen dCap, sv]).run P w = .ok (.int .i64 ((L.take dLen).length : Int)) (w.setRow g (ovw cur off (L.take dLen))) := by
  obtain ⟨p, c, rfl, hc, h0, h3⟩ := hS
  have hlen : ((L.take dLen).map bv).length = Nat.min L.length dLen := by simp [Nat.min_comm]
  by_cases hz : L.take dLen = []
  · have hmin : Nat.min L.length dLen = 0 := by rw [← hlen, hz]; rfl
    rw [run_copy_none w dT sT ty elem (some ⟨g, off, none⟩) p dLen dCap L.length c hu hs hmin, hz, ovw_nil, setRow_self hg]
    rfl
  · have hne : L ≠ [] := fun e => hz (by rw [e, List.take_nil])
    obtain ⟨b, o, cs, t2, fr, rfl, hb, hx⟩ := h3 hne
    have := run_copy_row (P := P) w dT sT ty elem g off dLen dCap ⟨b, o, none⟩ L.length c cur t ((L.take dLen).map bv) hu hs hg hlen (fun j v hj => by
      rw [add_addr, cell_of_row w b (o + j) cs t2 fr hb]
      simp only [List.getElem?_map, List.getElem?_take] at hj
      split at hj
      · cases hl : L[j]? with
        | none => simp [hl] at hj
        | some x => simp [hl] at hj; subst hj; exact hx j x hl
      · simp at hj) (by rw [List.length_map, ← csz_is]; exact hfit) copy_one'
    rw [this]
    congr 1
    · simp [goInt]
    · congr 1
      unfold ovw
      simp
theorem made_noughts (n : Nat) : madeCells (Value.int .u8 0).cells n = bvs (zs n) := by
  apply Array.ext_getElem?
  intro i
  by_cases h : i < n
  · rw [zs_one n i h]
    have : (madeCells (Value.int .u8 0).cells n)[i]? = some ((Value.int .u8 0).cells[i % (Value.int .u8 0).cells.size]!) := by simp [madeCells, h]
    rw [this]
    have e : i % (Value.int .u8 0).cells.size = 0 := by show i % 1 = 0; omega
    rw [e]; rfl
  · rw [Array.getElem?_eq_none (by rw [size_madeCells]; omega), Array.getElem?_eq_none (by rw [bvs_size, zs_len]; omega)]
@[go_sem ↓] theorem run_makeBytes (kl kc : IntKind) (l c : Int) (h0 : 0 ≤ l) (hlc : l ≤ c) (hb : c ≤ 281474976710656) (w : World) :
    (Instr.makeSlice 22 (.int kl l) (.int kc c)).run Try.prog w = .ok (.slice (some ⟨w.heap.size, 0, none⟩) l.toNat c.toNat) (w.alloc (.cells (bvs (zs c.toNat)) 5)) := by
  obtain ⟨ht, i, z, hi, hz, hsz, hby, _⟩ := elemB_iff elem_22
  have hz2 : z = .int .u8 0 := by
    have h : (Try.prog.info? 5).bind (·.zero) = some (.int .u8 0) := by kernel_rfl
    rw [hi] at h
    simpa [hz] using h
  rw [run_make w 22 5 i z ht hi hz kl kc l c h0 hlc (by rw [hby]; omega) (by omega), hsz, Nat.mul_one, hz2, made_noughts]
theorem bytesAt_whole {w : World} {g n : Nat} {t : TypeId} {fr : Nat × Nat} {L : List UInt8} (h : blk w g = some (.cells (bvs L) t fr)) (hn : L.length = n) : BytesAt w (.slice (some ⟨g, 0, none⟩) n n) L :=
  bytesAt_blk h hn (Nat.le_refl _) fun i x hi => by rw [Nat.zero_add]; exact bvs_at hi
end Go.Proofs.Ytcjncidahjneaaa

namespace Go.Proofs.Ytcjncidahjneaaa
open Go.ChangeShapes Go.WideShapes Go.ChangeAt Go.RowKit
/-- What a copy's block holds. -/
def Kp (l : List UInt8) (cap : Nat) (cur : Array Value) : Prop := l.length + 2 ≤ cap ∧ cap ≤ maxLen ∧ cur.size = cap ∧ cur.toList.take (l.length + 2) = (l ++ [165, 90]).map bv
theorem Kp.bytes {l : List UInt8} {cap : Nat} {cur : Array Value} (h : Kp l cap cur) {w : World} {g : Nat} {t : TypeId} {fr : Nat × Nat} (hg : blk w g = some (.cells cur t fr)) : BytesAt w (.slice (some ⟨g, 0, none⟩) l.length cap) l := by
  obtain ⟨h1, h2, h3, h4⟩ := h
  refine ⟨_, cap, rfl, by omega, (fun h => by cases h), fun _ => ⟨g, 0, cur, _, _, rfl, hg, fun i x hi => ?_⟩⟩
  have h5 := congrArg (·[i]?) h4
  have hil : i < l.length := (List.getElem?_eq_some_iff.1 hi).1
  simp only [List.getElem?_take, List.getElem?_map] at h5
  rw [if_pos (by omega), List.getElem?_append_left hil, hi] at h5
  rw [Nat.zero_add]; simpa using h5
end Go.Proofs.Ytcjncidahjneaaa
