/-
  Errors as numbers; bytes side by side; copies with marks. No condition.
-/
import Derived.Test.YtkfbfgjfdjhjdaaTypes
import Derived.Test.YtkfbfgjfdjhjdaaGrow
import Derived.OwnWalk
import Derived.Great.BuildSlice
import Derived.Laws.IdiomStrings
import Derived.Lib.BufferRead
namespace Go.Proofs.Ytkfbfgjfdjhjdaa
open Go.ChangeShapes Go.WideShapes Go.ChangeAt Go.RowKit
theorem BytesAt.text {P : Program} {w : World} {src dst e : TypeId} {v : Value} {l : List UInt8} (h : BytesAt w v l) (hs : P.underlying src = some (.slice e)) (he : P.underlying e = some (.int .u8)) (hd : P.underlying dst = some .string) :
    (convert src dst v).run P w = .ok (.string ⟨l.toArray⟩) w := by
  obtain ⟨p, c, rfl, _, h0, h3⟩ := h
  cases p with
  | none =>
    have : l = [] := by
      by_cases hl : l = []
      · exact hl
      · obtain ⟨_, _, _, _, _, hp, _⟩ := h3 hl; cases hp
    subst this
    exact Lib.run_convert_nil_bytes w src dst e c hs he hd
  | some a =>
    refine run_convert_bytes_back w src dst e a c l hs he hd fun j hj => ?_
    obtain ⟨b, o, cs, t, fr, hp, hb, hx⟩ := h3 (by intro h; subst h; simp at hj)
    cases hp
    rw [add_addr, cell_of_row w b (o + j) cs t fr hb, hx j l[j] (List.getElem?_eq_getElem hj)]
    rfl
theorem bytesAt_of_gr {w0 wr : World} {e m : Nat} {v : Value} {l : List UInt8} {L : List (Nat × Array Value × TypeId)} (hm : l.length = m) (h : Gr w0 wr e 1 v m (l.map bv) L) : BytesAt wr v l := by
  subst hm
  rcases h.own.2 with ⟨rfl, h0⟩ | ⟨g, cap, cur, rfl, _, h3, h4, _, h6, h7⟩
  · have : l = [] := List.eq_nil_of_length_eq_zero h0
    subst this
    exact ⟨none, 0, rfl, Nat.le_refl _, fun _ => rfl, fun h => absurd rfl h⟩
  · refine ⟨_, cap, rfl, h4, (fun h => by cases h), fun _ => ⟨g, 0, cur, e, _, rfl, h3, fun i x hi => ?_⟩⟩
    have := congrArg (·[i]?) h7
    simp only [List.getElem?_take, List.getElem?_map, hi, Option.map_some] at this
    split at this
    · rw [Nat.zero_add]; simpa using this
    · cases this
theorem BytesAt.src {w : World} {v : Value} {l : List UInt8} (h : BytesAt w v l) : SrcAt w v 1 l.length (l.map bv) := by
  obtain ⟨p, c, rfl, _, h0, h3⟩ := h
  refine ⟨by simp, fun u hu => by obtain ⟨x, _, rfl⟩ := List.mem_map.1 hu; rfl, ?_⟩
  cases p with
  | none =>
    have : l = [] := by
      by_cases hl : l = []
      · exact hl
      · obtain ⟨_, _, _, _, _, hp, _⟩ := h3 hl; cases hp
    subst this
    exact .inl ⟨by rw [h0 rfl]; rfl, rfl⟩
  | some a =>
    refine .inr ⟨a, c, rfl, fun j u hj => ?_⟩
    have hjl : j < l.length := by have := (List.getElem?_eq_some_iff.1 hj).1; simpa using this
    obtain ⟨b, o, cs, t, fr, hp, hb, hx⟩ := h3 (by intro h; subst h; simp at hjl)
    cases hp
    rw [add_addr, cell_of_row w b (o + j) cs t fr hb, hx j l[j] (List.getElem?_eq_getElem hjl)]
    simp [List.getElem?_eq_getElem hjl] at hj
    rw [hj]

@[go_sem] theorem run_assert_errno (x : Value) (s : TypeId) (w : World) : (Instr.typeAssert (.iface 56 x) s 56 true).run Try.prog w = .ok (.tuple #[x, .bool true]) w := by
  unfold Instr.typeAssert
  simp [Sem.run_bind, run_underlying Try.underlying56]
set_option maxRecDepth 100000 in
set_option maxHeartbeats 1000000 in
theorem num_nil (w : World) : Calls Try.prog 62 #[.nilIface] w fun e w' => e = .returned (.int .i64 0) ∧ w = w' := by
  go_enter Try.func62, Try.ntmps62
  go_wp2
  go_ret
  exact ⟨rfl, rfl⟩
set_option maxRecDepth 100000 in
set_option maxHeartbeats 1000000 in
theorem num_err (n : Int) (hn : (n == 0) = false) (w : World) : Calls Try.prog 62 #[.iface 56 (.int .i64 n)] w fun e w' => e = .returned (.int .i64 n) ∧ w = w' := by
  go_enter Try.func62, Try.ntmps62
  go_wp2
  go_ret
  exact ⟨rfl, rfl⟩
set_option maxRecDepth 100000 in
set_option maxHeartbeats 1000000 in
theorem is_nil (k : Int) (w : World) : Calls Try.prog 43 #[.nilIface, .int .i64 k] w fun e w' => e = .returned (.bool (0 == k)) ∧ w = w' := by
  go_enter Try.func43, Try.ntmps43
  go_wp2_with fail
  with_reducible refine (num_nil _).mono ?_
  rintro e w1 ⟨rfl, rfl⟩
  go_wp2
  go_ret
  exact ⟨rfl, rfl⟩
set_option maxRecDepth 100000 in
set_option maxHeartbeats 1000000 in
theorem is_err (n k : Int) (hn : (n == 0) = false) (w : World) : Calls Try.prog 43 #[.iface 56 (.int .i64 n), .int .i64 k] w fun e w' => e = .returned (.bool (n == k)) ∧ w = w' := by
  have H := hid hn
  clear hn
  go_enter Try.func43, Try.ntmps43
  go_wp2_with fail
  with_reducible refine (num_err n H.out _).mono ?_
  rintro e w1 ⟨rfl, rfl⟩
  go_wp2
  go_ret
  exact ⟨rfl, rfl⟩

/-- **make([]T, 0, n)**: a slice of one's own. -/
theorem wp_make {P : Program} {ops : Array Oper} {rest : List Oper} {o : Oper} {a : Act} {Q : Exit → Act → World → Prop} {w0 w : World} {t e size bytes : Nat} (hE : elemB P t e size bytes = true) (hgd : o.guard = none) {l c : Operand}
    (ho : o.op = .makeSlice t l c) {L : List (Nat × Array Value × TypeId)} (hS : St w0 w L) {kl kc : IntKind} {C : Int} (n : Nat) (hl : a.eval l = .int kl 0) (hc : a.eval c = .int kc C) (hC : C = (n : Int)) (hb : bytes * n ≤ 281474976710656) (hn : n ≤ maxLen)
    (h : ∀ w', Gr w0 w' e size (.slice (some ⟨w.heap.size, 0, none⟩) 0 n) 0 [] L → wpList P ops Q rest (a.put o.dst (.slice (some ⟨w.heap.size, 0, none⟩) 0 n)) w') : wpList P ops Q (o :: rest) a w := by
  obtain ⟨ht, i, z, hi, hz, hsz, hby, _⟩ := elemB_iff hE
  refine wpList_make_own w hgd l c t ho w0.heap.size e i z size ht hi hz hsz kl kc C n hl hc hC (by rw [hby]; exact hb) hn hS.1.size fun w' h1 h2 => h w' ⟨h1, ?_, ?_⟩
  · refine ⟨hS.1.trans ⟨h2.os, h2.tape, h2.output, h2.size, fun k hk => h2.block k (by have := hS.1.size; omega) (fun h => by cases h)⟩, fun y hy => ⟨(hS.2.1 y hy).1, (h2.block _ (blk_lt (hS.2.1 y hy).2) (fun h => by cases h)).trans (hS.2.1 y hy).2⟩, hS.2.2⟩
  · intro g hg hm
    simp only [Value.ownBlock, Option.some.injEq] at hg
    obtain ⟨y, hy, he⟩ := List.mem_map.1 hm
    have := blk_lt (hS.2.1 y hy).2
    omega
/-- The slice literal of two bytes. -/
def buildSliceB (t : TypeId) (n : Nat) (parts : Array (Nat × Value)) : Sem Value := if n = n then Instr.buildSlice t n parts else Instr.buildSlice t n parts
@[go_sem ↓] theorem buildSlice_bytes (n : Nat) (parts : Array (Nat × Value)) : Instr.buildSlice 46 n parts = buildSliceB 46 n parts := by unfold buildSliceB; rw [if_pos rfl]
@[go_sem] theorem run_bytes2 (a b : Int) (w : World) : (buildSliceB 46 2 #[(0, .int .u8 a), (1, .int .u8 b)]).run Try.prog w = .ok (.slice (some ⟨w.heap.size, 0, none⟩) 2 2) (w.alloc (.cells #[.int .u8 a, .int .u8 b] 5)) := by
  have h : (Try.prog.info? 5).map (fun i => (i.zero, i.size)) = some (some (.int .u8 0), 1) := by kernel_rfl
  cases hi : Try.prog.info? 5 with
  | none => rw [hi] at h; cases h
  | some i =>
    rw [hi] at h
    simp only [Option.map_some, Option.some.injEq, Prod.mk.injEq] at h
    unfold buildSliceB
    rw [if_pos rfl]
    refine run_buildSlice w 46 5 2 _ _ i _ Try.underlying46 hi h.1 (by rw [h.2]; decide) (by rw [h.2]; decide) ?_
    rw [h.2]
    kernel_rfl
/-- A copy of bytes, two marks in its spare room. -/
def CopyOf (w : World) (l : List UInt8) (e : Ending) (w' : World) : Prop :=
  ∃ g cap cur, e = .returned (.slice (some ⟨g, 0, none⟩) l.length cap) ∧ w.heap.size ≤ g ∧ l.length + 2 ≤ cap ∧ cap ≤ maxLen ∧ blk w' g = some (.cells cur 5 (0, 0)) ∧ cur.size = cap ∧ cur.toList.take (l.length + 2) = (l ++ [165, 90]).map bv ∧ Below w.heap.size w w'

set_option maxRecDepth 100000 in
set_option maxHeartbeats 2000000 in
theorem copy_any (l : List UInt8) (v : Value) (w : World) (hv : BytesAt w v l) (hn : l.length ≤ 1000000000) : Calls Try.prog 39 #[v] w (CopyOf w l) := by
  obtain ⟨n, hnn⟩ : ∃ n, n = l.length := ⟨_, rfl⟩
  obtain ⟨p, c, hvs⟩ : ∃ p c, v = .slice p n c := by
    obtain ⟨p, c, h, _⟩ := hv; exact ⟨p, c, by rw [hnn]; exact h⟩
  subst hvs
  have HV := hid hv; have HN := hid hnn
  have hn2 : n ≤ 1000000000 := by omega
  have hc0 : (n : Int) + 2 = ((n + 2 : Nat) : Int) := by omega
  have HC0 := hid hc0
  have HA : ∀ w', Below w.heap.size w w' → SrcAt w' (.slice p n c) 1 n (l.map bv) := fun w' hb => by
    have := (hv.below hb).src
    rwa [← hnn] at this
  have HSRC := hid HA
  clear hv hnn hc0 hn HA
  go_enter Try.func39, Try.ntmps39
  go_wp2_with (first | (refine wp_make elem_46 rfl rfl (St.start w) (n + 2) rfl rfl HC0.out (by omega) (by unfold maxLen; omega) ?_; intro w1 hG1) | (at_builtin; refine wp_append elem_46 rfl rfl hG1 rfl rfl (HSRC.out _ hG1.st.below) (by unfold maxLen; omega) (by omega) ?_; clear hG1; intro v2 w2 hG2 hnil2; have HN2 := hid hnil2; clear hnil2) | (at_builtin; refine wp_append elem_46 rfl rfl (hG2.alloc #[.int .u8 165, .int .u8 90] 5) rfl rfl (SrcAt.own (m := 2) (news := [.int .u8 165, .int .u8 90]) (hG2.alloc #[.int .u8 165, .int .u8 90] 5).st 0 rfl rfl (by simp [Value.oneCell']) (fun j u hj => by simpa using hj)) (by unfold maxLen; omega) (by omega) ?_; clear hG2; intro v3 w3 hG3 hnil3; have hne : v3 ≠ .slice none 0 0 := (fun h => by have := (hnil3.1 h).2; omega); have hop := hG3.open hne; clear hnil3 hne hG3; obtain ⟨g, cap, cur, hv3, hle, hcm, hcs, htk, hS3⟩ := hop; rw [hv3]; clear hv3; have hle2 : (n : Int) ≤ (cap : Int) := (by omega); have HX := hid (And.intro hle (And.intro hcm (And.intro hcs htk))); clear hle hcm hcs htk))
  go_ret
  obtain ⟨h1, h2, h3, h4⟩ := HX.out
  have h0 := hS3.2.1 _ (List.mem_cons_self ..)
  rw [HN.out] at h1 h4 ⊢
  refine ⟨g, cap, cur, rfl, h0.1, by omega, h2, h0.2, by omega, ?_, hS3.below⟩
  rw [Nat.zero_add, Nat.mul_one, List.nil_append] at h4
  rw [h4, List.map_append]
  rfl

set_option maxRecDepth 100000 in
set_option maxHeartbeats 1000000 in
theorem kept_any (l : List UInt8) (g cap : Nat) (cur : Array Value) (v : Value) (w : World) (hg : blk w g = some (.cells cur 5 (0, 0))) (hs : cur.size = cap) (hc : l.length + 2 ≤ cap) (ht : cur.toList.take (l.length + 2) = (l ++ [165, 90]).map bv) (hv : BytesAt w v l) (hn : l.length ≤ 1000000000) (hcm : cap ≤ maxLen) :
    Calls Try.prog 42 #[.slice (some ⟨g, 0, none⟩) l.length cap, v] w fun e w' => e = .returned (.bool true) ∧ Below w.heap.size w w' := by
  have hmine : BytesAt w (.slice (some ⟨g, 0, none⟩) l.length cap) l := by
    refine ⟨_, cap, rfl, by omega, (fun h => by cases h), fun _ => ⟨g, 0, cur, _, _, rfl, hg, fun i x hi => ?_⟩⟩
    have h1 := congrArg (·[i]?) ht
    have hil : i < l.length := (List.getElem?_eq_some_iff.1 hi).1
    simp only [List.getElem?_take, List.getElem?_map] at h1
    rw [if_pos (by omega), List.getElem?_append_left hil, hi] at h1
    rw [Nat.zero_add]; simpa using h1
  have t1 := hmine.text (P := Try.prog) Try.underlying46 Try.underlying5 Try.underlying9
  have t2 := hv.text (P := Try.prog) Try.underlying46 Try.underlying5 Try.underlying9
  have m1 : cur[l.length]? = some (.int .u8 165) := by
    have h1 := congrArg (·[l.length]?) ht
    simp only [List.getElem?_take, List.getElem?_map] at h1
    rw [if_pos (by omega), List.getElem?_append_right (Nat.le_refl _), Nat.sub_self] at h1
    show _ = some (bv 165)
    simpa using h1
  have m2 : cur[l.length + 1]? = some (.int .u8 90) := by
    have h1 := congrArg (·[l.length + 1]?) ht
    simp only [List.getElem?_take, List.getElem?_map] at h1
    rw [if_pos (by omega), List.getElem?_append_right (by omega), show l.length + 1 - l.length = 1 by omega] at h1
    show _ = some (bv 90)
    simpa using h1
  have c1 : w.cell? ⟨g, l.length, none⟩ = some (.int .u8 165) := by rw [cell_of_row w g _ cur _ _ hg]; exact m1
  have c2 : w.cell? ⟨g, l.length + 1, none⟩ = some (.int .u8 90) := by rw [cell_of_row w g _ cur _ _ hg]; exact m2
  obtain ⟨n, hnn⟩ : ∃ n, n = l.length := ⟨_, rfl⟩
  obtain ⟨p, c, hvs⟩ : ∃ p c, v = .slice p n c := by
    obtain ⟨p, c, h, _⟩ := hv; exact ⟨p, c, by rw [hnn]; exact h⟩
  subst hvs
  rw [← hnn] at c1 c2 t1 hc hn ⊢
  clear hmine hv ht m1 m2 hnn hg hs
  have f1 : (n : Int) + 2 ≤ (cap : Int) := by omega
  have f2 : ¬ (cap : Int) < (n : Int) + 2 := by omega
  have f3 : (n : Int) < (n : Int) + 2 := by omega
  have f4 : (n : Int) + 1 < (n : Int) + 2 := by omega
  have f5 : ((n : Int) + 2).toNat = n + 2 := by omega
  have f6 : ((n : Int) + 1).toNat = n + 1 := by omega
  have hB := Below.refl w.heap.size w
  unfold maxLen at hcm
  go_enter Try.func42, Try.ntmps42
  go_wp2
  go_ret
  exact ⟨rfl, hB⟩
end Go.Proofs.Ytkfbfgjfdjhjdaa
