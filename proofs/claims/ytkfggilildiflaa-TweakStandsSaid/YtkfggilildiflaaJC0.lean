/-
  Laws that the claims of this seat use, of several texts in one: CopyG, Alive6, AppendB, NumKey, StandsP, StandsBad. No condition of their own.
-/
import Derived.Test.YtkfggilildiflaaJB1

namespace Go.Proofs.Ytkfggilildiflaa
open Go.ChangeShapes Go.WideShapes Go.ChangeAt Go.RowKit
/-- What a copy's block holds. -/
def Kp (l : List UInt8) (cap : Nat) (cur : Array Value) : Prop := l.length + 2 ≤ cap ∧ cap ≤ maxLen ∧ cur.size = cap ∧ cur.toList.take (l.length + 2) = (l ++ [165, 90]).map bv
theorem Kp.bytes {l : List UInt8} {cap : Nat} {cur : Array Value} (h : Kp l cap cur) {w : World} {g : Nat} {t : TypeId} {fr : Nat × Nat} (hg : blk w g = some (.cells cur t fr)) : BytesAt w (.slice (some ⟨g, 0, none⟩) l.length cap) l := by
  obtain ⟨h1, h2, h3, h4⟩ := h
  refine ⟨_, cap, rfl, by omega, (fun h => by cases h), fun _ => ⟨g, 0, cur, _, _, rfl, hg, fun i x hi => ?_⟩⟩
  have h5 := congrArg (·[i]?) h4
  have hil : i < l.length := (List.getElem?_eq_some_iff.1 hi).1
  simp only [List.getElem?_take, List.getElem?_map] at h5
  rw [if_pos (by omega), List.getElem?_append_left hil, hi] at h5
  rw [Nat.zero_add]; simpa using h5
theorem copy_g (l : List UInt8) (v : Value) (w : World) (hv : BytesAt w v l) (hn : l.length ≤ 1000000000) : Calls Try.prog 13 #[v] w fun e w' =>
    ∃ ga gb cap cur, e = .returned (.slice (some ⟨w.heap.size + ga.n, 0, none⟩) l.length cap) ∧ Kp l cap cur ∧ w' = grow ((grow w ga).alloc (.cells cur 5)) gb := by
  refine (copy_any l v w hv hn).mono ?_
  rintro e w' ⟨g, cap, cur, rfl, h1, h2, h3, h4, h5, h6, h7⟩
  obtain ⟨gg, rfl⟩ := grow_of h7
  obtain ⟨ga, gb, he, rfl⟩ := grow_split h1 h4
  exact ⟨ga, gb, cap, cur, rfl, ⟨h2, h3, h5, h6⟩, he⟩
theorem kept_g (l : List UInt8) (cap : Nat) (cur : Array Value) (hK : Kp l cap cur) (g : Nat) (v : Value) (w : World) (hg : blk w g = some (.cells cur 5 (0, 0))) (hv : BytesAt w v l) (hn : l.length ≤ 1000000000) :
    Calls Try.prog 18 #[.slice (some ⟨g, 0, none⟩) l.length cap, v] w fun e w' => e = .returned (.bool true) ∧ Below w.heap.size w w' :=
  kept_any l g cap cur v w hg hK.2.2.1 hK.1 hK.2.2.2 hv hn hK.2.1
end Go.Proofs.Ytkfggilildiflaa

namespace Go.Proofs.Ytkfggilildiflaa
open Go.ChangeShapes Go.WideShapes Go.ChangeAt Go.RowKit
attribute [local irreducible] xorL sboxL subB sealV openV
theorem hide_g (key l : List UInt8) (h : key.length = 32 ∨ key.length = 64) (h1 : 16 ≤ l.length) (h2 : l.length ≤ 65536) (n : Int) (v tv : Value) (w : World) (hv : BytesAt w v key) (ht : BytesAt w tv l) :
    Calls Try.prog 14 #[v, .int .i64 n, tv] w fun e w' => ∃ ga gb, e = .returned (.tuple #[.slice (some ⟨w.heap.size + ga.n, 0, none⟩) l.length l.length, .nilIface]) ∧ w' = grow ((grow w ga).alloc (.cells (bvs (hideV key (u64N n) l)) 5)) gb := by
  refine (hide_good key l h h1 h2 n v tv w hv ht).mono ?_
  rintro e w' ⟨g, rfl, hg, hb, hB⟩
  obtain ⟨gg, rfl⟩ := grow_of hB
  obtain ⟨ga, gb, he, rfl⟩ := grow_split hg hb
  exact ⟨ga, gb, rfl, he⟩
theorem show_g (key l : List UInt8) (h : key.length = 32 ∨ key.length = 64) (h1 : 16 ≤ l.length) (h2 : l.length ≤ 65536) (n : Int) (v tv : Value) (w : World) (hv : BytesAt w v key) (ht : BytesAt w tv l) :
    Calls Try.prog 21 #[v, .int .i64 n, tv] w fun e w' => ∃ ga gb, e = .returned (.tuple #[.slice (some ⟨w.heap.size + ga.n, 0, none⟩) l.length l.length, .nilIface]) ∧ w' = grow ((grow w ga).alloc (.cells (bvs (showV key (u64N n) l)) 5)) gb := by
  refine (show_good key l h h1 h2 n v tv w hv ht).mono ?_
  rintro e w' ⟨g, rfl, hg, hb, hB⟩
  obtain ⟨gg, rfl⟩ := grow_of hB
  obtain ⟨ga, gb, he, rfl⟩ := grow_split hg hb
  exact ⟨ga, gb, rfl, he⟩
set_option maxRecDepth 100000 in
set_option maxHeartbeats 1000000 in
theorem same_any (l m : List UInt8) (v u : Value) (w : World) (hv : BytesAt w v l) (hu : BytesAt w u m) :
    Calls Try.prog 16 #[v, u] w fun e w' => e = .returned (.bool (l == m)) ∧ w = w' := by
  have t1 := hv.text (P := Try.prog) Try.underlying22 Try.underlying5 Try.underlying9
  have t2 := hu.text (P := Try.prog) Try.underlying22 Try.underlying5 Try.underlying9
  clear hv hu
  go_enter Try.func16, Try.ntmps16
  go_wp2
  go_ret
  exact ⟨rfl, rfl⟩
set_option maxRecDepth 100000 in
set_option maxHeartbeats 1000000 in
theorem alive6_any (w : World) : Calls Try.prog 11 #[] w fun e w' => e = .returned (.bool true) ∧ Below w.heap.size w w' := by
  have H1 := hid (fun v tv w (hv : BytesAt w v (zs 32)) (ht : BytesAt w tv (zs 32)) => hide_g (zs 32) (zs 32) (.inl (zs_len 32)) (by rw [zs_len]; omega) (by rw [zs_len]; omega) 0 v tv w hv ht)
  rw [u64N_zero, zs_len] at H1
  have hO : (hideV (zs 32) 0 (zs 32)).length = 32 := by rw [hideV_len (.inl (zs_len 32)) _ (by rw [zs_len]; omega), zs_len]
  have a0 := bvs_get (l := hideV (zs 32) 0 (zs 32)) (k := 0) (by omega)
  have a1 := bvs_get (l := hideV (zs 32) 0 (zs 32)) (k := 31) (by omega)
  rw [alive_is.1] at a0
  rw [alive_is.2] at a1
  generalize hideV (zs 32) 0 (zs 32) = O at *
  go_enter Try.func11, Try.ntmps11
  go_wp2_with fail
  go_region_with ((with_reducible refine (H1.out _ _ _ (bytesAt_whole (by go_simp; first | done | rfl | exact ⟨rfl, rfl⟩) (zs_len 32)) (bytesAt_whole (by go_simp; first | done | rfl | exact ⟨rfl, rfl⟩) (zs_len 32))).mono ?_); rintro e wz ⟨ga, gb, rfl, rfl⟩)
  all_goals (go_wp2; go_ret; exact ⟨rfl, (by repeat (first | (with_reducible exact Below.refl _ _) | (with_reducible assumption) | (with_reducible exact grow_below _ _) | (with_reducible exact St.below (by assumption)) | (with_reducible refine below_grow ?_ _) | (with_reducible refine Below.alloc ?_ (by first | omega | (simp; done) | (simp [go_sem]; done) | (simp [go_sem]; omega)) _) | (with_reducible exact (St.put1 (by assumption) _).below) | (with_reducible exact (St.put2 (by assumption) _ _).below) | (with_reducible exact (St.put3 (by assumption) _ _ _).below) | (with_reducible exact (St.put4 (by assumption) _ _ _ _).below) | (with_reducible refine below_put ?_ (by first | omega | (simp [go_sem]; omega)) _ _) | (with_reducible refine Below.drew ?_) | (with_reducible refine Below.setCell ?_ (by first | omega | (simp [go_sem]; omega)) _) | (with_reducible refine below_setRow' ?_ (by first | omega | (simp [go_sem]; omega)) _) | (with_reducible refine below_drewN' ?_ _)))⟩)
end Go.Proofs.Ytkfggilildiflaa

namespace Go.Proofs.Ytkfggilildiflaa
open Go.ChangeShapes Go.WideShapes Go.ChangeAt Go.RowKit
@[go_sem] theorem run_emptyBytes (w : World) : (buildSliceB 22 0 #[]).run Try.prog w = .ok (.slice (some ⟨w.heap.size, 0, none⟩) 0 0) (w.alloc (.cells (bvs []) 5)) := by
  obtain ⟨ht, i, z, hi, hz, hsz, hby, _⟩ := elemB_iff elem_22
  simp [buildSliceB, Instr.buildSlice, run_underlying ht, sizeOf, typeInfo, zeroValue, hi, hz, newRow, Instr.fill]
  have e : (Array.map (fun _ => (default : Value)) (Array.range 0)) = bvs [] := by simp [bvs]
  rw [e]
theorem zeroCells_noughts (n : Nat) : Builtin.zeroCells (Value.int .u8 0).cells n = bvs (zs n) := by
  apply Array.ext_getElem?
  intro i
  by_cases h : i < n
  · rw [zs_one n i h]
    have e : i % (Value.int .u8 0).cells.size = 0 := by show i % 1 = 0; omega
    have hs : i < n * (Value.int .u8 0).cells.size := by show i < n * 1; omega
    unfold Builtin.zeroCells
    rw [Array.getElem?_map, Array.getElem?_range, if_pos hs]
    simp only [Option.map_some]
    rw [e]; rfl
  · rw [Array.getElem?_eq_none (by rw [size_zeroCells]; show n * 1 ≤ i; omega), Array.getElem?_eq_none (by rw [bvs_size, zs_len]; omega)]
theorem BytesAt.at {w : World} {p : Addr} {n c : Nat} {l : List UInt8} (h : BytesAt w (.slice (some p) n c) l) : ∀ j v, (l.map bv)[j]? = some v → w.cell? (p.add j) = some v := by
  intro j v hj
  rw [List.getElem?_map] at hj
  cases hl : l[j]? with
  | none => rw [hl] at hj; cases hj
  | some x =>
    rw [hl] at hj
    simp only [Option.map_some, Option.some.injEq] at hj
    subst hj
    obtain ⟨p', c', hv, h1, h0, h3⟩ := h
    obtain ⟨b, o, cs, t, e, hp, hb, hx⟩ := h3 (by rintro rfl; simp at hl)
    simp only [Value.slice.injEq] at hv
    rw [hp] at hv
    simp only [Option.some.injEq] at hv
    rw [hv.1, add_addr, cell_of_row w b (o + j) cs t e hb]
    exact hx j x hl
theorem wp_append_full {ops : Array Oper} {rest : List Oper} {o : Oper} {a : Act} {Q : Exit → Act → World → Prop} {w : World} (hgd : o.guard = none) {s x : Operand} (ho : o.op = .call { callee := .builtin .append, args := #[s, x], argTypes := #[22, 22] })
    {b : Addr} {n c : Nat} {xv : Value} {L1 L2 : List UInt8} (hs : a.eval s = .slice (some b) n c) (hx : a.eval x = xv) (h1 : BytesAt w (.slice (some b) n c) L1) (h2 : BytesAt w xv L2) (hne : L2 ≠ []) (hfull : c < L1.length + L2.length) (hm : L1.length + L2.length ≤ 1000000000)
    (h : ∀ k, L1.length + L2.length + k ≤ maxLen → wpList Try.prog ops Q rest (a.put o.dst (.slice (some ⟨w.heap.size, 0, none⟩) (L1.length + L2.length) (L1.length + L2.length + k))) (w.drew.alloc (.cells (bvs (L1 ++ (L2 ++ zs k))) 5))) : wpList Try.prog ops Q (o :: rest) a w := by
  obtain ⟨ht, i, z, hi, hz, hsz, hby, _⟩ := elemB_iff elem_22
  have hz2 : z = .int .u8 0 := by
    have h : (Try.prog.info? 5).bind (·.zero) = some (.int .u8 0) := by kernel_rfl
    rw [hi] at h
    simpa [hz] using h
  subst hz2
  obtain ⟨p2, c2, rfl, hc2⟩ := h2.slice
  obtain ⟨b2, o2, rfl⟩ := h2.ptr (List.length_pos_iff.2 hne)
  have hn := h1.len.1
  subst hn
  have hcap := grownCap_ge w (L1.length + L2.length) c 5
  have hmax := grownCap_le_maxLen w (L1.length + L2.length) c 5 (by simp only [maxLen]; omega)
  refine wpList_plain hgd fun K hK => ?_
  have hrun := run_append_grow (P := Try.prog) (w := w) 22 o.type 5 i (.int .u8 0) ht hi hz b L1.length c (L1.map bv) (by simp [hsz]) h1.at ⟨b2, o2, none⟩ L2.length c2 (L2.map bv) (by simp [hsz]) h2.at hfull (by omega) (by
    have := growslice_fits (bytes := i.bytes) hfull (by rw [hby]; omega)
    exact this)
  obtain ⟨k, hk⟩ : ∃ k, grownCap w (L1.length + L2.length) c 5 = L1.length + L2.length + k := ⟨_, (Nat.add_sub_cancel' hcap).symm⟩
  rw [hk, Nat.add_sub_cancel_left, zeroCells_noughts] at hrun
  rw [hk] at hmax
  have hcs : (L1.map bv).toArray ++ (L2.map bv).toArray ++ bvs (zs k) = bvs (L1 ++ (L2 ++ zs k)) := by
    unfold bvs; simp
  rw [hcs] at hrun
  unfold Oper.wp
  simp [execOp, ho, resolve, invoke, builtin, hs, hx, hrun, Result.andThen]
  exact hK _ _ (by simpa using h k hmax)
theorem wp_append_empty {ops : Array Oper} {rest : List Oper} {o : Oper} {a : Act} {Q : Exit → Act → World → Prop} {w : World} (hgd : o.guard = none) {s x : Operand} (ho : o.op = .call { callee := .builtin .append, args := #[s, x], argTypes := #[22, 22] })
    {b : Addr} {N : Nat} {xv : Value} {L : List UInt8} (hs : a.eval s = .slice (some b) 0 0) (hx : a.eval x = xv) (h2 : BytesAt w xv L) (hL : L.length = N) (hN : 0 < N) (hm : N ≤ 1000000000)
    (h : ∀ k, N + k ≤ maxLen → wpList Try.prog ops Q rest (a.put o.dst (.slice (some ⟨w.heap.size, 0, none⟩) N (N + k))) (w.drew.alloc (.cells (bvs (L ++ zs k)) 5))) : wpList Try.prog ops Q (o :: rest) a w := by
  subst hL
  refine wp_append_full hgd ho hs hx (L1 := []) ⟨_, 0, rfl, Nat.le_refl _, (fun h => by cases h), fun h => absurd rfl h⟩ h2 (by rintro rfl; simp at hN) (by simp only [List.length_nil]; omega) (by simp only [List.length_nil]; omega) ?_
  rw [List.length_nil, Nat.zero_add]
  simpa only [List.nil_append] using h
theorem bytesAt_pre {w : World} {g n c : Nat} {t : TypeId} {fr : Nat × Nat} {L R : List UInt8} (h : blk w g = some (.cells (bvs (L ++ R)) t fr)) (hn : L.length = n) (hc : n ≤ c) : BytesAt w (.slice (some ⟨g, 0, none⟩) n c) L :=
  bytesAt_blk h hn hc fun i x hi => by
    rw [Nat.zero_add]
    exact bvs_at (by rw [List.getElem?_append_left (List.getElem?_eq_some_iff.1 hi).1]; exact hi)
end Go.Proofs.Ytkfggilildiflaa

namespace Go.Proofs.Ytkfggilildiflaa
open Go.ChangeShapes Go.WideShapes Go.ChangeAt Go.RowKit
set_option maxRecDepth 100000 in
set_option maxHeartbeats 1000000 in
theorem numKey_any (l : List UInt8) (hl : l.length = 16) (v : Value) (w : World) (hv : BytesAt w v l) : Calls Try.prog 38 #[v] w fun e w' => e = .returned (.agg (bvs l)) ∧ Below w.heap.size w w' := by
  have s1 : csz (bvs (zs 16)) = 16 := by rw [csz_bvs, zs_len]
  have s2 : csz (bvs l) = 16 := by rw [csz_bvs, hl]
  have z := zs16; have e0 := zs_ne
  have HO := hid (show ovw (bvs (zs 16)) 0 (l.take 16) = bvs l by
    rw [List.take_of_length_le (by omega), ovw_bvs, List.take_zero, List.nil_append, List.drop_of_length_le (by rw [zs_len]; omega), List.append_nil])
  have HF := hid (show 0 + (l.take 16).length ≤ 16 by rw [List.length_take]; omega)
  have hc := run_copy_bytes (P := Try.prog) ((w.alloc (.cells (bvs (zs 16)) 63)).alloc (.cells (bvs (zs 16)) 63)) 22 22 3 5 Try.underlying22 (by kernel_rfl) (g := w.heap.size + 1) (off := 0) (dLen := 16) (dCap := 16) (cur := bvs (zs 16)) (t := 63) (sv := v) (L := l) (by go_simp; first | done | rfl | exact ⟨rfl, rfl⟩) (hv.below (by repeat (first | (with_reducible exact Below.refl _ _) | (with_reducible assumption) | (with_reducible exact grow_below _ _) | (with_reducible exact St.below (by assumption)) | (with_reducible refine below_grow ?_ _) | (with_reducible refine Below.alloc ?_ (by first | omega | (simp; done) | (simp [go_sem]; done) | (simp [go_sem]; omega)) _) | (with_reducible exact (St.put1 (by assumption) _).below) | (with_reducible exact (St.put2 (by assumption) _ _).below) | (with_reducible exact (St.put3 (by assumption) _ _ _).below) | (with_reducible exact (St.put4 (by assumption) _ _ _ _).below) | (with_reducible refine below_put ?_ (by first | omega | (simp [go_sem]; omega)) _ _) | (with_reducible refine Below.drew ?_) | (with_reducible refine Below.setCell ?_ (by first | omega | (simp [go_sem]; omega)) _) | (with_reducible refine below_setRow' ?_ (by first | omega | (simp [go_sem]; omega)) _) | (with_reducible refine below_drewN' ?_ _)))) (by rw [s1]; exact HF.out)
  rw [HO.out] at hc
  clear hv hl
  go_enter Try.func38, Try.ntmps38
  go_wp2
  exact post_cell (n := 16) Try.results38 (by kernel_rfl) (.inl rfl) _ _ _ _ rfl rfl (by go_simp; first | done | rfl | exact ⟨rfl, rfl⟩) (by first | (rw [← csz_is]; assumption) | rfl) ⟨rfl, (by repeat (first | (with_reducible exact Below.refl _ _) | (with_reducible assumption) | (with_reducible exact grow_below _ _) | (with_reducible exact St.below (by assumption)) | (with_reducible refine below_grow ?_ _) | (with_reducible refine Below.alloc ?_ (by first | omega | (simp; done) | (simp [go_sem]; done) | (simp [go_sem]; omega)) _) | (with_reducible exact (St.put1 (by assumption) _).below) | (with_reducible exact (St.put2 (by assumption) _ _).below) | (with_reducible exact (St.put3 (by assumption) _ _ _).below) | (with_reducible exact (St.put4 (by assumption) _ _ _ _).below) | (with_reducible refine below_put ?_ (by first | omega | (simp [go_sem]; omega)) _ _) | (with_reducible refine Below.drew ?_) | (with_reducible refine Below.setCell ?_ (by first | omega | (simp [go_sem]; omega)) _) | (with_reducible refine below_setRow' ?_ (by first | omega | (simp [go_sem]; omega)) _) | (with_reducible refine below_drewN' ?_ _)))⟩
end Go.Proofs.Ytkfggilildiflaa

namespace Go.Proofs.Ytkfggilildiflaa
open Go.ChangeShapes Go.WideShapes Go.ChangeAt Go.RowKit
theorem stands_eq {key : List UInt8} (hk : key.length = 32 ∨ key.length = 64) (n : Nat) {l : List UInt8} {wh : Nat} (h0 : l.length % 16 = 0 → wh = l.length / 16) (h1 : l.length % 16 ≠ 0 → wh = l.length / 16 - 1) {j : Nat} (hj : j < wh) :
    blockAt (hideV key n l) j = hideB (key.take (key.length / 2)) (dblIt (tweakV (key.drop (key.length / 2)) n 0) j) (blockAt l j) := by
  rw [← tweakV_it]
  have hw := hide_wide hk n
  have hb := headL_block hw (l := l) wh
  unfold hideV turnL
  by_cases h : l.length % 16 = 0
  · rw [if_pos h, ← h0 h]
    have := hb [] (by have := h0 h; omega) j hj
    rwa [List.append_nil] at this
  · rw [if_neg h, ← h1 h]
    exact hb _ (by have := h1 h; omega) j hj
theorem wrap_62 (q : Nat) (h : q ≤ 62) : wrap64 (q : Int) = (q : Int) := by unfold wrap64; omega
theorem stands_nums {nt r wh : Nat} (h1 : 16 ≤ nt) (h2 : nt ≤ 1000) (e0 : r = nt % 16) (e1 : nt % 16 = 0 → wh = nt / 16) (e2 : nt % 16 ≠ 0 → wh = nt / 16 - 1) :
    ∃ q : Nat, (nt : Int).tdiv 16 = (q : Int) ∧ (nt : Int).tmod 16 = (r : Int) ∧ ((r = 0 ∧ q = wh) ∨ (0 < r ∧ (q : Int) - 1 = (wh : Int))) ∧ (16 * wh ≤ nt ∧ nt ≤ 1000) ∧ wrap64 (q : Int) = (q : Int) ∧ wrap64 (wh : Int) = (wh : Int) := by
  have hw : wh ≤ nt / 16 := by
    by_cases h : nt % 16 = 0
    · have := e1 h; omega
    · have := e2 h; omega
  refine ⟨nt / 16, by rw [Int.tdiv_eq_ediv_of_nonneg (by omega)]; omega, by rw [Int.tmod_eq_emod_of_nonneg (by omega), e0]; omega, ?_, by omega, wrap_62 _ (by omega), wrap_62 _ (by omega)⟩
  by_cases h : nt % 16 = 0
  · have := e1 h; exact .inl ⟨by omega, by omega⟩
  · have := e2 h; exact .inr ⟨by omega, by omega⟩
end Go.Proofs.Ytkfggilildiflaa

namespace Go.Proofs.Ytkfggilildiflaa
open Go.ChangeShapes Go.WideShapes Go.ChangeAt Go.RowKit
attribute [local irreducible] xorL sboxL subB sealV openV
attribute [local go_sem] Oper.semAt_some
set_option maxRecDepth 100000 in
set_option maxHeartbeats 4000000 in
theorem stands_bad (key l : List UInt8) (n m : Int) (v tv : Value) (w : World) (hv : BytesAt w v key) (ht : BytesAt w tv l) (hbad : ¬ (key.length = 32 ∨ key.length = 64) ∨ l.length < 16 ∨ 1000 < l.length) :
    Calls Try.prog 20 #[v, .int .i64 n, .int .i64 m, tv] w fun e w' => e = .returned (.bool true) ∧ Below w.heap.size w w' := by
  obtain ⟨p, c, rfl, hc⟩ := hv.slice
  obtain ⟨tp, tc, rfl, htc⟩ := ht.slice
  have A := hid alive6_any
  generalize key.length = nk at *
  generalize l.length = nt at *
  clear hv ht hc htc
  by_cases hk : nk = 32 ∨ nk = 64
  · have hl : nt < 16 ∨ 1000 < nt := by rcases hbad with h | h; exact absurd hk h; exact h
    clear hbad
    rcases hl with hl | hl
    · have t1 : decide ((nt : Int) < 16) = true := by simp; omega
      rcases hk with rfl | rfl
      all_goals
        go_enter Try.func20, Try.ntmps20
        go_wp2_with fail
        (with_reducible refine (A.out _).mono ?_)
        rintro e wg ⟨rfl, hb⟩
        obtain ⟨g1, rfl⟩ := grow_of hb
        clear hb
        go_wp2
        exact bodyPost_ret (v := .bool true) (by simp [results, Try.results20, go_sem]) rfl ⟨rfl, (by repeat (first | (with_reducible exact Below.refl _ _) | (with_reducible assumption) | (with_reducible exact grow_below _ _) | (with_reducible exact St.below (by assumption)) | (with_reducible refine below_grow ?_ _) | (with_reducible refine Below.alloc ?_ (by first | omega | (simp; done) | (simp [go_sem]; done) | (simp [go_sem]; omega)) _) | (with_reducible exact (St.put1 (by assumption) _).below) | (with_reducible exact (St.put2 (by assumption) _ _).below) | (with_reducible exact (St.put3 (by assumption) _ _ _).below) | (with_reducible exact (St.put4 (by assumption) _ _ _ _).below) | (with_reducible refine below_put ?_ (by first | omega | (simp [go_sem]; omega)) _ _) | (with_reducible refine Below.drew ?_) | (with_reducible refine Below.setCell ?_ (by first | omega | (simp [go_sem]; omega)) _) | (with_reducible refine below_setRow' ?_ (by first | omega | (simp [go_sem]; omega)) _) | (with_reducible refine below_drewN' ?_ _)))⟩
    · have t1 : decide ((nt : Int) < 16) = false := by simp; omega
      have t2 : decide (1000 < (nt : Int)) = true := by simp; omega
      rcases hk with rfl | rfl
      all_goals
        go_enter Try.func20, Try.ntmps20
        go_wp2_with fail
        (with_reducible refine (A.out _).mono ?_)
        rintro e wg ⟨rfl, hb⟩
        obtain ⟨g1, rfl⟩ := grow_of hb
        clear hb
        go_wp2
        exact bodyPost_ret (v := .bool true) (by simp [results, Try.results20, go_sem]) rfl ⟨rfl, (by repeat (first | (with_reducible exact Below.refl _ _) | (with_reducible assumption) | (with_reducible exact grow_below _ _) | (with_reducible exact St.below (by assumption)) | (with_reducible refine below_grow ?_ _) | (with_reducible refine Below.alloc ?_ (by first | omega | (simp; done) | (simp [go_sem]; done) | (simp [go_sem]; omega)) _) | (with_reducible exact (St.put1 (by assumption) _).below) | (with_reducible exact (St.put2 (by assumption) _ _).below) | (with_reducible exact (St.put3 (by assumption) _ _ _).below) | (with_reducible exact (St.put4 (by assumption) _ _ _ _).below) | (with_reducible refine below_put ?_ (by first | omega | (simp [go_sem]; omega)) _ _) | (with_reducible refine Below.drew ?_) | (with_reducible refine Below.setCell ?_ (by first | omega | (simp [go_sem]; omega)) _) | (with_reducible refine below_setRow' ?_ (by first | omega | (simp [go_sem]; omega)) _) | (with_reducible refine below_drewN' ?_ _)))⟩
  · clear hbad
    have t1 : ((nk : Int) != 32) = true := by simp; omega
    have t2 : ((nk : Int) != 64) = true := by simp; omega
    have t3 : ((nk : Int) == 32) = false := by simp; omega
    have t4 : ((nk : Int) == 64) = false := by simp; omega
    go_enter Try.func20, Try.ntmps20
    go_wp2_with fail
    (with_reducible refine (A.out _).mono ?_)
    rintro e wg ⟨rfl, hb⟩
    obtain ⟨g1, rfl⟩ := grow_of hb
    clear hb
    go_wp2
    exact bodyPost_ret (v := .bool true) (by simp [results, Try.results20, go_sem]) rfl ⟨rfl, (by repeat (first | (with_reducible exact Below.refl _ _) | (with_reducible assumption) | (with_reducible exact grow_below _ _) | (with_reducible exact St.below (by assumption)) | (with_reducible refine below_grow ?_ _) | (with_reducible refine Below.alloc ?_ (by first | omega | (simp; done) | (simp [go_sem]; done) | (simp [go_sem]; omega)) _) | (with_reducible exact (St.put1 (by assumption) _).below) | (with_reducible exact (St.put2 (by assumption) _ _).below) | (with_reducible exact (St.put3 (by assumption) _ _ _).below) | (with_reducible exact (St.put4 (by assumption) _ _ _ _).below) | (with_reducible refine below_put ?_ (by first | omega | (simp [go_sem]; omega)) _ _) | (with_reducible refine Below.drew ?_) | (with_reducible refine Below.setCell ?_ (by first | omega | (simp [go_sem]; omega)) _) | (with_reducible refine below_setRow' ?_ (by first | omega | (simp [go_sem]; omega)) _) | (with_reducible refine below_drewN' ?_ _)))⟩
end Go.Proofs.Ytkfggilildiflaa
