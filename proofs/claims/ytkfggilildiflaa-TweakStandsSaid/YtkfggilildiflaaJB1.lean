/-
  Laws that the claims of this seat use, of several texts in one: Work, IterB, RunW, RunR, HideW. No condition of their own.
-/
import Derived.Test.YtkfggilildiflaaJB0

namespace Go.Proofs.Ytkfggilildiflaa
open Go.ChangeShapes Go.WideShapes Go.ChangeAt Go.RowKit
attribute [local irreducible] xorL sboxL subB sealV openV
/-- The work's cells: the round keys, what a block is turned by, the first tweak. -/
def wkC (r f : Value) (x : List UInt8) : Array Value := (r :: f :: x.map bv).toArray
def buildW (t : TypeId) (parts : Array (Nat × Value)) : Sem Value := if t = t then Instr.build t parts else Instr.build t parts
@[go_sem ↓] theorem build_work (parts : Array (Nat × Value)) : Instr.build 83 parts = buildW 83 parts := by unfold buildW; rw [if_pos rfl]
@[go_sem] theorem run_build_work (p : Option Addr) (n c : Nat) (f : Fn) (x : List UInt8) (h : csz (bvs x) = 16) (w : World) :
    (buildW 83 #[(0, .slice p n c), (1, .func f #[] #[]), (2, .agg (bvs x))]).run Try.prog w = .ok (.agg (wkC (.slice p n c) (.func f #[] #[]) x)) w := by
  rw [csz_bvs] at h
  obtain ⟨a0, a1, a2, a3, a4, a5, a6, a7, a8, a9, a10, a11, a12, a13, a14, a15, rfl⟩ := len16 h
  unfold buildW
  rw [if_pos rfl]
  kernel_rfl
theorem wkC_size (r f : Value) (x : List UInt8) : csz (wkC r f x) = x.length + 2 := by rw [csz_is]; simp [wkC]
theorem wkC_cut (r f : Value) (x : List UInt8) (h : x.length = 16) : cut (wkC r f x) 2 16 = bvs x := by
  unfold cut
  rw [if_neg (by omega)]
  apply Array.ext_getElem?
  intro i
  rw [Array.getElem?_extract]
  by_cases hi : i < 16
  · simp [wkC, bvs, show i + 2 < 18 by omega, hi, Nat.add_comm 2 i, h]
  · simp [bvs, hi, h, wkC]
theorem wkC_0 (r f : Value) (x : List UInt8) : (wkC r f x)[0]? = some r := rfl
theorem wkC_1 (r f : Value) (x : List UInt8) : (wkC r f x)[1]? = some f := rfl
attribute [irreducible] wkC
theorem BytesAt.drop {w : World} {p : Option Addr} {n c : Nat} {l : List UInt8} (h : BytesAt w (.slice p n c) l) (k : Nat) (hk : k < c) (hkn : k ≤ n) : BytesAt w (.slice (p.map (·.add k)) (n - k) (c - k)) (l.drop k) := by
  obtain ⟨p', c', hv, h1, h0, h3⟩ := h
  simp only [Value.slice.injEq] at hv
  obtain ⟨rfl, rfl, rfl⟩ := hv
  refine ⟨p.map (·.add k), c - k, by rw [List.length_drop], by rw [List.length_drop]; omega, fun hn => ?_, fun hne => ?_⟩
  · cases p with
    | none => have := h0 rfl; omega
    | some a => cases hn
  · obtain ⟨b, o, cs, t, e, rfl, hb, hx⟩ := h3 (fun e => hne (by rw [e, List.drop_nil]))
    refine ⟨b, o + k, cs, t, e, by simp [add_addr], hb, fun i x hi => ?_⟩
    rw [List.getElem?_drop] at hi
    rw [Nat.add_assoc]
    exact hx _ _ hi
theorem BytesAt.ptr {w : World} {p : Option Addr} {n c : Nat} {l : List UInt8} (h : BytesAt w (.slice p n c) l) (hn : 0 < n) : ∃ b o, p = some ⟨b, o, none⟩ := by
  obtain ⟨p', c', hv, h1, h0, h3⟩ := h
  simp only [Value.slice.injEq] at hv
  obtain ⟨rfl, rfl, rfl⟩ := hv
  obtain ⟨b, o, cs, t, e, rfl, _⟩ := h3 (by intro e; subst e; simp at hn)
  exact ⟨b, o, rfl⟩
theorem BytesAt.from {w : World} {b o n c : Nat} {l : List UInt8} (h : BytesAt w (.slice (some ⟨b, o, none⟩) n c) l) (k : Nat) (hkn : k ≤ n) : BytesAt w (.slice (some ⟨b, o + k, none⟩) (n - k) (c - k)) (l.drop k) := by
  obtain ⟨p', c', hv, h1, h0, h3⟩ := h
  simp only [Value.slice.injEq] at hv
  obtain ⟨rfl, rfl, rfl⟩ := hv
  refine ⟨_, c - k, by rw [List.length_drop], by rw [List.length_drop]; omega, (fun hn => by cases hn), fun hne => ?_⟩
  obtain ⟨b', o', cs, t, e, hp, hb, hx⟩ := h3 (fun e => hne (by rw [e, List.drop_nil]))
  simp only [Option.some.injEq, Addr.mk.injEq, and_true] at hp
  obtain ⟨rfl, rfl⟩ := hp
  refine ⟨b, o + k, cs, t, e, rfl, hb, fun i x hi => ?_⟩
  rw [List.getElem?_drop] at hi
  rw [Nat.add_assoc]
  exact hx _ _ hi
theorem BytesAt.take {w : World} {p : Option Addr} {n c : Nat} {l : List UInt8} (h : BytesAt w (.slice p n c) l) (k : Nat) (hkn : k ≤ n) : BytesAt w (.slice p k c) (l.take k) := by
  obtain ⟨p', c', hv, h1, h0, h3⟩ := h
  simp only [Value.slice.injEq] at hv
  obtain ⟨rfl, rfl, rfl⟩ := hv
  refine ⟨p, c, by rw [List.length_take, Nat.min_eq_left hkn], by rw [List.length_take]; omega, h0, fun hne => ?_⟩
  obtain ⟨b, o, cs, t, e, rfl, hb, hx⟩ := h3 (fun e => hne (by rw [e, List.take_nil]))
  refine ⟨b, o, cs, t, e, rfl, hb, fun i x hi => hx i x ?_⟩
  rw [List.getElem?_take] at hi
  split at hi
  · exact hi
  · cases hi
theorem BytesAt.len {w : World} {p : Option Addr} {n c : Nat} {l : List UInt8} (h : BytesAt w (.slice p n c) l) : n = l.length ∧ n ≤ c := by
  obtain ⟨p', c', hv, h1, h0, h3⟩ := h
  simp only [Value.slice.injEq] at hv
  obtain ⟨rfl, rfl, rfl⟩ := hv
  exact ⟨rfl, h1⟩
/-- What a work's beginning leaves. -/
def WorkAt (key : List UInt8) (n : Int) (fv : Value) (w w' : World) (e : Ending) : Prop :=
  ∃ b p c, e = .returned (.tuple #[.pointer (some ⟨b, 0, none⟩), .nilIface]) ∧ w.heap.size ≤ b ∧ blk w' b = some (.cells (wkC (.slice p (rkeys (key.take (key.length / 2))).length c) fv (tweakV (key.drop (key.length / 2)) (u64N n) 0)) 83 (0, 0)) ∧
    RowsAt w' 16 (.slice p (rkeys (key.take (key.length / 2))).length c) (rkeys (key.take (key.length / 2))) ∧ Below w.heap.size w w'
set_option maxRecDepth 100000 in
set_option maxHeartbeats 2000000 in
theorem begin_good (key l : List UInt8) (h : key.length = 32 ∨ key.length = 64) (n : Int) (v tv : Value) (f : Fn) (w : World) (hv : BytesAt w v key) (ht : BytesAt w tv l) (h1 : 16 ≤ l.length) (h2 : l.length ≤ 65536) :
    Calls Try.prog 29 #[v, .int .i64 n, tv, .func f #[] #[]] w fun e w' => WorkAt key n (.func f #[] #[]) w w' e := by
  obtain ⟨p, c, rfl, hc⟩ := hv.slice
  obtain ⟨tp, tc, rfl, htc⟩ := ht.slice
  have hh := halves_len h
  obtain ⟨kb, ko, rfl⟩ := hv.ptr (by omega)
  have H1 := hv.from (key.length / 2) (by omega)
  have H2 := hv.take (key.length / 2) (by omega)
  have T1 := hid (fun v w (hv : BytesAt w v (key.drop (key.length / 2))) => tweak_good _ hh.2 n v w hv)
  have R1 := hid (fun v w (hv : BytesAt w v (key.take (key.length / 2))) => rounds_good _ hh.1 v w hv)
  have s3 : csz (bvs (tweakV (key.drop (key.length / 2)) (u64N n) 0)) = 16 := by rw [csz_bvs, tweakV_len hh.2]
  unfold WorkAt
  generalize key.length = nk at *
  generalize l.length = nt at *
  generalize hk1 : key.take (nk / 2) = k1 at *
  generalize hk2 : key.drop (nk / 2) = k2 at *
  generalize tweakV k2 (u64N n) 0 = x at *
  clear hv ht hk1 hk2 hh
  have t1 : ¬ (nt : Int) < 16 := by omega
  have t2 : ¬ (65536 : Int) < nt := by omega
  have t3 : decide ((nt : Int) < 16) = false := by simpa using t1
  have t4 : decide ((65536 : Int) < nt) = false := by simpa using t2
  rcases h with rfl | rfl
  · have c1 : ¬ c = 16 := by omega
    simp only [Nat.reduceDiv, Nat.reduceSub] at H1 H2
    have H1 := hid H1; have H2 := hid H2
    go_enter Try.func29, Try.ntmps29
    go_wp2_with fail
    (with_reducible refine (T1.out _ _ H1.out).mono ?_)
    rintro e wg ⟨rfl, hb⟩
    obtain ⟨g1, rfl⟩ := grow_of hb
    clear hb
    go_wp2_with fail
    (with_reducible refine (R1.out _ _ (H2.out.below (by repeat (first | (with_reducible exact Below.refl _ _) | (with_reducible assumption) | (with_reducible exact grow_below _ _) | (with_reducible exact St.below (by assumption)) | (with_reducible refine below_grow ?_ _) | (with_reducible refine Below.alloc ?_ (by first | omega | (simp; done) | (simp [go_sem]; done) | (simp [go_sem]; omega)) _) | (with_reducible exact (St.put1 (by assumption) _).below) | (with_reducible exact (St.put2 (by assumption) _ _).below) | (with_reducible exact (St.put3 (by assumption) _ _ _).below) | (with_reducible exact (St.put4 (by assumption) _ _ _ _).below) | (with_reducible refine below_put ?_ (by first | omega | (simp [go_sem]; omega)) _ _) | (with_reducible refine Below.drew ?_) | (with_reducible refine Below.setCell ?_ (by first | omega | (simp [go_sem]; omega)) _) | (with_reducible refine below_setRow' ?_ (by first | omega | (simp [go_sem]; omega)) _) | (with_reducible refine below_drewN' ?_ _))))).mono ?_)
    rintro e wg ⟨rp, rc, rfl, hR, hb⟩
    obtain ⟨g2, rfl⟩ := grow_of hb
    clear hb
    go_wp2
    go_ret2
    exact ⟨_, _, _, rfl, by omega, by go_simp, hR.below (by repeat (first | (with_reducible exact Below.refl _ _) | (with_reducible assumption) | (with_reducible exact grow_below _ _) | (with_reducible exact St.below (by assumption)) | (with_reducible refine below_grow ?_ _) | (with_reducible refine Below.alloc ?_ (by first | omega | (simp; done) | (simp [go_sem]; done) | (simp [go_sem]; omega)) _) | (with_reducible exact (St.put1 (by assumption) _).below) | (with_reducible exact (St.put2 (by assumption) _ _).below) | (with_reducible exact (St.put3 (by assumption) _ _ _).below) | (with_reducible exact (St.put4 (by assumption) _ _ _ _).below) | (with_reducible refine below_put ?_ (by first | omega | (simp [go_sem]; omega)) _ _) | (with_reducible refine Below.drew ?_) | (with_reducible refine Below.setCell ?_ (by first | omega | (simp [go_sem]; omega)) _) | (with_reducible refine below_setRow' ?_ (by first | omega | (simp [go_sem]; omega)) _) | (with_reducible refine below_drewN' ?_ _))), (by repeat (first | (with_reducible exact Below.refl _ _) | (with_reducible assumption) | (with_reducible exact grow_below _ _) | (with_reducible exact St.below (by assumption)) | (with_reducible refine below_grow ?_ _) | (with_reducible refine Below.alloc ?_ (by first | omega | (simp; done) | (simp [go_sem]; done) | (simp [go_sem]; omega)) _) | (with_reducible exact (St.put1 (by assumption) _).below) | (with_reducible exact (St.put2 (by assumption) _ _).below) | (with_reducible exact (St.put3 (by assumption) _ _ _).below) | (with_reducible exact (St.put4 (by assumption) _ _ _ _).below) | (with_reducible refine below_put ?_ (by first | omega | (simp [go_sem]; omega)) _ _) | (with_reducible refine Below.drew ?_) | (with_reducible refine Below.setCell ?_ (by first | omega | (simp [go_sem]; omega)) _) | (with_reducible refine below_setRow' ?_ (by first | omega | (simp [go_sem]; omega)) _) | (with_reducible refine below_drewN' ?_ _)))⟩
  · have c1 : ¬ c = 32 := by omega
    simp only [Nat.reduceDiv, Nat.reduceSub] at H1 H2
    have H1 := hid H1; have H2 := hid H2
    go_enter Try.func29, Try.ntmps29
    go_wp2_with fail
    (with_reducible refine (T1.out _ _ H1.out).mono ?_)
    rintro e wg ⟨rfl, hb⟩
    obtain ⟨g1, rfl⟩ := grow_of hb
    clear hb
    go_wp2_with fail
    (with_reducible refine (R1.out _ _ (H2.out.below (by repeat (first | (with_reducible exact Below.refl _ _) | (with_reducible assumption) | (with_reducible exact grow_below _ _) | (with_reducible exact St.below (by assumption)) | (with_reducible refine below_grow ?_ _) | (with_reducible refine Below.alloc ?_ (by first | omega | (simp; done) | (simp [go_sem]; done) | (simp [go_sem]; omega)) _) | (with_reducible exact (St.put1 (by assumption) _).below) | (with_reducible exact (St.put2 (by assumption) _ _).below) | (with_reducible exact (St.put3 (by assumption) _ _ _).below) | (with_reducible exact (St.put4 (by assumption) _ _ _ _).below) | (with_reducible refine below_put ?_ (by first | omega | (simp [go_sem]; omega)) _ _) | (with_reducible refine Below.drew ?_) | (with_reducible refine Below.setCell ?_ (by first | omega | (simp [go_sem]; omega)) _) | (with_reducible refine below_setRow' ?_ (by first | omega | (simp [go_sem]; omega)) _) | (with_reducible refine below_drewN' ?_ _))))).mono ?_)
    rintro e wg ⟨rp, rc, rfl, hR, hb⟩
    obtain ⟨g2, rfl⟩ := grow_of hb
    clear hb
    go_wp2
    go_ret2
    exact ⟨_, _, _, rfl, by omega, by go_simp, hR.below (by repeat (first | (with_reducible exact Below.refl _ _) | (with_reducible assumption) | (with_reducible exact grow_below _ _) | (with_reducible exact St.below (by assumption)) | (with_reducible refine below_grow ?_ _) | (with_reducible refine Below.alloc ?_ (by first | omega | (simp; done) | (simp [go_sem]; done) | (simp [go_sem]; omega)) _) | (with_reducible exact (St.put1 (by assumption) _).below) | (with_reducible exact (St.put2 (by assumption) _ _).below) | (with_reducible exact (St.put3 (by assumption) _ _ _).below) | (with_reducible exact (St.put4 (by assumption) _ _ _ _).below) | (with_reducible refine below_put ?_ (by first | omega | (simp [go_sem]; omega)) _ _) | (with_reducible refine Below.drew ?_) | (with_reducible refine Below.setCell ?_ (by first | omega | (simp [go_sem]; omega)) _) | (with_reducible refine below_setRow' ?_ (by first | omega | (simp [go_sem]; omega)) _) | (with_reducible refine below_drewN' ?_ _))), (by repeat (first | (with_reducible exact Below.refl _ _) | (with_reducible assumption) | (with_reducible exact grow_below _ _) | (with_reducible exact St.below (by assumption)) | (with_reducible refine below_grow ?_ _) | (with_reducible refine Below.alloc ?_ (by first | omega | (simp; done) | (simp [go_sem]; done) | (simp [go_sem]; omega)) _) | (with_reducible exact (St.put1 (by assumption) _).below) | (with_reducible exact (St.put2 (by assumption) _ _).below) | (with_reducible exact (St.put3 (by assumption) _ _ _).below) | (with_reducible exact (St.put4 (by assumption) _ _ _ _).below) | (with_reducible refine below_put ?_ (by first | omega | (simp [go_sem]; omega)) _ _) | (with_reducible refine Below.drew ?_) | (with_reducible refine Below.setCell ?_ (by first | omega | (simp [go_sem]; omega)) _) | (with_reducible refine below_setRow' ?_ (by first | omega | (simp [go_sem]; omega)) _) | (with_reducible refine below_drewN' ?_ _)))⟩
theorem hideTurn_any (key x : List UInt8) (h : key.length = 16 ∨ key.length = 32) (hx : x.length = 16) (v : Value) (w : World) (hr : RowsAt w 16 v (rkeys key)) :
    Calls Try.prog 30 #[v, .agg (bvs x)] w fun e w' => e = .returned (.agg (bvs (sealV key x))) ∧ Below w.heap.size w w' := by
  unfold sealV
  exact encrypt_any (rkeys key) x hx v w (keysAt_rows hr) (by rw [rkeys_len]; omega)
set_option maxRecDepth 100000 in
set_option maxHeartbeats 2000000 in
theorem hideWork_any (key t x x0 : List UInt8) (h : key.length = 16 ∨ key.length = 32) (ht : t.length = 16) (hx : x.length = 16) (rv : Value) (b : Nat) (w : World)
    (hb : blk w b = some (.cells (wkC rv (.func (.func 30) #[] #[]) x0) 83 (0, 0))) (hr : RowsAt w 16 rv (rkeys key)) :
    Calls Try.prog 53 #[.pointer (some ⟨b, 0, none⟩), .agg (bvs t), .agg (bvs x)] w fun e w' => e = .returned (.agg (bvs (hideB key t x))) ∧ Below w.heap.size w w' := by
  have hX := xorL_len _ _ 16 hx ht
  have HS := hid (fun w' (hv' : RowsAt w' 16 rv (rkeys key)) => hideTurn_any key _ h hX rv w' hv')
  have hR : (sealV key (xorL x t)).length = 16 := sealV_len h hX
  have H1 := hid (xor_any x t hx ht)
  have H2 := hid (xor_any _ t hR ht)
  have E := hid (show xorL (sealV key (xorL x t)) t = hideB key t x by unfold hideB; rfl)
  rw [E.out] at H2
  have s1 : csz (bvs (zs 16)) = 16 := by rw [csz_bvs, zs_len]
  have s2 : csz (bvs t) = 16 := by rw [csz_bvs, ht]
  have s3 : csz (bvs x) = 16 := by rw [csz_bvs, hx]
  have s4 : csz (bvs (hideB key t x)) = 16 := by rw [csz_bvs, hideB_len h ht hx]
  have z := zs16; have e0 := zs_ne
  have HV := hid hr
  have c0 : w.cell? ⟨b, 0, none⟩ = some rv := by rw [cell_of_row w b 0 _ _ _ hb]; exact wkC_0 _ _ _
  have c1 : w.cell? ⟨b, 1, none⟩ = some (.func (.func 30) #[] #[]) := by rw [cell_of_row w b 1 _ _ _ hb]; exact wkC_1 _ _ _
  have hl := blk_lt hb
  clear hr hX hR h ht hx E hb
  go_enter Try.func53, Try.ntmps53
  go_wp2_with fail
  refine region_tail_lit (by kernel_rfl) (by kernel_rfl) ?_
  dsimp only [List.dropLast, List.getLast?, List.getLast, Option.getD]
  repeat (first | (refine BigFrame.wpQuiet_skip rfl ?_; simp only [Act.put, List.setIfInBounds_toArray, List.set_cons_zero, List.set_cons_succ]) | (refine BigFrame.wpQuiet_want rfl (fun K hK => ?_); apply Exists.intro; refine ⟨fun w' hw' => ?_, hK _ ?_⟩; (focus (have zw := hw'; obtain ⟨zg, rfl⟩ := grow_of hw'; go_simp; (try (go_bits; go_simp)); first | done | rfl | (first | ((with_reducible refine (H1.out _).mono fun e w2 h2 => ⟨h2.1, zw.step h2.2⟩)) | ((with_reducible refine (HS.out _ ?_).mono fun e w2 h2 => ⟨h2.1, zw.step h2.2⟩); exact HV.out.below (by repeat (first | (with_reducible exact Below.refl _ _) | (with_reducible assumption) | (with_reducible exact grow_below _ _) | (with_reducible exact St.below (by assumption)) | (with_reducible refine below_grow ?_ _) | (with_reducible refine Below.alloc ?_ (by first | omega | (simp; done) | (simp [go_sem]; done) | (simp [go_sem]; omega)) _) | (with_reducible exact (St.put1 (by assumption) _).below) | (with_reducible exact (St.put2 (by assumption) _ _).below) | (with_reducible exact (St.put3 (by assumption) _ _ _).below) | (with_reducible exact (St.put4 (by assumption) _ _ _ _).below) | (with_reducible refine below_put ?_ (by first | omega | (simp [go_sem]; omega)) _ _) | (with_reducible refine Below.drew ?_) | (with_reducible refine Below.setCell ?_ (by first | omega | (simp [go_sem]; omega)) _) | (with_reducible refine below_setRow' ?_ (by first | omega | (simp [go_sem]; omega)) _) | (with_reducible refine below_drewN' ?_ _)))) | ((with_reducible refine (H2.out _).mono fun e w2 h2 => ⟨h2.1, zw.step h2.2⟩))))); clear hK K; simp only [Act.put, List.setIfInBounds_toArray, List.set_cons_zero, List.set_cons_succ]))
  refine wpQuiet_nil ?_
  intro wq hcq
  obtain ⟨gq, rfl⟩ := grow_of hcq
  clear hcq
  go_wp2
  exact post_cell (n := 16) Try.results53 (by kernel_rfl) (.inl rfl) _ _ _ _ rfl rfl (by go_simp; first | done | rfl | exact ⟨rfl, rfl⟩) (by first | (rw [← csz_is]; assumption) | rfl) ⟨rfl, (by repeat (first | (with_reducible exact Below.refl _ _) | (with_reducible assumption) | (with_reducible exact grow_below _ _) | (with_reducible exact St.below (by assumption)) | (with_reducible refine below_grow ?_ _) | (with_reducible refine Below.alloc ?_ (by first | omega | (simp; done) | (simp [go_sem]; done) | (simp [go_sem]; omega)) _) | (with_reducible exact (St.put1 (by assumption) _).below) | (with_reducible exact (St.put2 (by assumption) _ _).below) | (with_reducible exact (St.put3 (by assumption) _ _ _).below) | (with_reducible exact (St.put4 (by assumption) _ _ _ _).below) | (with_reducible refine below_put ?_ (by first | omega | (simp [go_sem]; omega)) _ _) | (with_reducible refine Below.drew ?_) | (with_reducible refine Below.setCell ?_ (by first | omega | (simp [go_sem]; omega)) _) | (with_reducible refine below_setRow' ?_ (by first | omega | (simp [go_sem]; omega)) _) | (with_reducible refine below_drewN' ?_ _)))⟩
theorem showTurn_any (key x : List UInt8) (h : key.length = 16 ∨ key.length = 32) (hx : x.length = 16) (v : Value) (w : World) (hr : RowsAt w 16 v (rkeys key)) :
    Calls Try.prog 39 #[v, .agg (bvs x)] w fun e w' => e = .returned (.agg (bvs (openV key x))) ∧ Below w.heap.size w w' := by
  unfold openV
  exact decrypt_any (rkeys key) x hx v w (keysAt_rows hr) (by rw [rkeys_len]; omega)
set_option maxRecDepth 100000 in
set_option maxHeartbeats 2000000 in
theorem showWork_any (key t x x0 : List UInt8) (h : key.length = 16 ∨ key.length = 32) (ht : t.length = 16) (hx : x.length = 16) (rv : Value) (b : Nat) (w : World)
    (hb : blk w b = some (.cells (wkC rv (.func (.func 39) #[] #[]) x0) 83 (0, 0))) (hr : RowsAt w 16 rv (rkeys key)) :
    Calls Try.prog 53 #[.pointer (some ⟨b, 0, none⟩), .agg (bvs t), .agg (bvs x)] w fun e w' => e = .returned (.agg (bvs (showB key t x))) ∧ Below w.heap.size w w' := by
  have hX := xorL_len _ _ 16 hx ht
  have HS := hid (fun w' (hv' : RowsAt w' 16 rv (rkeys key)) => showTurn_any key _ h hX rv w' hv')
  have hR : (openV key (xorL x t)).length = 16 := openV_len h hX
  have H1 := hid (xor_any x t hx ht)
  have H2 := hid (xor_any _ t hR ht)
  have E := hid (show xorL (openV key (xorL x t)) t = showB key t x by unfold showB; rfl)
  rw [E.out] at H2
  have s1 : csz (bvs (zs 16)) = 16 := by rw [csz_bvs, zs_len]
  have s2 : csz (bvs t) = 16 := by rw [csz_bvs, ht]
  have s3 : csz (bvs x) = 16 := by rw [csz_bvs, hx]
  have s4 : csz (bvs (showB key t x)) = 16 := by rw [csz_bvs, showB_len h ht hx]
  have z := zs16; have e0 := zs_ne
  have HV := hid hr
  have c0 : w.cell? ⟨b, 0, none⟩ = some rv := by rw [cell_of_row w b 0 _ _ _ hb]; exact wkC_0 _ _ _
  have c1 : w.cell? ⟨b, 1, none⟩ = some (.func (.func 39) #[] #[]) := by rw [cell_of_row w b 1 _ _ _ hb]; exact wkC_1 _ _ _
  have hl := blk_lt hb
  clear hr hX hR h ht hx E hb
  go_enter Try.func53, Try.ntmps53
  go_wp2_with fail
  refine region_tail_lit (by kernel_rfl) (by kernel_rfl) ?_
  dsimp only [List.dropLast, List.getLast?, List.getLast, Option.getD]
  repeat (first | (refine BigFrame.wpQuiet_skip rfl ?_; simp only [Act.put, List.setIfInBounds_toArray, List.set_cons_zero, List.set_cons_succ]) | (refine BigFrame.wpQuiet_want rfl (fun K hK => ?_); apply Exists.intro; refine ⟨fun w' hw' => ?_, hK _ ?_⟩; (focus (have zw := hw'; obtain ⟨zg, rfl⟩ := grow_of hw'; go_simp; (try (go_bits; go_simp)); first | done | rfl | (first | ((with_reducible refine (H1.out _).mono fun e w2 h2 => ⟨h2.1, zw.step h2.2⟩)) | ((with_reducible refine (HS.out _ ?_).mono fun e w2 h2 => ⟨h2.1, zw.step h2.2⟩); exact HV.out.below (by repeat (first | (with_reducible exact Below.refl _ _) | (with_reducible assumption) | (with_reducible exact grow_below _ _) | (with_reducible exact St.below (by assumption)) | (with_reducible refine below_grow ?_ _) | (with_reducible refine Below.alloc ?_ (by first | omega | (simp; done) | (simp [go_sem]; done) | (simp [go_sem]; omega)) _) | (with_reducible exact (St.put1 (by assumption) _).below) | (with_reducible exact (St.put2 (by assumption) _ _).below) | (with_reducible exact (St.put3 (by assumption) _ _ _).below) | (with_reducible exact (St.put4 (by assumption) _ _ _ _).below) | (with_reducible refine below_put ?_ (by first | omega | (simp [go_sem]; omega)) _ _) | (with_reducible refine Below.drew ?_) | (with_reducible refine Below.setCell ?_ (by first | omega | (simp [go_sem]; omega)) _) | (with_reducible refine below_setRow' ?_ (by first | omega | (simp [go_sem]; omega)) _) | (with_reducible refine below_drewN' ?_ _)))) | ((with_reducible refine (H2.out _).mono fun e w2 h2 => ⟨h2.1, zw.step h2.2⟩))))); clear hK K; simp only [Act.put, List.setIfInBounds_toArray, List.set_cons_zero, List.set_cons_succ]))
  refine wpQuiet_nil ?_
  intro wq hcq
  obtain ⟨gq, rfl⟩ := grow_of hcq
  clear hcq
  go_wp2
  exact post_cell (n := 16) Try.results53 (by kernel_rfl) (.inl rfl) _ _ _ _ rfl rfl (by go_simp; first | done | rfl | exact ⟨rfl, rfl⟩) (by first | (rw [← csz_is]; assumption) | rfl) ⟨rfl, (by repeat (first | (with_reducible exact Below.refl _ _) | (with_reducible assumption) | (with_reducible exact grow_below _ _) | (with_reducible exact St.below (by assumption)) | (with_reducible refine below_grow ?_ _) | (with_reducible refine Below.alloc ?_ (by first | omega | (simp; done) | (simp [go_sem]; done) | (simp [go_sem]; omega)) _) | (with_reducible exact (St.put1 (by assumption) _).below) | (with_reducible exact (St.put2 (by assumption) _ _).below) | (with_reducible exact (St.put3 (by assumption) _ _ _).below) | (with_reducible exact (St.put4 (by assumption) _ _ _ _).below) | (with_reducible refine below_put ?_ (by first | omega | (simp [go_sem]; omega)) _ _) | (with_reducible refine Below.drew ?_) | (with_reducible refine Below.setCell ?_ (by first | omega | (simp [go_sem]; omega)) _) | (with_reducible refine below_setRow' ?_ (by first | omega | (simp [go_sem]; omega)) _) | (with_reducible refine below_drewN' ?_ _)))⟩
end Go.Proofs.Ytkfggilildiflaa

namespace Go.Proofs.Ytkfggilildiflaa
open Go.RowKit
/-- **The loop 'for .. := range g { .. }' over an iterator that has its contract; the round's variables may lie in blocks of their own.** -/
theorem wp_range2 {P : Program} {g : Operand} {ps : Array Tmp} {assign body : Code} {Q : Exit → Act → World → Prop} {a : Act} {w : World}
    {gf : Nat} {lb : Array Value} (hg : a.eval g = .func (.func gf) #[] lb) (eg : ∀ args w, (callFunc gf args).run P w = .ok (.enter gf args) w)
    {els : Nat → Array Value} {N : Option Nat} {R : List Nat} {W0 : World} (hit : IterAt P gf lb els N R W0) (hb0 : Below W0.heap.size W0 w) (hps : ∀ k, (els k).size = ps.size)
    (I : Nat → List (Nat × Array Value × TypeId) → Prop) (Ix : Code → List (Nat × Array Value × TypeId) → Prop) (M : Nat) (hM : N = none → ∀ k L, I k L → k < M)
    (L0 : List (Nat × Array Value × TypeId)) (h0 : I 0 L0) (hH : Holds w (objs L0)) (hR : ∀ b ∈ R, b < w.heap.size ∧ b ∉ L0.map (·.1)) (A : Nat → List (Nat × Array Value × TypeId) → List (Nat × Array Value × TypeId) → Act → Prop)
    (hassign : ∀ (l k : Nat) (L : List (Nat × Array Value × TypeId)) (W : World), I k L → In L0 w L W → ∀ K : Act → World → Prop, (∀ a1 L' W', In L W L' W' → A k L L' a1 → K a1 W') →
      assign.wpIn (Fence.wide.inRound l) 0 P (Exit.then K (fun _ _ _ => False)) { tmps := (ps.zip (els k)).foldl (fun t (p, v) => t.setIfInBounds p v) a.tmps, defers := [] } W)
    (hbody : ∀ (l k : Nat) (L L' : List (Nat × Array Value × TypeId)) (a1 : Act) (W : World), I k L → A k L L' a1 → In L0 w L' W → (∀ n, N = some n → k < n) → body.wpIn (Fence.wide.inRound l) 0 P (roundEnd (I (k + 1)) Ix L' W) a1 W)
    (hdone : ∀ (D n : Nat) (L : List (Nat × Array Value × TypeId)) (W : World), N = some n → I n L → In L0 w L W → W.heap[D]? = some (.deferred (some [])) → w.heap.size ≤ D → Q .normal { a with defers := { target := .collected D, args := #[] } :: a.defers } W)
    (hstop : ∀ (D : Nat) (c : Code) (L : List (Nat × Array Value × TypeId)) (W : World), Ix c L → In L0 w L W → W.heap[D]? = some (.deferred (some [])) → w.heap.size ≤ D → c.wp P Q { a with defers := { target := .collected D, args := #[] } :: a.defers } W) :
    (Code.rangeFunc g ps assign body).wp P Q a w := by
  refine (wpIn_wide (n := 0)).1 (wpIn_rangeFunc ?_)
  intro fn hfn
  obtain ⟨rec, hrec⟩ : ∃ rec : LoopState → Option Code → Loop, rec = fun st pe => { state := st, pending := pe, fn, tmps := a.tmps, params := ps, assign, body, defers := w.heap.size } := ⟨_, rfl⟩
  obtain ⟨W1, hW1⟩ : ∃ W1, (w.alloc (.deferred (some []))).alloc (.loop (rec .ready none)) = W1 := ⟨_, rfl⟩
  have hL1 : W1.heap[w.heap.size + 1]? = some (.loop (rec .ready none)) := by
    rw [← hW1]; have := World.alloc_heap_new (w.alloc (.deferred (some []))) (.loop (rec .ready none)); rwa [World.size_alloc] at this
  have hK1 : W1.heap[w.heap.size]? = some (.deferred (some [])) := by
    rw [← hW1]; exact (Below.heap_alloc _ _ _ (by simp)).trans (World.alloc_heap_new w _)
  have hbW : Below w.heap.size w W1 := by rw [← hW1]; exact ((Below.refl _ w).alloc (Nat.le_refl _) _).alloc (by simp) _
  have hb1 : Below W0.heap.size W0 W1 := hb0.trans (hbW.mono hb0.size)
  have hHk : Holds W1 (objs L0) := hH.kept (B := []) (Kept.of_below hbW) (fun _ _ => List.not_mem_nil)
  have hn1 : ∀ m, w.heap.size ≤ m → m ∉ L0.map (·.1) := fun m hm0 hm => by
    rw [← objs_keys] at hm
    obtain ⟨x, hx, he⟩ := List.mem_map.1 hm
    have := hH.lt hx; omega
  have hF0 : Holds W1 ([(w.heap.size + 1, .loop (rec .ready none)), (w.heap.size, .deferred (some []))] ++ objs L0) := by
    refine ⟨fun x hx => ?_, ?_⟩
    · simp only [List.cons_append, List.nil_append, List.mem_cons] at hx
      rcases hx with rfl | rfl | hx
      · exact hL1
      · exact hK1
      · exact hHk.1 x hx
    · have := hH.2
      rw [objs_keys] at this
      simp only [List.cons_append, List.nil_append, List.map_cons, objs_keys, List.nodup_cons, List.mem_cons, not_or]
      exact ⟨⟨by omega, hn1 _ (by omega)⟩, hn1 _ (Nat.le_refl _), this⟩
  have hE0 : ∀ x ∈ [(w.heap.size + 1, Obj.loop (rec .ready none)), (w.heap.size, .deferred (some []))], w.heap.size ≤ x.1 := by
    intro x hx
    simp only [List.mem_cons, List.not_mem_nil, or_false] at hx
    rcases hx with rfl | rfl
    · exact Nat.le_succ _
    · exact Nat.le_refl _
  refine ⟨w.heap.size + 1, [{ target := .collected w.heap.size, args := #[] }], W1, { target := .fn (.func gf) lb, args := #[.func (.yield (w.heap.size + 1)) #[] #[]] }, W1, gf,
    #[.func (.yield (w.heap.size + 1)) #[] #[]] ++ lb, W1, ?_, ?_, fun _ _ => trivial, ?_, (fun h => by cases h), ?_⟩
  · rw [← hW1, hrec]; exact run_enterLoop_outer _ _ _ _ _
  · simp only [resolve, hg]
    simp [go_sem]
  · simp [invoke, go_sem, eg]
  · refine callsIn_wide.2 ?_
    refine (hit (w.heap.size + 1)
      (fun k L' => ∃ L, L' = [(w.heap.size + 1, .loop (rec .ready none)), (w.heap.size, .deferred (some []))] ++ objs L ∧ I k L)
      (fun L' => ∃ L c, L' = [(w.heap.size + 1, .loop (rec .done (some c))), (w.heap.size, .deferred (some []))] ++ objs L ∧ Ix c L)
      M W1 ([(w.heap.size + 1, .loop (rec .ready none)), (w.heap.size, .deferred (some []))] ++ objs L0) hb1 ?_ ?_ ⟨L0, rfl, h0⟩ hF0 ?_).mono ?_
    · intro b hb
      obtain ⟨h1, h2⟩ := hR b hb
      simp only [List.cons_append, List.nil_append, List.map_cons, objs_keys, List.mem_cons, not_or]
      exact ⟨by omega, by omega, h2⟩
    · rintro hN k L' ⟨L, _, hI⟩; exact hM hN k L hI
    · -- ONE ROUND
      rintro k L' W ⟨L, rfl, hI⟩ hRd hkn
      have hl : W.heap[w.heap.size + 1]? = some (.loop (rec .ready none)) := hRd.holds.1 _ (List.mem_cons_self ..)
      have hy := run_yield (P := P) (args := els k) hl (by rw [hrec]; exact hps k)
      rw [hrec] at hy
      have hIn0 : In L0 w L W := in_of_full (E0 := [(w.heap.size + 1, .loop (rec .ready none)), (w.heap.size, .deferred (some []))]) (E := [(w.heap.size + 1, .loop (rec .ready none)), (w.heap.size, .deferred (some []))]) hbW rfl hE0 hRd
      refine ⟨fn, _, assign, body, hy, roundIn_of_wpIn hfn (hassign _ k L W hI hIn0 _ fun a1 L' W' hA hAA => ?_)⟩
      have hfA := Rd.frame (E := [(w.heap.size + 1, .loop (rec .ready none)), (w.heap.size, .deferred (some []))]) hA.rd hRd.holds
      have hl' : W'.heap[w.heap.size + 1]? = some (.loop (rec .ready none)) := hfA.holds.1 _ (List.mem_cons_self ..)
      refine ⟨_, run_beginRound hl' (by rw [hrec]), ?_⟩
      have hRd2 := Rd.put (L := (w.heap.size, .deferred (some [])) :: objs L') (hRd.trans hfA) (.loop { rec .ready none with state := .busy })
      have hs2 := Rd.put (L := (w.heap.size, .deferred (some [])) :: objs L') hfA (.loop { rec .ready none with state := .busy })
      generalize W'.putObj (w.heap.size + 1) (.loop { rec .ready none with state := .busy }) = W2 at *
      have hIn : In L0 w L' W2 := in_of_full (E0 := [(w.heap.size + 1, .loop (rec .ready none)), (w.heap.size, .deferred (some []))]) (E := [(w.heap.size + 1, .loop { rec .ready none with state := .busy }), (w.heap.size, .deferred (some []))]) hbW rfl hE0 hRd2
      refine wpIn_mono (hbody _ k L L' a1 W2 hI hAA hIn hkn) ?_
      have fin : ∀ (jump : Option Code) (L2 : List (Nat × Array Value × TypeId)) (W3 : World), In L' W2 L2 W3 →
          ∃ W4, (Instr.endRound (w.heap.size + 1) jump).run P W3 = .ok (.bool jump.isNone) W4 ∧
            Rd ([(w.heap.size + 1, .loop (rec .ready none)), (w.heap.size, .deferred (some []))] ++ objs L) W ([(w.heap.size + 1, .loop (rec (if jump.isNone then .ready else .done) jump)), (w.heap.size, .deferred (some []))] ++ objs L2) W4 := fun jump L2 W3 h3 => by
        have hf := Rd.frame (E := [(w.heap.size + 1, .loop { rec .ready none with state := .busy }), (w.heap.size, .deferred (some []))]) h3.rd hRd2.holds
        have hl3 : W3.heap[w.heap.size + 1]? = some (.loop { rec .ready none with state := .busy }) := hf.holds.1 _ (List.mem_cons_self ..)
        have hr := run_endRound (P := P) jump hl3
        refine ⟨_, hr, ?_⟩
        have h5 := Rd.put (L := (w.heap.size, .deferred (some [])) :: objs L2) (hs2.trans hf) (.loop (rec (if jump.isNone then .ready else .done) jump))
        rw [hrec] at h5 ⊢
        exact h5
      rintro e a3 W3 hp
      cases e with
      | normal =>
        obtain ⟨L2, h3, hi3⟩ := hp
        obtain ⟨W4, hr, h4⟩ := fin none L2 W3 h3
        exact ⟨_, _, hr, _, h4, .inl ⟨rfl, L2, rfl, hi3⟩⟩
      | ret =>
        obtain ⟨L2, h3, hi3⟩ := hp
        obtain ⟨W4, hr, h4⟩ := fin (some .ret) L2 W3 h3
        exact ⟨_, _, hr, _, h4, .inr ⟨rfl, L2, .ret, rfl, hi3⟩⟩
      | exit id =>
        obtain ⟨L2, h3, hi3⟩ := hp
        obtain ⟨W4, hr, h4⟩ := fin (some (.exit id)) L2 W3 h3
        exact ⟨_, _, hr, _, h4, .inr ⟨rfl, L2, .exit id, rfl, hi3⟩⟩
      | goto t =>
        obtain ⟨L2, h3, hi3⟩ := hp
        obtain ⟨W4, hr, h4⟩ := fin (some (.goto t)) L2 W3 h3
        exact ⟨_, _, hr, _, h4, .inr ⟨rfl, L2, .goto t, rfl, hi3⟩⟩
      | panic ch => exact hp.elim
      | outgrown => exact hp.elim
    · -- BEHIND THE ITERATOR
      rintro e W2 ⟨⟨v, rfl⟩, L', hRd, (⟨n, hN, L, rfl, hI⟩ | ⟨L, c, rfl, hI⟩)⟩
      · have hl : W2.heap[w.heap.size + 1]? = some (.loop (rec .ready none)) := hRd.holds.1 _ (List.mem_cons_self ..)
        have hr := run_endLoop (P := P) hl (by rw [hrec]; simp)
        have hR2 := Rd.put (L := (w.heap.size, .deferred (some [])) :: objs L) hRd (.loop (rec .exhausted (none)))
        rw [show ({ rec .ready none with state := .exhausted } : Loop) = rec .exhausted (none) by rw [hrec], show (rec .ready none).pending = none by rw [hrec]] at hr
        refine ⟨none, _, hr, ?_⟩
        exact hdone w.heap.size n L _ hN hI (in_of_full (E0 := [(w.heap.size + 1, .loop (rec .ready none)), (w.heap.size, .deferred (some []))]) (E := [(w.heap.size + 1, .loop (rec .exhausted (none))), (w.heap.size, .deferred (some []))]) hbW rfl hE0 hR2) (hR2.holds.1 _ (List.mem_cons_of_mem _ (List.mem_cons_self ..))) (Nat.le_refl _)
      · have hl : W2.heap[w.heap.size + 1]? = some (.loop (rec .done (some c))) := hRd.holds.1 _ (List.mem_cons_self ..)
        have hr := run_endLoop (P := P) hl (by rw [hrec]; simp)
        have hR2 := Rd.put (L := (w.heap.size, .deferred (some [])) :: objs L) hRd (.loop (rec .exhausted (some c)))
        rw [show ({ rec .done (some c) with state := .exhausted } : Loop) = rec .exhausted (some c) by rw [hrec], show (rec .done (some c)).pending = some c by rw [hrec]] at hr
        refine ⟨some c, _, hr, ?_⟩
        exact (wpIn_wide (n := 0)).2 (hstop w.heap.size c L _ hI (in_of_full (E0 := [(w.heap.size + 1, .loop (rec .ready none)), (w.heap.size, .deferred (some []))]) (E := [(w.heap.size + 1, .loop (rec .exhausted (some c))), (w.heap.size, .deferred (some []))]) hbW rfl hE0 hR2) (hR2.holds.1 _ (List.mem_cons_of_mem _ (List.mem_cons_self ..))) (Nat.le_refl _))
theorem wp_range_box {P : Program} {g : Operand} {ps : Array Tmp} {assign body : Code} {Q : Exit → Act → World → Prop} {a : Act} {w : World}
    {gf : Nat} {lb : Array Value} (hg : a.eval g = .func (.func gf) #[] lb) (eg : ∀ args w, (callFunc gf args).run P w = .ok (.enter gf args) w)
    {els : Nat → Array Value} {N : Option Nat} {R : List Nat} {W0 : World} (hit : IterAt P gf lb els N R W0) (hb0 : Below W0.heap.size W0 w) (hps : ∀ k, (els k).size = ps.size)
    (I : Nat → List (Nat × Array Value × TypeId) → Prop) (Ix : Code → List (Nat × Array Value × TypeId) → Prop) (M : Nat) (hM : N = none → ∀ k L, I k L → k < M)
    (L0 : List (Nat × Array Value × TypeId)) (h0 : I 0 L0) (hH : Holds w (objs L0)) (hR : ∀ b ∈ R, b < w.heap.size ∧ b ∉ L0.map (·.1)) (bx : Nat → Array Value) (bt : TypeId) (act1 : Nat → Nat → Act)
    (hassign : ∀ (l k : Nat) (L : List (Nat × Array Value × TypeId)) (W : World), I k L → In L0 w L W → ∀ K : Act → World → Prop, (∀ b W', In L W ((b, bx k, bt) :: L) W' → K (act1 k b) W') →
      assign.wpIn (Fence.wide.inRound l) 0 P (Exit.then K (fun _ _ _ => False)) { tmps := (ps.zip (els k)).foldl (fun t (p, v) => t.setIfInBounds p v) a.tmps, defers := [] } W)
    (hbody : ∀ (l k : Nat) (L : List (Nat × Array Value × TypeId)) (b : Nat) (W : World), I k L → In L0 w ((b, bx k, bt) :: L) W → (∀ n, N = some n → k < n) → body.wpIn (Fence.wide.inRound l) 0 P (roundEnd (I (k + 1)) Ix ((b, bx k, bt) :: L) W) (act1 k b) W)
    (hdone : ∀ (D n : Nat) (L : List (Nat × Array Value × TypeId)) (W : World), N = some n → I n L → In L0 w L W → W.heap[D]? = some (.deferred (some [])) → w.heap.size ≤ D → Q .normal { a with defers := { target := .collected D, args := #[] } :: a.defers } W)
    (hstop : ∀ (D : Nat) (c : Code) (L : List (Nat × Array Value × TypeId)) (W : World), Ix c L → In L0 w L W → W.heap[D]? = some (.deferred (some [])) → w.heap.size ≤ D → c.wp P Q { a with defers := { target := .collected D, args := #[] } :: a.defers } W) :
    (Code.rangeFunc g ps assign body).wp P Q a w := by
  refine wp_range2 hg eg hit hb0 hps I Ix M hM L0 h0 hH hR (fun k L L' a => ∃ b, L' = (b, bx k, bt) :: L ∧ a = act1 k b) (fun l k L W hI hIn K hK => hassign l k L W hI hIn K fun b W' hW => hK _ _ _ hW ⟨b, rfl, rfl⟩) ?_ hdone hstop
  rintro l k L L' a1 W hI ⟨b, rfl, rfl⟩ hIn hN
  exact hbody l k L b W hI hIn hN
end Go.Proofs.Ytkfggilildiflaa

namespace Go.Proofs.Ytkfggilildiflaa
open Go.ChangeShapes Go.WideShapes Go.ChangeAt Go.RowKit
attribute [local irreducible] xorL sboxL subB sealV openV
attribute [local go_sem] Oper.semAt_some
/-! ### A loop's round, its blocks written in front -/
theorem In.far {L0 L : List (Nat × Array Value × TypeId)} {w W : World} (h : In L0 w L W) {b : Nat} {cs : Array Value} {t : TypeId} {fr : Nat × Nat} (hb : blk w b = some (.cells cs t fr)) (hn : b ∉ L0.map (·.1)) :
    blk W b = some (.cells cs t fr) ∧ (∀ o, W.cell? ⟨b, o, none⟩ = cs[o]?) ∧ b < W.heap.size := h.rd.farCells hb (by rw [objs_keys]; exact hn)
theorem In.blk {L0 L : List (Nat × Array Value × TypeId)} {w W : World} (h : In L0 w L W) (i : Nat) {b : Nat} {cs : Array Value} {t : TypeId} (hi : L[i]? = some (b, cs, t)) : Go.Proofs.Ytkfggilildiflaa.blk W b = some (.cells cs t (0, 0)) := (h.at i hi).1
theorem In.lt {L0 L : List (Nat × Array Value × TypeId)} {w W : World} (h : In L0 w L W) (i : Nat) {b : Nat} {cs : Array Value} {t : TypeId} (hi : L[i]? = some (b, cs, t)) : b < W.heap.size := (h.at i hi).2.2.2.1
theorem In.ne {L0 L : List (Nat × Array Value × TypeId)} {w W : World} (h : In L0 w L W) (i j : Nat) {b c : Nat} {cs cs' : Array Value} {t t' : TypeId} (hi : L[i]? = some (b, cs, t)) (hj : L[j]? = some (c, cs', t')) (hij : i ≠ j) : ¬ b = c := fun e => by
  have h1 : (L.map (·.1))[i]? = some b := by simp [hi]
  have h2 : (L.map (·.1))[j]? = some c := by simp [hj]
  subst e
  obtain ⟨l1, e1⟩ := List.getElem?_eq_some_iff.1 h1
  obtain ⟨l2, e2⟩ := List.getElem?_eq_some_iff.1 h2
  have hnd : (L.map (·.1)).Nodup := by have := h.rd.holds.2; rwa [objs_keys] at this
  exact hij ((List.getElem_inj hnd).1 (e1.trans e2.symm))
theorem In.grow {L0 L : List (Nat × Array Value × TypeId)} {w W : World} (h : In L0 w L W) (g : Laid) : In L0 w L (Go.Proofs.Ytkfggilildiflaa.grow W g) := h.call (grow_below W g)
theorem In.skip {L0 L : List (Nat × Array Value × TypeId)} {w W : World} (h : In L0 w L W) (o : Obj) : In L0 w L (W.alloc o) := h.call ((Below.refl _ _).alloc (Nat.le_refl _) _)
theorem In.put {L0 L : List (Nat × Array Value × TypeId)} {w W : World} (h : In L0 w L W) (i : Nat) {b : Nat} {cs : Array Value} {t : TypeId} (hi : L[i]? = some (b, cs, t)) (cs' : Array Value) : In L0 w (L.set i (b, cs', t)) (putRow W b cs' t) := by
  rw [put_is_setRow (h.blk i hi)]
  exact h.setRow i hi cs'
theorem In.open1 {L0 : List (Nat × Array Value × TypeId)} {w W : World} {b : Nat} {cs : Array Value} {t : TypeId} (h : In L0 w [(b, cs, t)] W) :
    ∃ x, W = putRow x b cs t ∧ In L0 w [(b, cs, t)] x ∧ b < x.heap.size := ⟨W, put_self (h.blk 0 rfl), h, h.lt 0 rfl⟩
theorem In.open2 {L0 : List (Nat × Array Value × TypeId)} {w W : World} {b c : Nat} {cs cs' : Array Value} {t t' : TypeId} (h : In L0 w [(b, cs, t), (c, cs', t')] W) :
    ∃ x, W = putRow (putRow x c cs' t') b cs t ∧ In L0 w [(b, cs, t), (c, cs', t')] x ∧ b < x.heap.size ∧ c < x.heap.size ∧ ¬ b = c ∧ ¬ c = b :=
  ⟨W, by rw [← put_self (h.blk 1 rfl), ← put_self (h.blk 0 rfl)], h, h.lt 0 rfl, h.lt 1 rfl, h.ne 0 1 rfl rfl (by decide), h.ne 1 0 rfl rfl (by decide)⟩
theorem In.put1 {L0 : List (Nat × Array Value × TypeId)} {w x : World} {b : Nat} {cs : Array Value} {t : TypeId} (h : In L0 w [(b, cs, t)] x) (d : Array Value) : In L0 w [(b, d, t)] (putRow x b d t) := h.put 0 rfl d
theorem In.put2 {L0 : List (Nat × Array Value × TypeId)} {w x : World} {b c : Nat} {cs cs' : Array Value} {t t' : TypeId} (h : In L0 w [(b, cs, t), (c, cs', t')] x) (d d' : Array Value) : In L0 w [(b, d, t), (c, d', t')] (putRow (putRow x c d' t') b d t) := (h.put 1 rfl d').put 0 rfl d
theorem In.open3 {L0 : List (Nat × Array Value × TypeId)} {w W : World} {b c d : Nat} {cs cs' cs2 : Array Value} {t t' t2 : TypeId} (h : In L0 w [(b, cs, t), (c, cs', t'), (d, cs2, t2)] W) :
    ∃ x, W = putRow (putRow (putRow x d cs2 t2) c cs' t') b cs t ∧ In L0 w [(b, cs, t), (c, cs', t'), (d, cs2, t2)] x ∧ In [(b, cs, t), (c, cs', t'), (d, cs2, t2)] W [(b, cs, t), (c, cs', t'), (d, cs2, t2)] x ∧ b < x.heap.size ∧ c < x.heap.size ∧ d < x.heap.size ∧ ¬ b = c ∧ ¬ c = b ∧ ¬ b = d ∧ ¬ d = b ∧ ¬ c = d ∧ ¬ d = c :=
  ⟨W, by rw [← put_self (h.blk 2 rfl), ← put_self (h.blk 1 rfl), ← put_self (h.blk 0 rfl)], h, h.round, h.lt 0 rfl, h.lt 1 rfl, h.lt 2 rfl, h.ne 0 1 rfl rfl (by decide), h.ne 1 0 rfl rfl (by decide), h.ne 0 2 rfl rfl (by decide), h.ne 2 0 rfl rfl (by decide), h.ne 1 2 rfl rfl (by decide), h.ne 2 1 rfl rfl (by decide)⟩
theorem In.put3 {L0 : List (Nat × Array Value × TypeId)} {w x : World} {b c e : Nat} {cs cs' cs2 : Array Value} {t t' t2 : TypeId} (h : In L0 w [(b, cs, t), (c, cs', t'), (e, cs2, t2)] x) (d d' d2 : Array Value) : In L0 w [(b, d, t), (c, d', t'), (e, d2, t2)] (putRow (putRow (putRow x e d2 t2) c d' t') b d t) := ((h.put 2 rfl d2).put 1 rfl d').put 0 rfl d
theorem In.mono {L0 L1 L : List (Nat × Array Value × TypeId)} {w W1 W : World} (h : In L0 w L1 W1) (k : In L1 W1 L W) : In L0 w L W := ⟨h.rd.trans k.rd⟩

theorem St.swap01 {w0 w : World} {x y : Nat × Array Value × TypeId} (h : St w0 w [x, y]) : St w0 w [y, x] :=
  ⟨h.1, fun z hz => h.2.1 z (by simp at hz ⊢; exact hz.symm), by have := h.2.2; simp at this ⊢; exact fun e => this e.symm⟩
theorem wrap_small (k : Nat) (h : k ≤ 1000000) : wrap64 (k : Int) = (k : Int) := by unfold wrap64; omega
theorem zs_drop (n k : Nat) : (zs n).drop k = zs (n - k) := by unfold zs; exact List.drop_replicate
theorem zs_nil : zs 0 = [] := by unfold zs; rfl
theorem zs32 : #[Value.int .u8 0, Value.int .u8 0, Value.int .u8 0, Value.int .u8 0, Value.int .u8 0, Value.int .u8 0, Value.int .u8 0, Value.int .u8 0, Value.int .u8 0, Value.int .u8 0, Value.int .u8 0, Value.int .u8 0, Value.int .u8 0, Value.int .u8 0, Value.int .u8 0, Value.int .u8 0, Value.int .u8 0, Value.int .u8 0, Value.int .u8 0, Value.int .u8 0, Value.int .u8 0, Value.int .u8 0, Value.int .u8 0, Value.int .u8 0, Value.int .u8 0, Value.int .u8 0, Value.int .u8 0, Value.int .u8 0, Value.int .u8 0, Value.int .u8 0, Value.int .u8 0, Value.int .u8 0] = bvs (zs 32) := by unfold zs bvs; rfl
theorem text_cells {w : World} {tb o n c : Nat} {l : List UInt8} (h : BytesAt w (.slice (some ⟨tb, o, none⟩) n c) l) (hn : 0 < l.length) :
    ∃ cs t fr, blk w tb = some (.cells cs t fr) ∧ ∀ k, k * 16 + 16 ≤ l.length → o + k * 16 + 16 ≤ csz cs ∧ cut cs (o + k * 16) 16 = bvs (blockAt l k) := by
  obtain ⟨p', c', hv, h1, h0, h3⟩ := h
  simp only [Value.slice.injEq] at hv
  obtain ⟨rfl, rfl, rfl⟩ := hv
  obtain ⟨b', o', cs, t, e, hp, hb, hx⟩ := h3 (by intro e; subst e; simp at hn)
  simp only [Option.some.injEq, Addr.mk.injEq, and_true] at hp
  obtain ⟨rfl, rfl⟩ := hp
  refine ⟨cs, t, e, hb, fun k hk => ?_⟩
  have := cut_of_cells (cs := cs) (o := o + k * 16) (n := 16) (l := blockAt l k) (blockAt_len (by omega)) (by omega) (fun i x hi => by
    unfold blockAt at hi
    rw [List.getElem?_take] at hi
    split at hi
    · rw [List.getElem?_drop] at hi
      rw [Nat.add_assoc, show k * 16 + i = 16 * k + i by omega]
      exact hx _ _ hi
    · cases hi)
  exact this
theorem headL_succ (f : List UInt8 → List UInt8 → List UInt8) (T : Nat → List UInt8) (l : List UInt8) (k : Nat) : headL f T l (k + 1) = headL f T l k ++ f (T k) (blockAt l k) := rfl
theorem run_step {H c : List UInt8} {n k : Nat} (hH : H.length = 16 * k) (hc : c.length = 16) (hn : 16 * k + 16 ≤ n) :
    ovw (bvs (H ++ zs (n - 16 * k))) (k * 16) (c.take (n - k * 16)) = bvs (H ++ c ++ zs (n - 16 * (k + 1))) := by
  rw [List.take_of_length_le (by omega), ovw_bvs, hc]
  congr 1
  rw [List.take_append_of_le_length (by omega), List.take_of_length_le (by omega), List.drop_append, List.drop_of_length_le (by omega), List.nil_append, hH, List.append_assoc]
  congr 2
  rw [zs_drop]
  congr 1
  omega
theorem turnL_whole {F : List UInt8 → List UInt8 → List UInt8} {T : Nat → List UInt8} {back : Bool} {l : List UInt8} {q : Nat} (h : l.length = 16 * q + 0) : turnL F T back l = headL F T l q := by
  unfold turnL
  rw [if_pos (by omega), show l.length / 16 = q by omega]
/-- How many blocks are turned each by itself. -/
def plainN (n : Nat) : Nat := if n % 16 = 0 then n / 16 else n / 16 - 1
set_option maxRecDepth 100000 in
set_option maxHeartbeats 4000000 in
theorem run_whole (F : List UInt8 → List UInt8 → List UInt8) (hF : ∀ t x, t.length = 16 → x.length = 16 → (F t x).length = 16) (first l : List UInt8) (hfirst : first.length = 16) (back : Bool) (rv fv tv : Value) (wb : Nat) (w : World)
    (hwb : blk w wb = some (.cells (wkC rv fv first) 83 (0, 0))) (ht : BytesAt w tv l) (hm : l.length % 16 = 0) (h1 : 16 ≤ l.length) (h2 : l.length ≤ 65536)
    (HB : ∀ w', Below w.heap.size w w' → ∀ t x, t.length = 16 → x.length = 16 → Calls Try.prog 53 #[.pointer (some ⟨wb, 0, none⟩), .agg (bvs t), .agg (bvs x)] w' fun e w2 => e = .returned (.agg (bvs (F t x))) ∧ Below w'.heap.size w' w2) :
    Calls Try.prog 31 #[.pointer (some ⟨wb, 0, none⟩), tv, .bool back] w fun e w' => ∃ g, e = .returned (.slice (some ⟨g, 0, none⟩) l.length l.length) ∧ w.heap.size ≤ g ∧ blk w' g = some (.cells (bvs (turnL F (dblIt first) back l)) 5 (0, 0)) ∧ Below w.heap.size w w' := by
  obtain ⟨tp, tc, rfl, htc⟩ := ht.slice
  obtain ⟨tb, tO, rfl⟩ := ht.ptr (by omega)
  have hwl := blk_lt hwb
  have c2 : cut (wkC rv fv first) 2 16 = bvs first := wkC_cut _ _ _ hfirst
  have c3 : csz (wkC rv fv first) = 18 := by rw [wkC_size, hfirst]
  have s1 : csz (bvs (zs 16)) = 16 := by rw [csz_bvs, zs_len]
  have s2 : csz (bvs first) = 16 := by rw [csz_bvs, hfirst]
  have z := zs16; have e0 := zs_ne; have z3 := zs32
  have HBH := hid HB; have HT := hid ht; have HFH := hid hF; have HFI := hid hfirst
  obtain ⟨n, hn⟩ : ∃ n, n = l.length := ⟨_, rfl⟩
  have HN := hid hn
  have hcs := text_cells ht (by rw [← hn]; omega)
  rw [← hn] at h1 h2 htc ⊢
  obtain ⟨cs, tt, fr, htb, hcut⟩ := hcs
  have HCUT := hid (fun k (hk : k * 16 + 16 ≤ n) => hcut k (by rw [← hn]; exact hk))
  obtain ⟨q, r, hnq, hr16⟩ : ∃ q r, n = 16 * q + r ∧ r < 16 := ⟨n / 16, n % 16, by omega, by omega⟩
  have p0 : (n : Int) / 16 = (q : Int) := by omega
  have p2 : (n : Int) % 16 = (r : Int) := by omega
  have p1 : (n : Int) ≤ 281474976710656 := by omega
  have HNQ := hid hnq
  have HDL := hid (fun k => dblIt_len hfirst k)
  have HDS := hid (fun k => show csz (bvs (dblIt first k)) = 16 by rw [csz_bvs, dblIt_len hfirst])
  clear HB hF hfirst ht hn hnq hcut
  refine calls_of_marks Try.func31 rfl ?_
  simp only [Try.ntmps31, List.size_toArray, List.length_cons, List.length_nil, Nat.reduceAdd, Nat.reduceSub, Array.replicate_succ, Array.replicate_zero, List.push_toArray, List.append_toArray, List.nil_append, List.cons_append]
  have hr : r = 0 := by have := HN.out; have := HNQ.out; omega
  obtain rfl := hr
  go_wp2_with fail
  go_step3
  go_wp2_with fail
  go_step3
  go_wp2_with fail
  (with_reducible refine (tweaks_any first HFI.out _).mono ?_)
  rintro e w1 ⟨rfl, rfl⟩
  have hS := show St w (((((((((w.alloc (Obj.cells #[Value.pointer (some ⟨wb, 0, none⟩)] 54)).alloc (Obj.cells #[Value.slice (some ⟨tb, tO, none⟩) n tc] 22)).alloc (Obj.cells (bvs (zs n)) 5)).alloc
                    (Obj.cells #[Value.slice (some ⟨w.heap.size + 1 + 1, 0, none⟩) n n] 22)).alloc (Obj.cells #[Value.int .i64 q] 3)).alloc (Obj.cells #[Value.int .i64 ((0 : Nat) : Int)] 3)).alloc (Obj.cells #[Value.int .i64 q] 3)).alloc (Obj.cells (bvs (zs 32)) 88)).alloc (Obj.cells (bvs first) 63))
    [(w.heap.size + 1 + 1 + 1 + 1 + 1 + 1 + 1 + 1, bvs first, 63), (w.heap.size + 1 + 1 + 1 + 1 + 1 + 1 + 1, bvs (zs 32), 88), (w.heap.size + 1 + 1 + 1 + 1 + 1 + 1, #[Value.int .i64 q], 3), (w.heap.size + 1 + 1 + 1 + 1 + 1, #[Value.int .i64 ((0 : Nat) : Int)], 3), (w.heap.size + 1 + 1 + 1 + 1, #[Value.int .i64 q], 3),
     (w.heap.size + 1 + 1 + 1, #[Value.slice (some ⟨w.heap.size + 1 + 1, 0, none⟩) n n], 22), (w.heap.size + 1 + 1, bvs (zs n), 5), (w.heap.size + 1, #[Value.slice (some ⟨tb, tO, none⟩) n tc], 22), (w.heap.size, #[Value.pointer (some ⟨wb, 0, none⟩)], 54)] from (St.alloc' (St.alloc' (St.alloc' (St.alloc' (St.alloc' (St.alloc' (St.alloc' (St.alloc' (St.alloc' (St.start w) (by first | rfl | simp)) (by first | rfl | simp)) (by first | rfl | simp)) (by first | rfl | simp)) (by first | rfl | simp)) (by first | rfl | simp)) (by first | rfl | simp)) (by first | rfl | simp)) (by first | rfl | simp))
  go_wp2_with fail
  have hit := tweaks1_iter first HFI.out _ _ (hS.blk 0 rfl)
  have hSL : St w _ [(w.heap.size + 1 + 1, bvs (zs n), 5), (w.heap.size + 1 + 1 + 1 + 1 + 1 + 1 + 1, bvs (zs 32), 88)] := St.swap01 ((((((((hS.erase 0).erase 1).erase 1).erase 1).erase 1).erase 2).erase 2))
  refine wp_range_box (els := fun k => #[.int .i64 (wrap64 k), .agg (bvs (dblIt first k))]) (N := none) (R := [w.heap.size + 1 + 1 + 1 + 1 + 1 + 1 + 1 + 1]) (gf := 60) (lb := #[.pointer (some ⟨w.heap.size + 1 + 1 + 1 + 1 + 1 + 1 + 1 + 1, 0, none⟩)]) (by rfl) (by intro args w; kernel_rfl) hit (Below.refl _ _) (fun _ => rfl)
    (fun k L => k ≤ q ∧ L = [(w.heap.size + 1 + 1, bvs (headL F (dblIt first) l k ++ zs (n - 16 * k)), 5), (w.heap.size + 1 + 1 + 1 + 1 + 1 + 1 + 1, bvs (zs 32), 88)])
    (fun c L => c = .exit 0 ∧ ∃ x, L = [x, (w.heap.size + 1 + 1, bvs (headL F (dblIt first) l q ++ zs (n - 16 * q)), 5), (w.heap.size + 1 + 1 + 1 + 1 + 1 + 1 + 1, bvs (zs 32), 88)]) (q + 1) (fun _ k L h => by omega)
    [(w.heap.size + 1 + 1, bvs (zs n), 5), (w.heap.size + 1 + 1 + 1 + 1 + 1 + 1 + 1, bvs (zs 32), 88)] ⟨Nat.zero_le _, by simp [headL]⟩ hSL.holds ?R (fun k => bvs (dblIt first k)) 63 ?act1 ?assign ?body ?done ?stop
  case R =>
    intro b hb
    obtain rfl := List.mem_singleton.1 hb
    exact ⟨hS.lt 0 rfl, by simp; omega⟩
  case assign =>
    intro l0 k L W1 hI hIn K hK
    have hl := HDS.out k
    gi_wp2
    have h5 := hIn.round.alloc (bvs (dblIt first k)) 63
    generalize W1.heap.size = b at *
    exact hK _ _ h5
  case body =>
    rintro l0 k L b W ⟨hk, rfl⟩ hIn _
    obtain ⟨x, rfl, hIn, hB, l1, l2, l3, n1, n2, n3, n4, n5, n6⟩ := hIn.open3
    have hSx := hSL.range hIn
    have ub : w.heap.size + 9 ≤ b := by
      rcases hIn.rd.fresh (b, _) (List.mem_cons_self ..) with h | h
      · rw [objs_keys] at h; simp at h; omega
      · simpa using h
    have u0 : ¬ w.heap.size = b := by omega
    have u1 : ¬ w.heap.size + 1 = b := by omega
    have u3 : ¬ w.heap.size + 1 + 1 + 1 = b := by omega
    have u4 : ¬ w.heap.size + 1 + 1 + 1 + 1 = b := by omega
    have u5 : ¬ w.heap.size + 1 + 1 + 1 + 1 + 1 = b := by omega
    have u6 : ¬ w.heap.size + 1 + 1 + 1 + 1 + 1 + 1 = b := by omega
    have u7 : ¬ tb = b := by have := blk_lt htb; omega
    have v1 : ¬ tb = w.heap.size + 1 + 1 := by have := blk_lt htb; omega
    have v2 : ¬ tb = w.heap.size + 1 + 1 + 1 + 1 + 1 + 1 + 1 := by have := blk_lt htb; omega
    obtain ⟨f0, g0, m0⟩ := hIn.far (hS.blk 8 rfl) (by simp <;> omega)
    obtain ⟨f1, g1, m1⟩ := hIn.far (hS.blk 7 rfl) (by simp <;> omega)
    obtain ⟨f3, g3, m3⟩ := hIn.far (hS.blk 5 rfl) (by simp <;> omega)
    obtain ⟨f4, g4, m4⟩ := hIn.far (hS.blk 4 rfl) (by simp <;> omega)
    obtain ⟨f5, g5, m5⟩ := hIn.far (hS.blk 3 rfl) (by simp <;> omega)
    obtain ⟨f6, g6, m6⟩ := hIn.far (hS.blk 2 rfl) (by simp <;> omega)
    obtain ⟨f7, _, t0, m7, _⟩ := hSx.far htb
    have HW := hid (wrap_small k (by have := HNQ.out; omega))
    have hl := HDS.out k
    have HSx := hid hSx; have HB := hid hB
    clear hSx hB hIn hit hSL hS
    have hHead := headL_len (f := F) (T := dblIt first) (fun j x hx => HFH.out _ _ (HDL.out j) hx) (l := l) k (by have := HN.out; have := HNQ.out; omega)
    by_cases hkq : k < q
    · have hfit := (HCUT.out k (by have := HNQ.out; omega))
      obtain ⟨k1, k2⟩ := hfit
      have HBL := blockAt_len (l := l) (j := k) (by have := HN.out; have := HNQ.out; omega)
      have sB : csz (bvs (blockAt l k)) = 16 := by rw [csz_bvs, HBL]
      have hFL := HFH.out _ _ (HDL.out k) HBL
      have sF : csz (bvs (F (dblIt first k) (blockAt l k))) = 16 := by rw [csz_bvs, hFL]
      have HFL := hid hFL
      have HBL := hid HBL
      have HST := hid (run_step hHead hFL (n := n) (k := k) (by have := HNQ.out; omega))
      rw [← headL_succ] at HST
      have HHD := hid hHead
      clear hFL hHead
      have a1 : (0 : Int) ≤ (k : Int) * 16 := by omega
      have a2 : (k : Int) * 16 ≤ (n : Int) := by have := HNQ.out; omega
      have a4 : ¬ tc = k * 16 := by have := HNQ.out; omega
      have a5 : 16 ≤ n - k * 16 := by have := HNQ.out; omega
      have a6 : ¬ n = k * 16 := by omega
      have a7 : k * 16 ≤ n := by omega
      have a3 : ((k : Int) * 16).toNat = k * 16 := by omega
      rw [HW.out]
      gi_wp2_with fail
      refine region_monoR_lit 9 (by kernel_rfl) (by kernel_rfl) (by kernel_rfl) ?_
      dsimp only [List.take, List.drop]
      repeat (first | (refine wpM_skip (fun _ => rfl) ?_; simp only [Act.put, List.setIfInBounds_toArray, List.set_cons_zero, List.set_cons_succ]) | (refine wpM_alloc rfl (fun _ => rfl) _ (by intro w; go_simp; rfl) ?_; simp only [Act.put, List.setIfInBounds_toArray, List.set_cons_zero, List.set_cons_succ]) | (refine wpM_slice' rfl (fun _ => rfl) (fun K hK => ?_); apply Exists.intro; apply Exists.intro; apply Exists.intro; apply Exists.intro; refine ⟨fun pB w' hw' hF => ?_, hK _ _ ?_⟩; (focus (have zw := hw'; obtain ⟨zg, rfl⟩ := grow_of hw'; (first | (have yd := facts_of (hF.at (List.Mem.head _) (by decide +kernel)); obtain ⟨yb0, yc0, yf0, yl0⟩ := yd) | skip); (first | (have yd := facts_of (hF.at (List.Mem.tail _ (List.Mem.head _)) (by decide +kernel)); obtain ⟨yb1, yc1, yf1, yl1⟩ := yd) | skip); go_simp; (first | done | rfl | exact ⟨⟨rfl, rfl⟩, rfl⟩ | (refine ⟨?_, ?_⟩ <;> rfl) | (refine ⟨⟨?_, ?_⟩, ?_⟩ <;> rfl) | (refine ⟨⟨?_, ?_⟩, ⟨?_, ?_⟩⟩ <;> rfl)))); clear hK K; simp only [Act.put, List.setIfInBounds_toArray, List.set_cons_zero, List.set_cons_succ]) | (refine wpM_want (fun _ => rfl) (fun K hK => ?_); apply Exists.intro; refine ⟨fun pB w' hw' hF => ?_, hK _ _ ?_⟩; (focus (have zw := hw'; generalize hCC : Below w'.heap.size w' = CC; have HCC := hid hCC; clear hCC; obtain ⟨zg, rfl⟩ := grow_of hw'; (first | (have yd := facts_of (hF.at (List.Mem.head _) (by decide +kernel)); obtain ⟨yb0, yc0, yf0, yl0⟩ := yd) | skip); (first | (have yd := facts_of (hF.at (List.Mem.tail _ (List.Mem.head _)) (by decide +kernel)); obtain ⟨yb1, yc1, yf1, yl1⟩ := yd) | skip); go_simp; (try (go_bits; go_simp)); first | done | rfl | (first | ((with_reducible refine (HBH.out _ ?_ _ _ ?_ ?_).mono fun e w2 h2 => ⟨h2.1, by rw [← HCC.out]; exact h2.2⟩); ((focus exact below_grow (HSx.out.put3 _ _ _).below _); (focus exact HDL.out k); (focus exact HBL)))))); clear hK K; simp only [Act.put, List.setIfInBounds_toArray, List.set_cons_zero, List.set_cons_succ]))
      refine wpM_nil ?_
      intro pB wq hcq hfq hnq
      obtain ⟨gq, rfl⟩ := grow_of hcq
      clear hcq
      have hsp := hfq _ (List.mem_cons_self ..)
      simp only at hsp
      dsimp only
      obtain ⟨hsp1, hsp2⟩ := hsp
      generalize hpb : pB _ = nb at *
      obtain ⟨ga, gb, hgs, rfl⟩ := grow_split hsp1 hsp2
      rw [hgs]
      clear hgs hsp1 hsp2 hpb hfq hnq
      try simp only [put_size, grow_size, World.size_alloc]
      gi_wp2_with fail
      refine region_monoR_lit 4 (by kernel_rfl) (by kernel_rfl) (by kernel_rfl) ?_
      dsimp only [List.take, List.drop]
      repeat (first | (refine wpM_skip (fun _ => rfl) ?_; simp only [Act.put, List.setIfInBounds_toArray, List.set_cons_zero, List.set_cons_succ]) | (refine wpM_alloc rfl (fun _ => rfl) _ (by intro w; go_simp; rfl) ?_; simp only [Act.put, List.setIfInBounds_toArray, List.set_cons_zero, List.set_cons_succ]) | (refine wpM_slice' rfl (fun _ => rfl) (fun K hK => ?_); apply Exists.intro; apply Exists.intro; apply Exists.intro; apply Exists.intro; refine ⟨fun pB w' hw' hF => ?_, hK _ _ ?_⟩; (focus (have zw := hw'; obtain ⟨zg, rfl⟩ := grow_of hw'; (first | (have yd := facts_of (hF.at (List.Mem.head _) (by decide +kernel)); obtain ⟨yb0, yc0, yf0, yl0⟩ := yd) | skip); (first | (have yd := facts_of (hF.at (List.Mem.tail _ (List.Mem.head _)) (by decide +kernel)); obtain ⟨yb1, yc1, yf1, yl1⟩ := yd) | skip); go_simp; (first | done | rfl | exact ⟨⟨rfl, rfl⟩, rfl⟩ | (refine ⟨?_, ?_⟩ <;> rfl) | (refine ⟨⟨?_, ?_⟩, ?_⟩ <;> rfl) | (refine ⟨⟨?_, ?_⟩, ⟨?_, ?_⟩⟩ <;> rfl)))); clear hK K; simp only [Act.put, List.setIfInBounds_toArray, List.set_cons_zero, List.set_cons_succ]) | (refine wpM_want (fun _ => rfl) (fun K hK => ?_); apply Exists.intro; refine ⟨fun pB w' hw' hF => ?_, hK _ _ ?_⟩; (focus (have zw := hw'; generalize hCC : Below w'.heap.size w' = CC; have HCC := hid hCC; clear hCC; obtain ⟨zg, rfl⟩ := grow_of hw'; (first | (have yd := facts_of (hF.at (List.Mem.head _) (by decide +kernel)); obtain ⟨yb0, yc0, yf0, yl0⟩ := yd) | skip); (first | (have yd := facts_of (hF.at (List.Mem.tail _ (List.Mem.head _)) (by decide +kernel)); obtain ⟨yb1, yc1, yf1, yl1⟩ := yd) | skip); go_simp; (try (go_bits; go_simp)); first | done | rfl | (first | fail))); clear hK K; simp only [Act.put, List.setIfInBounds_toArray, List.set_cons_zero, List.set_cons_succ]))
      refine wpM_nil ?_
      intro pB wq hcq hfq hnq
      obtain ⟨gq, rfl⟩ := grow_of hcq
      clear hcq
      refine wpIn_copy (elem := 5) rfl rfl (by kernel_rfl) (by kernel_rfl) rfl rfl (by go_simp; first | done | rfl | exact ⟨rfl, rfl⟩) (bytesAt_whole (by go_simp; first | done | rfl | exact ⟨rfl, rfl⟩) HFL.out) ?_ ?_
      · rw [csz_bvs, List.length_append, zs_len, HHD.out, List.length_take, HFL.out]; omega
      · rw [HST.out]
        have hB := HB.out
        gi_wp2
        exact ⟨_, In.tail ((((((HB.out.put3 _ _ _).grow ga).skip _).grow gb).grow gq).setRow 1 rfl _), by omega, rfl⟩
    · obtain rfl : k = q := by omega
      clear hHead
      have hkk : ¬ (k : Int) < (k : Int) := by omega
      rw [HW.out]
      gi_wp2
      exact ⟨_, HB.out.put3 _ _ _, rfl, _, _, _, rfl⟩
  case done => intro D n L W1 h; cases h
  case stop =>
    rintro D c L W1 ⟨rfl, x0, rfl⟩ hIn hD hD0
    have hIn2 := hIn.tail
    have hSx := hSL.range hIn2
    obtain ⟨f3, g3, m3⟩ := hIn2.far (hS.blk 5 rfl) (by simp <;> omega)
    obtain ⟨f5, g5, m5⟩ := hIn2.far (hS.blk 3 rfl) (by simp <;> omega)
    have hT := hid (turnL_whole (F := F) (T := dblIt first) (back := back) (l := l) (q := q) (by rw [← HN.out]; exact HNQ.out))
    have hz0 : n - 16 * q = 0 := by have := HNQ.out; omega
    have h5 := hSx.shut hD (fun _ _ _ h => by cases h) (Nat.le_trans (hSL.below.size) hD0) (.deferred none)
    rw [hz0] at h5
    clear hIn hIn2 hSx hit hSL hS hz0
    go_wp2
    rw [Exit.noGoto_ret]
    go_wp2
    refine postM (.inl rfl) rfl hD ?_
    go_ret
    exact ⟨_, rfl, by omega, by rw [hT.out]; simpa [zs_nil] using h5.blk 0 rfl, h5.below⟩
end Go.Proofs.Ytkfggilildiflaa

namespace Go.Proofs.Ytkfggilildiflaa
open Go.ChangeShapes Go.WideShapes Go.ChangeAt Go.RowKit
attribute [local irreducible] xorL sboxL subB sealV openV
attribute [local go_sem] Oper.semAt_some
theorem paste_bvs {a b : List UInt8} {o : Nat} (h : ¬ (o = 0 ∧ a.length = b.length)) : paste (bvs a) o (bvs b) = bvs (a.take o ++ b ++ a.drop (o + b.length)) := by
  unfold paste
  rw [if_neg (by rw [csz_bvs, csz_bvs]; exact h)]
  unfold splice bvs
  simp [List.map_take, List.map_drop]
theorem paste_first {c : List UInt8} (h : c.length = 16) : paste (bvs (zs 32)) 0 (bvs c) = bvs (c ++ zs 16) := by
  rw [paste_bvs (by rw [zs_len]; omega), h, List.take_zero, List.nil_append, zs_drop]
theorem paste_second {c d : List UInt8} (h : c.length = 16) (hd : d.length = 16) : paste (bvs (c ++ zs 16)) 16 (bvs d) = bvs (c ++ d) := by
  rw [paste_bvs (by omega), hd, ← h, List.take_left, List.drop_of_length_le (by rw [List.length_append, zs_len]; omega), List.append_nil]
theorem paste_low {a b c : List UInt8} (ha : a.length = 16) (hb : b.length = 16) (hc : c.length = 16) : paste (bvs (a ++ b)) 0 (bvs c) = bvs (c ++ b) := by
  rw [paste_bvs (by rw [List.length_append]; omega), hc, List.take_zero, List.nil_append, ← ha, Nat.zero_add, List.drop_left]
theorem paste_high {a b c : List UInt8} (ha : a.length = 16) (hb : b.length = 16) (hc : c.length = 16) : paste (bvs (a ++ b)) 16 (bvs c) = bvs (a ++ c) := by
  rw [paste_bvs (by omega), hc, ← ha, List.take_left, List.drop_of_length_le (by rw [List.length_append]; omega), List.append_nil]
theorem cut_bvs {l : List UInt8} {o n : Nat} (h : o + n ≤ l.length) : cut (bvs l) o n = bvs ((l.drop o).take n) := by
  by_cases hn : n = 0
  · subst hn
    unfold cut
    split
    · rename_i hc
      rw [csz_bvs] at hc
      have : l = [] := List.eq_nil_of_length_eq_zero hc.2
      subst this; simp
    · simp [bvs]
  · exact (cut_of_cells (l := (l.drop o).take n) (by simp; omega) (by omega) (fun i x hi => by
      rw [List.getElem?_take] at hi
      split at hi
      · rw [List.getElem?_drop] at hi; exact bvs_at hi
      · cases hi)).2
theorem cut_low {a b : List UInt8} (ha : a.length = 16) (hb : b.length = 16) : cut (bvs (a ++ b)) 0 16 = bvs a := by
  rw [cut_bvs (by rw [List.length_append]; omega), List.drop_zero, ← ha, List.take_left]
theorem cut_high {a b : List UInt8} (ha : a.length = 16) (hb : b.length = 16) : cut (bvs (a ++ b)) 16 16 = bvs b := by
  rw [cut_bvs (by rw [List.length_append]; omega)]
  conv => lhs; rw [← ha]
  rw [List.drop_left, List.take_of_length_le (by omega)]
theorem turnL_rest {F : List UInt8 → List UInt8 → List UInt8} {T : Nat → List UInt8} {back : Bool} {l : List UInt8} {pl r : Nat} (h : l.length = 16 * (pl + 1) + r) (h0 : 0 < r) (h1 : r < 16) :
    turnL F T back l = headL F T l pl ++ (F (T (if back then pl else pl + 1)) (l.drop (pl * 16 + 16) ++ (F (T (if back then pl + 1 else pl)) (blockAt l pl)).drop r) ++ (F (T (if back then pl + 1 else pl)) (blockAt l pl)).take r) := by
  unfold turnL
  rw [if_neg (by omega), show l.length / 16 = pl + 1 by omega, show l.length % 16 = r by omega, Nat.add_sub_cancel, show 16 * (pl + 1) = pl * 16 + 16 by omega]
theorem text_rest {c l : List UInt8} {pl r : Nat} (h : l.length = 16 * (pl + 1) + r) (hc : c.length = 16) : ovw (bvs c) 0 ((l.drop (pl * 16 + 16)).take r) = bvs (l.drop (pl * 16 + 16) ++ c.drop r) := by
  rw [ovw_bvs, List.take_zero, List.nil_append, List.take_of_length_le (by rw [List.length_drop]; omega), List.length_drop, Nat.zero_add, show l.length - (pl * 16 + 16) = r by omega]
theorem rest_len {c l : List UInt8} {pl r : Nat} (h : l.length = 16 * (pl + 1) + r) (hc : c.length = 16) (hr : r < 16) : (l.drop (pl * 16 + 16) ++ c.drop r).length = 16 := by
  rw [List.length_append, List.length_drop, List.length_drop]; omega
theorem out_one {H c : List UInt8} {n pl r : Nat} (hH : H.length = 16 * pl) (hc : c.length = 16) (hn : n = 16 * (pl + 1) + r) (hr : r < 16) :
    ovw (bvs (H ++ zs (n - 16 * pl))) (pl * 16 + 16) ((c.take r).take (n - (pl * 16 + 16))) = bvs (H ++ zs 16 ++ c.take r) := by
  rw [List.take_of_length_le (by rw [List.length_take]; omega), ovw_bvs, List.length_take, hc, Nat.min_eq_left (by omega)]
  rw [List.drop_of_length_le (by rw [List.length_append, zs_len]; omega), List.append_nil]
  congr 1
  congr 1
  rw [List.take_append, List.take_of_length_le (by omega), hH, show pl * 16 + 16 - 16 * pl = 16 by omega]
  congr 1
  unfold zs
  rw [List.take_replicate]
  congr 1
  omega
theorem out_two {H c d : List UInt8} {n pl r : Nat} (hH : H.length = 16 * pl) (hc : c.length = 16) (hd : d.length = r) (hn : n = 16 * (pl + 1) + r) :
    ovw (bvs (H ++ (zs 16 ++ d))) (pl * 16) (c.take (n - pl * 16)) = bvs (H ++ (c ++ d)) := by
  rw [List.take_of_length_le (by omega), ovw_bvs, hc, List.take_append_of_le_length (by omega), List.take_of_length_le (by omega)]
  congr 2
  congr 1
  rw [List.drop_append, List.drop_of_length_le (by omega), List.nil_append, hH, show pl * 16 + 16 - 16 * pl = 16 by omega, List.drop_append_of_le_length (by rw [zs_len]; omega), List.drop_of_length_le (by rw [zs_len]; omega), List.nil_append]
theorem bytesAt_head {w : World} {g n c : Nat} {t : TypeId} {fr : Nat × Nat} {L : List UInt8} (h : blk w g = some (.cells (bvs L) t fr)) (hn : n ≤ L.length) (hc : n ≤ c) : BytesAt w (.slice (some ⟨g, 0, none⟩) n c) (L.take n) := by
  have := bytesAt_bvs (o := 0) (n := n) (c := c) h (by omega) hc
  rwa [List.drop_zero] at this
theorem blk_putObj (w : World) (D i : Nat) (o : Obj) (h : ¬ i = D) : blk (w.putObj D o) i = blk w i := World.putObj_heap_other (fun e => h e)
theorem below_putObj {B : Nat} {w0 w : World} (h : Below B w0 w) {D : Nat} (hD : B ≤ D) (o : Obj) : Below B w0 (w.putObj D o) :=
  h.trans ⟨rfl, rfl, rfl, by simp, fun k hk => World.putObj_heap_other (by omega)⟩
set_option maxRecDepth 100000 in
set_option maxHeartbeats 4000000 in
theorem run_rest (F : List UInt8 → List UInt8 → List UInt8) (hF : ∀ t x, t.length = 16 → x.length = 16 → (F t x).length = 16) (first l : List UInt8) (hfirst : first.length = 16) (back : Bool) (rv fv tv : Value) (wb : Nat) (w : World)
    (hwb : blk w wb = some (.cells (wkC rv fv first) 83 (0, 0))) (ht : BytesAt w tv l) (hm : ¬ l.length % 16 = 0) (h1 : 16 ≤ l.length) (h2 : l.length ≤ 65536)
    (HB : ∀ w', Below w.heap.size w w' → ∀ t x, t.length = 16 → x.length = 16 → Calls Try.prog 53 #[.pointer (some ⟨wb, 0, none⟩), .agg (bvs t), .agg (bvs x)] w' fun e w2 => e = .returned (.agg (bvs (F t x))) ∧ Below w'.heap.size w' w2) :
    Calls Try.prog 31 #[.pointer (some ⟨wb, 0, none⟩), tv, .bool back] w fun e w' => ∃ g, e = .returned (.slice (some ⟨g, 0, none⟩) l.length l.length) ∧ w.heap.size ≤ g ∧ blk w' g = some (.cells (bvs (turnL F (dblIt first) back l)) 5 (0, 0)) ∧ Below w.heap.size w w' := by
  obtain ⟨tp, tc, rfl, htc⟩ := ht.slice
  obtain ⟨tb, tO, rfl⟩ := ht.ptr (by omega)
  have hwl := blk_lt hwb
  have c2 : cut (wkC rv fv first) 2 16 = bvs first := wkC_cut _ _ _ hfirst
  have c3 : csz (wkC rv fv first) = 18 := by rw [wkC_size, hfirst]
  have s1 : csz (bvs (zs 16)) = 16 := by rw [csz_bvs, zs_len]
  have s2 : csz (bvs first) = 16 := by rw [csz_bvs, hfirst]
  have z := zs16; have e0 := zs_ne; have z3 := zs32
  have HBH := hid HB; have HT := hid ht; have HFH := hid hF; have HFI := hid hfirst
  obtain ⟨n, hn⟩ : ∃ n, n = l.length := ⟨_, rfl⟩
  have HN := hid hn
  have hcs := text_cells ht (by rw [← hn]; omega)
  rw [← hn] at h1 h2 htc ⊢
  obtain ⟨cs, tt, fr, htb, hcut⟩ := hcs
  have HCUT := hid (fun k (hk : k * 16 + 16 ≤ n) => hcut k (by rw [← hn]; exact hk))
  obtain ⟨q, r, hnq, hr16⟩ : ∃ q r, n = 16 * q + r ∧ r < 16 := ⟨n / 16, n % 16, by omega, by omega⟩
  have p0 : (n : Int) / 16 = (q : Int) := by omega
  have p2 : (n : Int) % 16 = (r : Int) := by omega
  have p1 : (n : Int) ≤ 281474976710656 := by omega
  have HNQ := hid hnq
  have HDL := hid (fun k => dblIt_len hfirst k)
  have HDS := hid (fun k => show csz (bvs (dblIt first k)) = 16 by rw [csz_bvs, dblIt_len hfirst])
  clear HB hF hfirst ht hn hnq hcut
  refine calls_of_marks Try.func31 rfl ?_
  simp only [Try.ntmps31, List.size_toArray, List.length_cons, List.length_nil, Nat.reduceAdd, Nat.reduceSub, Array.replicate_succ, Array.replicate_zero, List.push_toArray, List.append_toArray, List.nil_append, List.cons_append]
  have hr : ¬ r = 0 := by have := HN.out; have := HNQ.out; omega
  obtain ⟨pl, rfl⟩ : ∃ pl, q = pl + 1 := ⟨q - 1, by omega⟩
  have p0 : (n : Int) / 16 = (pl : Int) + 1 := by omega
  have p3 : (0 : Int) < (r : Int) := by omega
  have p4 : ((r : Int) == 0) = false := by simp; omega
  go_wp2_with fail
  go_step3
  go_wp2_with fail
  go_step3
  go_wp2_with fail
  (with_reducible refine (tweaks_any first HFI.out _).mono ?_)
  rintro e w1 ⟨rfl, rfl⟩
  have hS := show St w (((((((((w.alloc (Obj.cells #[Value.pointer (some ⟨wb, 0, none⟩)] 54)).alloc (Obj.cells #[Value.slice (some ⟨tb, tO, none⟩) n tc] 22)).alloc (Obj.cells (bvs (zs n)) 5)).alloc
                    (Obj.cells #[Value.slice (some ⟨w.heap.size + 1 + 1, 0, none⟩) n n] 22)).alloc (Obj.cells #[Value.int .i64 ((pl : Int) + 1)] 3)).alloc (Obj.cells #[Value.int .i64 r] 3)).alloc (Obj.cells #[Value.int .i64 pl] 3)).alloc (Obj.cells (bvs (zs 32)) 88)).alloc (Obj.cells (bvs first) 63))
    [(w.heap.size + 1 + 1 + 1 + 1 + 1 + 1 + 1 + 1, bvs first, 63), (w.heap.size + 1 + 1 + 1 + 1 + 1 + 1 + 1, bvs (zs 32), 88), (w.heap.size + 1 + 1 + 1 + 1 + 1 + 1, #[Value.int .i64 pl], 3), (w.heap.size + 1 + 1 + 1 + 1 + 1, #[Value.int .i64 r], 3), (w.heap.size + 1 + 1 + 1 + 1, #[Value.int .i64 ((pl : Int) + 1)], 3),
     (w.heap.size + 1 + 1 + 1, #[Value.slice (some ⟨w.heap.size + 1 + 1, 0, none⟩) n n], 22), (w.heap.size + 1 + 1, bvs (zs n), 5), (w.heap.size + 1, #[Value.slice (some ⟨tb, tO, none⟩) n tc], 22), (w.heap.size, #[Value.pointer (some ⟨wb, 0, none⟩)], 54)] from (St.alloc' (St.alloc' (St.alloc' (St.alloc' (St.alloc' (St.alloc' (St.alloc' (St.alloc' (St.alloc' (St.start w) (by first | rfl | simp)) (by first | rfl | simp)) (by first | rfl | simp)) (by first | rfl | simp)) (by first | rfl | simp)) (by first | rfl | simp)) (by first | rfl | simp)) (by first | rfl | simp)) (by first | rfl | simp))
  go_wp2_with fail
  have hit := tweaks1_iter first HFI.out _ _ (hS.blk 0 rfl)
  have hSL : St w _ [(w.heap.size + 1 + 1, bvs (zs n), 5), (w.heap.size + 1 + 1 + 1 + 1 + 1 + 1 + 1, bvs (zs 32), 88)] := St.swap01 ((((((((hS.erase 0).erase 1).erase 1).erase 1).erase 1).erase 2).erase 2))
  refine wp_range_box (els := fun k => #[.int .i64 (wrap64 k), .agg (bvs (dblIt first k))]) (N := none) (R := [w.heap.size + 1 + 1 + 1 + 1 + 1 + 1 + 1 + 1]) (gf := 60) (lb := #[.pointer (some ⟨w.heap.size + 1 + 1 + 1 + 1 + 1 + 1 + 1 + 1, 0, none⟩)]) (by rfl) (by intro args w; kernel_rfl) hit (Below.refl _ _) (fun _ => rfl)
    (fun k L => (k ≤ pl ∧ L = [(w.heap.size + 1 + 1, bvs (headL F (dblIt first) l k ++ zs (n - 16 * k)), 5), (w.heap.size + 1 + 1 + 1 + 1 + 1 + 1 + 1, bvs (zs 32), 88)]) ∨ (k = pl + 1 ∧ L = [(w.heap.size + 1 + 1, bvs (headL F (dblIt first) l pl ++ zs (n - 16 * pl)), 5), (w.heap.size + 1 + 1 + 1 + 1 + 1 + 1 + 1, bvs (dblIt first pl ++ zs 16), 88)]))
    (fun c L => c = .exit 0 ∧ ∃ x, L = [x, (w.heap.size + 1 + 1, bvs (headL F (dblIt first) l pl ++ zs (n - 16 * pl)), 5), (w.heap.size + 1 + 1 + 1 + 1 + 1 + 1 + 1, bvs (dblIt first pl ++ dblIt first (pl + 1)), 88)]) (pl + 2) (fun _ k L h => by omega)
    [(w.heap.size + 1 + 1, bvs (zs n), 5), (w.heap.size + 1 + 1 + 1 + 1 + 1 + 1 + 1, bvs (zs 32), 88)] (.inl ⟨Nat.zero_le _, by simp [headL]⟩) hSL.holds ?R (fun k => bvs (dblIt first k)) 63 ?act1 ?assign ?body ?done ?stop
  case R =>
    intro b hb
    obtain rfl := List.mem_singleton.1 hb
    exact ⟨hS.lt 0 rfl, by simp; omega⟩
  case assign =>
    intro l0 k L W1 hI hIn K hK
    have hl := HDS.out k
    gi_wp2
    have h5 := hIn.round.alloc (bvs (dblIt first k)) 63
    generalize W1.heap.size = b at *
    exact hK _ _ h5
  case body =>
    rintro l0 k L b W (⟨hk, rfl⟩ | ⟨rfl, rfl⟩) hIn _
    · skip
      obtain ⟨x, rfl, hIn, hB, l1, l2, l3, n1, n2, n3, n4, n5, n6⟩ := hIn.open3
      have hSx := hSL.range hIn
      have ub : w.heap.size + 9 ≤ b := by
        rcases hIn.rd.fresh (b, _) (List.mem_cons_self ..) with h | h
        · rw [objs_keys] at h; simp at h; omega
        · simpa using h
      have u0 : ¬ w.heap.size = b := by omega
      have u1 : ¬ w.heap.size + 1 = b := by omega
      have u3 : ¬ w.heap.size + 1 + 1 + 1 = b := by omega
      have u4 : ¬ w.heap.size + 1 + 1 + 1 + 1 = b := by omega
      have u5 : ¬ w.heap.size + 1 + 1 + 1 + 1 + 1 = b := by omega
      have u6 : ¬ w.heap.size + 1 + 1 + 1 + 1 + 1 + 1 = b := by omega
      have u7 : ¬ tb = b := by have := blk_lt htb; omega
      have v1 : ¬ tb = w.heap.size + 1 + 1 := by have := blk_lt htb; omega
      have v2 : ¬ tb = w.heap.size + 1 + 1 + 1 + 1 + 1 + 1 + 1 := by have := blk_lt htb; omega
      obtain ⟨f0, g0, m0⟩ := hIn.far (hS.blk 8 rfl) (by simp <;> omega)
      obtain ⟨f1, g1, m1⟩ := hIn.far (hS.blk 7 rfl) (by simp <;> omega)
      obtain ⟨f3, g3, m3⟩ := hIn.far (hS.blk 5 rfl) (by simp <;> omega)
      obtain ⟨f4, g4, m4⟩ := hIn.far (hS.blk 4 rfl) (by simp <;> omega)
      obtain ⟨f5, g5, m5⟩ := hIn.far (hS.blk 3 rfl) (by simp <;> omega)
      obtain ⟨f6, g6, m6⟩ := hIn.far (hS.blk 2 rfl) (by simp <;> omega)
      obtain ⟨f7, _, t0, m7, _⟩ := hSx.far htb
      have HW := hid (wrap_small k (by have := HNQ.out; omega))
      have hl := HDS.out k
      have HSx := hid hSx; have HB := hid hB
      clear hSx hB hIn hit hSL hS
      have hHead := headL_len (f := F) (T := dblIt first) (fun j x hx => HFH.out _ _ (HDL.out j) hx) (l := l) k (by have := HN.out; have := HNQ.out; omega)
      by_cases hkq : k < pl
      · have hfit := (HCUT.out k (by have := HNQ.out; omega))
        obtain ⟨k1, k2⟩ := hfit
        have HBL := blockAt_len (l := l) (j := k) (by have := HN.out; have := HNQ.out; omega)
        have sB : csz (bvs (blockAt l k)) = 16 := by rw [csz_bvs, HBL]
        have hFL := HFH.out _ _ (HDL.out k) HBL
        have sF : csz (bvs (F (dblIt first k) (blockAt l k))) = 16 := by rw [csz_bvs, hFL]
        have HFL := hid hFL
        have HBL := hid HBL
        have HST := hid (run_step hHead hFL (n := n) (k := k) (by have := HNQ.out; omega))
        rw [← headL_succ] at HST
        have HHD := hid hHead
        clear hFL hHead
        have a1 : (0 : Int) ≤ (k : Int) * 16 := by omega
        have a2 : (k : Int) * 16 ≤ (n : Int) := by have := HNQ.out; omega
        have a4 : ¬ tc = k * 16 := by have := HNQ.out; omega
        have a5 : 16 ≤ n - k * 16 := by have := HNQ.out; omega
        have a6 : ¬ n = k * 16 := by omega
        have a7 : k * 16 ≤ n := by omega
        have a3 : ((k : Int) * 16).toNat = k * 16 := by omega
        rw [HW.out]
        gi_wp2_with fail
        refine region_monoR_lit 9 (by kernel_rfl) (by kernel_rfl) (by kernel_rfl) ?_
        dsimp only [List.take, List.drop]
        repeat (first | (refine wpM_skip (fun _ => rfl) ?_; simp only [Act.put, List.setIfInBounds_toArray, List.set_cons_zero, List.set_cons_succ]) | (refine wpM_alloc rfl (fun _ => rfl) _ (by intro w; go_simp; rfl) ?_; simp only [Act.put, List.setIfInBounds_toArray, List.set_cons_zero, List.set_cons_succ]) | (refine wpM_slice' rfl (fun _ => rfl) (fun K hK => ?_); apply Exists.intro; apply Exists.intro; apply Exists.intro; apply Exists.intro; refine ⟨fun pB w' hw' hF => ?_, hK _ _ ?_⟩; (focus (have zw := hw'; obtain ⟨zg, rfl⟩ := grow_of hw'; (first | (have yd := facts_of (hF.at (List.Mem.head _) (by decide +kernel)); obtain ⟨yb0, yc0, yf0, yl0⟩ := yd) | skip); (first | (have yd := facts_of (hF.at (List.Mem.tail _ (List.Mem.head _)) (by decide +kernel)); obtain ⟨yb1, yc1, yf1, yl1⟩ := yd) | skip); go_simp; (first | done | rfl | exact ⟨⟨rfl, rfl⟩, rfl⟩ | (refine ⟨?_, ?_⟩ <;> rfl) | (refine ⟨⟨?_, ?_⟩, ?_⟩ <;> rfl) | (refine ⟨⟨?_, ?_⟩, ⟨?_, ?_⟩⟩ <;> rfl)))); clear hK K; simp only [Act.put, List.setIfInBounds_toArray, List.set_cons_zero, List.set_cons_succ]) | (refine wpM_want (fun _ => rfl) (fun K hK => ?_); apply Exists.intro; refine ⟨fun pB w' hw' hF => ?_, hK _ _ ?_⟩; (focus (have zw := hw'; generalize hCC : Below w'.heap.size w' = CC; have HCC := hid hCC; clear hCC; obtain ⟨zg, rfl⟩ := grow_of hw'; (first | (have yd := facts_of (hF.at (List.Mem.head _) (by decide +kernel)); obtain ⟨yb0, yc0, yf0, yl0⟩ := yd) | skip); (first | (have yd := facts_of (hF.at (List.Mem.tail _ (List.Mem.head _)) (by decide +kernel)); obtain ⟨yb1, yc1, yf1, yl1⟩ := yd) | skip); go_simp; (try (go_bits; go_simp)); first | done | rfl | (first | ((with_reducible refine (HBH.out _ ?_ _ _ ?_ ?_).mono fun e w2 h2 => ⟨h2.1, by rw [← HCC.out]; exact h2.2⟩); ((focus exact below_grow (HSx.out.put3 _ _ _).below _); (focus exact HDL.out k); (focus exact HBL)))))); clear hK K; simp only [Act.put, List.setIfInBounds_toArray, List.set_cons_zero, List.set_cons_succ]))
        refine wpM_nil ?_
        intro pB wq hcq hfq hnq
        obtain ⟨gq, rfl⟩ := grow_of hcq
        clear hcq
        have hsp := hfq _ (List.mem_cons_self ..)
        simp only at hsp
        dsimp only
        obtain ⟨hsp1, hsp2⟩ := hsp
        generalize hpb : pB _ = nb at *
        obtain ⟨ga, gb, hgs, rfl⟩ := grow_split hsp1 hsp2
        rw [hgs]
        clear hgs hsp1 hsp2 hpb hfq hnq
        try simp only [put_size, grow_size, World.size_alloc]
        gi_wp2_with fail
        refine region_monoR_lit 4 (by kernel_rfl) (by kernel_rfl) (by kernel_rfl) ?_
        dsimp only [List.take, List.drop]
        repeat (first | (refine wpM_skip (fun _ => rfl) ?_; simp only [Act.put, List.setIfInBounds_toArray, List.set_cons_zero, List.set_cons_succ]) | (refine wpM_alloc rfl (fun _ => rfl) _ (by intro w; go_simp; rfl) ?_; simp only [Act.put, List.setIfInBounds_toArray, List.set_cons_zero, List.set_cons_succ]) | (refine wpM_slice' rfl (fun _ => rfl) (fun K hK => ?_); apply Exists.intro; apply Exists.intro; apply Exists.intro; apply Exists.intro; refine ⟨fun pB w' hw' hF => ?_, hK _ _ ?_⟩; (focus (have zw := hw'; obtain ⟨zg, rfl⟩ := grow_of hw'; (first | (have yd := facts_of (hF.at (List.Mem.head _) (by decide +kernel)); obtain ⟨yb0, yc0, yf0, yl0⟩ := yd) | skip); (first | (have yd := facts_of (hF.at (List.Mem.tail _ (List.Mem.head _)) (by decide +kernel)); obtain ⟨yb1, yc1, yf1, yl1⟩ := yd) | skip); go_simp; (first | done | rfl | exact ⟨⟨rfl, rfl⟩, rfl⟩ | (refine ⟨?_, ?_⟩ <;> rfl) | (refine ⟨⟨?_, ?_⟩, ?_⟩ <;> rfl) | (refine ⟨⟨?_, ?_⟩, ⟨?_, ?_⟩⟩ <;> rfl)))); clear hK K; simp only [Act.put, List.setIfInBounds_toArray, List.set_cons_zero, List.set_cons_succ]) | (refine wpM_want (fun _ => rfl) (fun K hK => ?_); apply Exists.intro; refine ⟨fun pB w' hw' hF => ?_, hK _ _ ?_⟩; (focus (have zw := hw'; generalize hCC : Below w'.heap.size w' = CC; have HCC := hid hCC; clear hCC; obtain ⟨zg, rfl⟩ := grow_of hw'; (first | (have yd := facts_of (hF.at (List.Mem.head _) (by decide +kernel)); obtain ⟨yb0, yc0, yf0, yl0⟩ := yd) | skip); (first | (have yd := facts_of (hF.at (List.Mem.tail _ (List.Mem.head _)) (by decide +kernel)); obtain ⟨yb1, yc1, yf1, yl1⟩ := yd) | skip); go_simp; (try (go_bits; go_simp)); first | done | rfl | (first | fail))); clear hK K; simp only [Act.put, List.setIfInBounds_toArray, List.set_cons_zero, List.set_cons_succ]))
        refine wpM_nil ?_
        intro pB wq hcq hfq hnq
        obtain ⟨gq, rfl⟩ := grow_of hcq
        clear hcq
        refine wpIn_copy (elem := 5) rfl rfl (by kernel_rfl) (by kernel_rfl) rfl rfl (by go_simp; first | done | rfl | exact ⟨rfl, rfl⟩) (bytesAt_whole (by go_simp; first | done | rfl | exact ⟨rfl, rfl⟩) HFL.out) ?_ ?_
        · rw [csz_bvs, List.length_append, zs_len, HHD.out, List.length_take, HFL.out]; omega
        · rw [HST.out]
          have hB := HB.out
          gi_wp2
          exact ⟨_, In.tail ((((((HB.out.put3 _ _ _).grow ga).skip _).grow gb).grow gq).setRow 1 rfl _), .inl ⟨by omega, rfl⟩⟩
      · obtain rfl : k = pl := by omega
        clear hHead
        have hkk : ¬ (k : Int) < (k : Int) := by omega
        have HP1 := hid (paste_first (c := dblIt first k) (HDL.out _))
        have hkw : ((k : Int) == (k : Int) + 1) = false := by simp; omega
        rw [HW.out]
        gi_wp2
        rw [HP1.out]
        exact ⟨_, In.tail (HB.out.put3 _ _ _), .inr rfl⟩
    · skip
      obtain ⟨x, rfl, hIn, hB, l1, l2, l3, n1, n2, n3, n4, n5, n6⟩ := hIn.open3
      have hSx := hSL.range hIn
      have ub : w.heap.size + 9 ≤ b := by
        rcases hIn.rd.fresh (b, _) (List.mem_cons_self ..) with h | h
        · rw [objs_keys] at h; simp at h; omega
        · simpa using h
      have u0 : ¬ w.heap.size = b := by omega
      have u1 : ¬ w.heap.size + 1 = b := by omega
      have u3 : ¬ w.heap.size + 1 + 1 + 1 = b := by omega
      have u4 : ¬ w.heap.size + 1 + 1 + 1 + 1 = b := by omega
      have u5 : ¬ w.heap.size + 1 + 1 + 1 + 1 + 1 = b := by omega
      have u6 : ¬ w.heap.size + 1 + 1 + 1 + 1 + 1 + 1 = b := by omega
      have u7 : ¬ tb = b := by have := blk_lt htb; omega
      have v1 : ¬ tb = w.heap.size + 1 + 1 := by have := blk_lt htb; omega
      have v2 : ¬ tb = w.heap.size + 1 + 1 + 1 + 1 + 1 + 1 + 1 := by have := blk_lt htb; omega
      obtain ⟨f0, g0, m0⟩ := hIn.far (hS.blk 8 rfl) (by simp <;> omega)
      obtain ⟨f1, g1, m1⟩ := hIn.far (hS.blk 7 rfl) (by simp <;> omega)
      obtain ⟨f3, g3, m3⟩ := hIn.far (hS.blk 5 rfl) (by simp <;> omega)
      obtain ⟨f4, g4, m4⟩ := hIn.far (hS.blk 4 rfl) (by simp <;> omega)
      obtain ⟨f5, g5, m5⟩ := hIn.far (hS.blk 3 rfl) (by simp <;> omega)
      obtain ⟨f6, g6, m6⟩ := hIn.far (hS.blk 2 rfl) (by simp <;> omega)
      obtain ⟨f7, _, t0, m7, _⟩ := hSx.far htb
      have HW := hid (wrap_small (pl + 1) (by have := HNQ.out; omega))
      have hl := HDS.out (pl + 1)
      have HSx := hid hSx; have HB := hid hB
      clear hSx hB hIn hit hSL hS
      have hkk : ¬ ((pl : Int) + 1) < (pl : Int) := by omega
      have hp2 := hid (paste_second (c := dblIt first pl) (d := dblIt first (pl + 1)) (HDL.out _) (HDL.out _))
      have s9 : csz (bvs (dblIt first pl ++ zs 16)) = 32 := by rw [csz_bvs, List.length_append, HDL.out, zs_len]
      have hkd : (pl : Int) + 1 - pl = 1 := by omega
      have hkc : ((pl + 1 : Nat) : Int) = (pl : Int) + 1 := by omega
      rw [HW.out, hkc]
      clear hkc
      gi_wp2
      rw [hp2.out]
      exact ⟨_, HB.out.put3 _ _ _, rfl, _, _, _, rfl⟩
  case done => intro D n L W1 h; cases h
  case stop =>
    rintro D c L W1 ⟨rfl, x0, rfl⟩ hIn hD hD0
    have hIn2 := hIn.tail
    have dg : ¬ D = w.heap.size + 1 + 1 := fun e => by have h := (hIn2.at 0 rfl).1; rw [← e] at h; exact absurd (hD.symm.trans h) (by simp)
    have ds : ¬ D = w.heap.size + 1 + 1 + 1 + 1 + 1 + 1 + 1 := fun e => by have h := (hIn2.at 1 rfl).1; rw [← e] at h; exact absurd (hD.symm.trans h) (by simp)
    obtain ⟨x, rfl, hIn3, l1, l2, n1, n2⟩ := hIn2.open2
    have hSx := hSL.range hIn3
    obtain ⟨f0, g0, m0⟩ := hIn3.far (hS.blk 8 rfl) (by simp <;> omega)
    obtain ⟨f1, g1, m1⟩ := hIn3.far (hS.blk 7 rfl) (by simp <;> omega)
    obtain ⟨f3, g3, m3⟩ := hIn3.far (hS.blk 5 rfl) (by simp <;> omega)
    obtain ⟨f4, g4, m4⟩ := hIn3.far (hS.blk 4 rfl) (by simp <;> omega)
    obtain ⟨f5, g5, m5⟩ := hIn3.far (hS.blk 3 rfl) (by simp <;> omega)
    obtain ⟨f6, g6, m6⟩ := hIn3.far (hS.blk 2 rfl) (by simp <;> omega)
    obtain ⟨f7, _, tl0, m7, _⟩ := hSx.far htb
    have v1 : ¬ tb = w.heap.size + 1 + 1 := by omega
    have v2 : ¬ tb = w.heap.size + 1 + 1 + 1 + 1 + 1 + 1 + 1 := by omega
    have hDx : blk x D = some (.deferred (some [])) := by
      have h : blk _ D = some (.deferred (some [])) := hD
      rwa [put_blk_other _ _ _ _ _ dg, put_blk_other _ _ _ _ _ ds] at h
    have hDl := blk_lt hDx
    have hDw : w.heap.size ≤ D := Nat.le_trans (hSL.below.size) hD0
    have hfit := (HCUT.out pl (by have := HNQ.out; omega))
    obtain ⟨k1, k2⟩ := hfit
    have HBL := hid (blockAt_len (l := l) (j := pl) (by have := HN.out; have := HNQ.out; omega))
    have sB : csz (bvs (blockAt l pl)) = 16 := by rw [csz_bvs, HBL.out]
    have HHD := hid (headL_len (f := F) (T := dblIt first) (fun j x hx => HFH.out _ _ (HDL.out j) hx) (l := l) pl (by have := HN.out; have := HNQ.out; omega))
    have a1 : (0 : Int) ≤ (pl : Int) * 16 := by omega
    have a2 : (pl : Int) * 16 ≤ (n : Int) := by have := HNQ.out; omega
    have a4 : ¬ tc = pl * 16 := by have := HNQ.out; omega
    have a5 : 16 ≤ n - pl * 16 := by have := HNQ.out; omega
    have a6 : ¬ n = pl * 16 := by omega
    have a7 : pl * 16 ≤ n := by omega
    have b1 : (0 : Int) ≤ (pl : Int) * 16 + 16 := by omega
    have b2 : (pl : Int) * 16 + 16 ≤ (n : Int) := by have := HNQ.out; omega
    have b4 : ¬ tc = pl * 16 + 16 := by have := HNQ.out; omega
    have b5 : ¬ n = pl * 16 + 16 := by have := HNQ.out; omega
    have b6 : pl * 16 + 16 ≤ n := by omega
    have r1 : (r : Int) ≤ 16 := by omega
    have r2 : r ≤ 16 := by omega
    have b7 := IntWalk.i64_in ((pl : Int) * 16 + 16) (by have := HNQ.out; omega)
    have b3 : ((pl : Int) * 16 + 16).toNat = pl * 16 + 16 := by omega
    have a3 : ((pl : Int) * 16).toNat = pl * 16 := by omega
    have HT2 : Hid (BytesAt w (.slice (some ⟨tb, tO, none⟩) n tc) l) := by have h := HT.out; rw [← HN.out] at h; exact h
    have HSx := hid hSx
    have hWx := hSx.below
    clear hIn hIn2 hIn3 hit hSL hS hSx hD
    cases back
    · skip
      have x1 := cut_low (HDL.out pl) (HDL.out (pl + 1))
      have x2 := cut_high (HDL.out pl) (HDL.out (pl + 1))
      have x3 : csz (bvs (dblIt first pl ++ dblIt first (pl + 1))) = 32 := by rw [csz_bvs, List.length_append, HDL.out, HDL.out]
      have y0 := HDS.out pl
      have y1 := HDS.out (pl + 1)
      have HFIN := hid (turnL_rest (F := F) (T := dblIt first) (back := false) (l := l) (pl := pl) (r := r) (by have := HN.out; have := HNQ.out; omega) (by omega) (by omega))
      simp only [if_true, if_false, Bool.false_eq_true] at HFIN
      have hC0 := HFH.out _ _ (HDL.out pl) HBL.out
      have q0 : csz (bvs (F (dblIt first pl) (blockAt l pl))) = 16 := by rw [csz_bvs, hC0]
      obtain ⟨C0, hC00⟩ : ∃ C0, F (dblIt first pl) (blockAt l pl) = C0 := ⟨_, rfl⟩
      have HF0 := hid (fun w' (hb : Below w.heap.size w w') => HBH.out w' hb (dblIt first pl) (blockAt l pl) (HDL.out _) HBL.out)
      rw [hC00] at HF0 hC0 HFIN q0
      have HC0 := hid hC0
      have hR := hid (text_rest (c := C0) (l := l) (pl := pl) (r := r) (by have := HN.out; have := HNQ.out; omega) hC0)
      have HC1 := hid (rest_len (c := C0) (l := l) (pl := pl) (r := r) (by have := HN.out; have := HNQ.out; omega) hC0 (by omega))
      obtain ⟨C1, hC1⟩ : ∃ C1, l.drop (pl * 16 + 16) ++ C0.drop r = C1 := ⟨_, rfl⟩
      rw [hC1] at hR HC1 HFIN
      have q1 : csz (bvs C1) = 16 := by rw [csz_bvs, HC1.out]
      have hC2 := HFH.out _ _ (HDL.out (pl + 1)) HC1.out
      have HF1 := hid (fun w' (hb : Below w.heap.size w w') => HBH.out w' hb (dblIt first (pl + 1)) C1 (HDL.out _) HC1.out)
      obtain ⟨C2, hC22⟩ : ∃ C2, F (dblIt first (pl + 1)) C1 = C2 := ⟨_, rfl⟩
      rw [hC22] at hC2 HF1 HFIN
      have q2 : csz (bvs C2) = 16 := by rw [csz_bvs, hC2]
      have HC2 := hid hC2
      have HO1 := hid (out_one (H := headL F (dblIt first) l pl) (c := C0) (n := n) (pl := pl) (r := r) HHD.out hC0 (by have := HNQ.out; omega) (by omega))
      have HO2 := hid (out_two (H := headL F (dblIt first) l pl) (c := C2) (d := C0.take r) (n := n) (pl := pl) (r := r) HHD.out hC2 (by rw [List.length_take, hC0]; omega) (by have := HNQ.out; omega))
      clear hC00 hC22 hC1 hC0 hC2
      generalize headL F (dblIt first) l pl = H at *
      go_wp2_with fail
      refine region_mono_lit 10 (by kernel_rfl) (by kernel_rfl) ?_
      dsimp only [List.take, List.drop]
      repeat (first | (refine wpM_skip (fun _ => rfl) ?_; simp only [Act.put, List.setIfInBounds_toArray, List.set_cons_zero, List.set_cons_succ]) | (refine wpM_alloc rfl (fun _ => rfl) _ (by intro w; go_simp; rfl) ?_; simp only [Act.put, List.setIfInBounds_toArray, List.set_cons_zero, List.set_cons_succ]) | (refine wpM_slice' rfl (fun _ => rfl) (fun K hK => ?_); apply Exists.intro; apply Exists.intro; apply Exists.intro; apply Exists.intro; refine ⟨fun pB w' hw' hF => ?_, hK _ _ ?_⟩; (focus (have zw := hw'; obtain ⟨zg, rfl⟩ := grow_of hw'; (first | (have yd := facts_of (hF.at (List.Mem.head _) (by decide +kernel)); obtain ⟨yb0, yc0, yf0, yl0⟩ := yd) | skip); (first | (have yd := facts_of (hF.at (List.Mem.tail _ (List.Mem.head _)) (by decide +kernel)); obtain ⟨yb1, yc1, yf1, yl1⟩ := yd) | skip); go_simp; (first | done | rfl | exact ⟨⟨rfl, rfl⟩, rfl⟩ | (refine ⟨?_, ?_⟩ <;> rfl) | (refine ⟨⟨?_, ?_⟩, ?_⟩ <;> rfl) | (refine ⟨⟨?_, ?_⟩, ⟨?_, ?_⟩⟩ <;> rfl)))); clear hK K; simp only [Act.put, List.setIfInBounds_toArray, List.set_cons_zero, List.set_cons_succ]) | (refine wpM_want (fun _ => rfl) (fun K hK => ?_); apply Exists.intro; refine ⟨fun pB w' hw' hF => ?_, hK _ _ ?_⟩; (focus (have zw := hw'; generalize hCC : Below w'.heap.size w' = CC; have HCC := hid hCC; clear hCC; obtain ⟨zg, rfl⟩ := grow_of hw'; (first | (have yd := facts_of (hF.at (List.Mem.head _) (by decide +kernel)); obtain ⟨yb0, yc0, yf0, yl0⟩ := yd) | skip); (first | (have yd := facts_of (hF.at (List.Mem.tail _ (List.Mem.head _)) (by decide +kernel)); obtain ⟨yb1, yc1, yf1, yl1⟩ := yd) | skip); go_simp; (try (go_bits; go_simp)); first | done | rfl | (first | ((with_reducible refine (HF0.out _ ?_).mono fun e w2 h2 => ⟨h2.1, by rw [← HCC.out]; exact h2.2⟩); exact below_grow (HSx.out.put2 _ _).below _)))); clear hK K; simp only [Act.put, List.setIfInBounds_toArray, List.set_cons_zero, List.set_cons_succ]))
      refine wpM_nil ?_
      intro pB wq hcq hfq hnq
      obtain ⟨gq, rfl⟩ := grow_of hcq
      clear hcq
      have hsp := hfq _ (List.mem_cons_self ..)
      simp only at hsp
      dsimp only
      obtain ⟨hsp1, hsp2⟩ := hsp
      generalize hpb : pB _ = nb at *
      obtain ⟨ga, gb, hgs, rfl⟩ := grow_split hsp1 hsp2
      rw [hgs]
      clear hgs hsp1 hsp2 hpb hfq hnq
      try simp only [put_size, grow_size, World.size_alloc]
      go_wp2_with fail
      refine region_mono_lit 6 (by kernel_rfl) (by kernel_rfl) ?_
      dsimp only [List.take, List.drop]
      repeat (first | (refine wpM_skip (fun _ => rfl) ?_; simp only [Act.put, List.setIfInBounds_toArray, List.set_cons_zero, List.set_cons_succ]) | (refine wpM_alloc rfl (fun _ => rfl) _ (by intro w; go_simp; rfl) ?_; simp only [Act.put, List.setIfInBounds_toArray, List.set_cons_zero, List.set_cons_succ]) | (refine wpM_slice' rfl (fun _ => rfl) (fun K hK => ?_); apply Exists.intro; apply Exists.intro; apply Exists.intro; apply Exists.intro; refine ⟨fun pB w' hw' hF => ?_, hK _ _ ?_⟩; (focus (have zw := hw'; obtain ⟨zg, rfl⟩ := grow_of hw'; (first | (have yd := facts_of (hF.at (List.Mem.head _) (by decide +kernel)); obtain ⟨yb0, yc0, yf0, yl0⟩ := yd) | skip); (first | (have yd := facts_of (hF.at (List.Mem.tail _ (List.Mem.head _)) (by decide +kernel)); obtain ⟨yb1, yc1, yf1, yl1⟩ := yd) | skip); go_simp; (first | done | rfl | exact ⟨⟨rfl, rfl⟩, rfl⟩ | (refine ⟨?_, ?_⟩ <;> rfl) | (refine ⟨⟨?_, ?_⟩, ?_⟩ <;> rfl) | (refine ⟨⟨?_, ?_⟩, ⟨?_, ?_⟩⟩ <;> rfl)))); clear hK K; simp only [Act.put, List.setIfInBounds_toArray, List.set_cons_zero, List.set_cons_succ]) | (refine wpM_want (fun _ => rfl) (fun K hK => ?_); apply Exists.intro; refine ⟨fun pB w' hw' hF => ?_, hK _ _ ?_⟩; (focus (have zw := hw'; generalize hCC : Below w'.heap.size w' = CC; have HCC := hid hCC; clear hCC; obtain ⟨zg, rfl⟩ := grow_of hw'; (first | (have yd := facts_of (hF.at (List.Mem.head _) (by decide +kernel)); obtain ⟨yb0, yc0, yf0, yl0⟩ := yd) | skip); (first | (have yd := facts_of (hF.at (List.Mem.tail _ (List.Mem.head _)) (by decide +kernel)); obtain ⟨yb1, yc1, yf1, yl1⟩ := yd) | skip); go_simp; (try (go_bits; go_simp)); first | done | rfl | (first | fail))); clear hK K; simp only [Act.put, List.setIfInBounds_toArray, List.set_cons_zero, List.set_cons_succ]))
      refine wpM_nil ?_
      intro pB wq hcq hfq hnq
      obtain ⟨gq, rfl⟩ := grow_of hcq
      clear hcq
      refine wp_copy (elem := 5) rfl rfl (by kernel_rfl) (by kernel_rfl) rfl rfl (by go_simp; first | done | rfl | exact ⟨rfl, rfl⟩) (bytesAt_head (n := r) (L := C0) (by go_simp; first | done | rfl | exact ⟨rfl, rfl⟩) (by rw [HC0.out]; exact r2) r2) ?_ ?_
      · rw [csz_bvs, List.length_append, zs_len, HHD.out, List.length_take, List.length_take, HC0.out]; omega
      · rw [HO1.out]
        go_wp2_with fail
        refine region_mono_lit 6 (by kernel_rfl) (by kernel_rfl) ?_
        dsimp only [List.take, List.drop]
        repeat (first | (refine wpM_skip (fun _ => rfl) ?_; simp only [Act.put, List.setIfInBounds_toArray, List.set_cons_zero, List.set_cons_succ]) | (refine wpM_alloc rfl (fun _ => rfl) _ (by intro w; go_simp; rfl) ?_; simp only [Act.put, List.setIfInBounds_toArray, List.set_cons_zero, List.set_cons_succ]) | (refine wpM_slice' rfl (fun _ => rfl) (fun K hK => ?_); apply Exists.intro; apply Exists.intro; apply Exists.intro; apply Exists.intro; refine ⟨fun pB w' hw' hF => ?_, hK _ _ ?_⟩; (focus (have zw := hw'; obtain ⟨zg, rfl⟩ := grow_of hw'; (first | (have yd := facts_of (hF.at (List.Mem.head _) (by decide +kernel)); obtain ⟨yb0, yc0, yf0, yl0⟩ := yd) | skip); (first | (have yd := facts_of (hF.at (List.Mem.tail _ (List.Mem.head _)) (by decide +kernel)); obtain ⟨yb1, yc1, yf1, yl1⟩ := yd) | skip); go_simp; (first | done | rfl | exact ⟨⟨rfl, rfl⟩, rfl⟩ | (refine ⟨?_, ?_⟩ <;> rfl) | (refine ⟨⟨?_, ?_⟩, ?_⟩ <;> rfl) | (refine ⟨⟨?_, ?_⟩, ⟨?_, ?_⟩⟩ <;> rfl)))); clear hK K; simp only [Act.put, List.setIfInBounds_toArray, List.set_cons_zero, List.set_cons_succ]) | (refine wpM_want (fun _ => rfl) (fun K hK => ?_); apply Exists.intro; refine ⟨fun pB w' hw' hF => ?_, hK _ _ ?_⟩; (focus (have zw := hw'; generalize hCC : Below w'.heap.size w' = CC; have HCC := hid hCC; clear hCC; obtain ⟨zg, rfl⟩ := grow_of hw'; (first | (have yd := facts_of (hF.at (List.Mem.head _) (by decide +kernel)); obtain ⟨yb0, yc0, yf0, yl0⟩ := yd) | skip); (first | (have yd := facts_of (hF.at (List.Mem.tail _ (List.Mem.head _)) (by decide +kernel)); obtain ⟨yb1, yc1, yf1, yl1⟩ := yd) | skip); go_simp; (try (go_bits; go_simp)); first | done | rfl | (first | fail))); clear hK K; simp only [Act.put, List.setIfInBounds_toArray, List.set_cons_zero, List.set_cons_succ]))
        refine wpM_nil ?_
        intro pB wq hcq hfq hnq
        obtain ⟨gq, rfl⟩ := grow_of hcq
        clear hcq
        refine wp_copy (elem := 5) rfl rfl (by kernel_rfl) (by kernel_rfl) rfl rfl (by go_simp; first | done | rfl | exact ⟨rfl, rfl⟩) ((HT2.out.below (by repeat (first | (with_reducible exact Below.refl _ _) | (with_reducible assumption) | (with_reducible exact grow_below _ _) | (with_reducible exact St.below (by assumption)) | (with_reducible refine below_grow ?_ _) | (with_reducible refine Below.alloc ?_ (by first | omega | (simp; done) | (simp [go_sem]; done) | (simp [go_sem]; omega)) _) | (with_reducible exact (St.put1 (by assumption) _).below) | (with_reducible exact (St.put2 (by assumption) _ _).below) | (with_reducible exact (St.put3 (by assumption) _ _ _).below) | (with_reducible exact (St.put4 (by assumption) _ _ _ _).below) | (with_reducible refine below_put ?_ (by first | omega | (simp [go_sem]; omega)) _ _) | (with_reducible refine Below.drew ?_) | (with_reducible refine Below.setCell ?_ (by first | omega | (simp [go_sem]; omega)) _) | (with_reducible refine below_setRow' ?_ (by first | omega | (simp [go_sem]; omega)) _) | (with_reducible refine below_drewN' ?_ _)))).from (pl * 16 + 16) b6) ?_ ?_
        · rw [q0, Nat.zero_add]; exact Nat.le_trans (List.length_take_le _ _) r2
        · rw [hR.out]
          go_wp2_with fail
          (with_reducible refine (HF1.out _ ?_).mono ?_)
          · exact (by repeat (first | (with_reducible exact Below.refl _ _) | (with_reducible assumption) | (with_reducible exact grow_below _ _) | (with_reducible exact St.below (by assumption)) | (with_reducible refine below_grow ?_ _) | (with_reducible refine Below.alloc ?_ (by first | omega | (simp; done) | (simp [go_sem]; done) | (simp [go_sem]; omega)) _) | (with_reducible exact (St.put1 (by assumption) _).below) | (with_reducible exact (St.put2 (by assumption) _ _).below) | (with_reducible exact (St.put3 (by assumption) _ _ _).below) | (with_reducible exact (St.put4 (by assumption) _ _ _ _).below) | (with_reducible refine below_put ?_ (by first | omega | (simp [go_sem]; omega)) _ _) | (with_reducible refine Below.drew ?_) | (with_reducible refine Below.setCell ?_ (by first | omega | (simp [go_sem]; omega)) _) | (with_reducible refine below_setRow' ?_ (by first | omega | (simp [go_sem]; omega)) _) | (with_reducible refine below_drewN' ?_ _)))
          · rintro e wz ⟨rfl, hb⟩
            obtain ⟨g9, rfl⟩ := grow_of hb
            clear hb
            go_wp2_with fail
            refine region_mono_lit 4 (by kernel_rfl) (by kernel_rfl) ?_
            dsimp only [List.take, List.drop]
            repeat (first | (refine wpM_skip (fun _ => rfl) ?_; simp only [Act.put, List.setIfInBounds_toArray, List.set_cons_zero, List.set_cons_succ]) | (refine wpM_alloc rfl (fun _ => rfl) _ (by intro w; go_simp; rfl) ?_; simp only [Act.put, List.setIfInBounds_toArray, List.set_cons_zero, List.set_cons_succ]) | (refine wpM_slice' rfl (fun _ => rfl) (fun K hK => ?_); apply Exists.intro; apply Exists.intro; apply Exists.intro; apply Exists.intro; refine ⟨fun pB w' hw' hF => ?_, hK _ _ ?_⟩; (focus (have zw := hw'; obtain ⟨zg, rfl⟩ := grow_of hw'; (first | (have yd := facts_of (hF.at (List.Mem.head _) (by decide +kernel)); obtain ⟨yb0, yc0, yf0, yl0⟩ := yd) | skip); (first | (have yd := facts_of (hF.at (List.Mem.tail _ (List.Mem.head _)) (by decide +kernel)); obtain ⟨yb1, yc1, yf1, yl1⟩ := yd) | skip); go_simp; (first | done | rfl | exact ⟨⟨rfl, rfl⟩, rfl⟩ | (refine ⟨?_, ?_⟩ <;> rfl) | (refine ⟨⟨?_, ?_⟩, ?_⟩ <;> rfl) | (refine ⟨⟨?_, ?_⟩, ⟨?_, ?_⟩⟩ <;> rfl)))); clear hK K; simp only [Act.put, List.setIfInBounds_toArray, List.set_cons_zero, List.set_cons_succ]) | (refine wpM_want (fun _ => rfl) (fun K hK => ?_); apply Exists.intro; refine ⟨fun pB w' hw' hF => ?_, hK _ _ ?_⟩; (focus (have zw := hw'; generalize hCC : Below w'.heap.size w' = CC; have HCC := hid hCC; clear hCC; obtain ⟨zg, rfl⟩ := grow_of hw'; (first | (have yd := facts_of (hF.at (List.Mem.head _) (by decide +kernel)); obtain ⟨yb0, yc0, yf0, yl0⟩ := yd) | skip); (first | (have yd := facts_of (hF.at (List.Mem.tail _ (List.Mem.head _)) (by decide +kernel)); obtain ⟨yb1, yc1, yf1, yl1⟩ := yd) | skip); go_simp; (try (go_bits; go_simp)); first | done | rfl | (first | fail))); clear hK K; simp only [Act.put, List.setIfInBounds_toArray, List.set_cons_zero, List.set_cons_succ]))
            refine wpM_nil ?_
            intro pB wq hcq hfq hnq
            obtain ⟨gq, rfl⟩ := grow_of hcq
            clear hcq
            refine wp_copy (elem := 5) rfl rfl (by kernel_rfl) (by kernel_rfl) rfl rfl (by go_simp; first | done | rfl | exact ⟨rfl, rfl⟩) (bytesAt_whole (by go_simp; first | done | rfl | exact ⟨rfl, rfl⟩) HC2.out) ?_ ?_
            · rw [csz_bvs, List.length_append, List.length_append, zs_len, HHD.out, List.length_take, List.length_take, HC2.out, HC0.out]; omega
            · rw [HO2.out]
              go_wp2
              rw [Exit.noGoto_ret]
              go_wp2
              have hSt := HSx.out
              refine postM (.inl rfl) rfl (show blk _ D = _ by go_simp) ?_
              go_ret
              refine ⟨_, rfl, by omega, ?_, ?_⟩
              · rw [blk_putObj _ _ _ _ (fun e => dg e.symm), HFIN.out]
                go_simp
              · refine below_putObj ?_ hDw _
                exact (by repeat (first | (with_reducible exact Below.refl _ _) | (with_reducible assumption) | (with_reducible exact grow_below _ _) | (with_reducible exact St.below (by assumption)) | (with_reducible refine below_grow ?_ _) | (with_reducible refine Below.alloc ?_ (by first | omega | (simp; done) | (simp [go_sem]; done) | (simp [go_sem]; omega)) _) | (with_reducible exact (St.put1 (by assumption) _).below) | (with_reducible exact (St.put2 (by assumption) _ _).below) | (with_reducible exact (St.put3 (by assumption) _ _ _).below) | (with_reducible exact (St.put4 (by assumption) _ _ _ _).below) | (with_reducible refine below_put ?_ (by first | omega | (simp [go_sem]; omega)) _ _) | (with_reducible refine Below.drew ?_) | (with_reducible refine Below.setCell ?_ (by first | omega | (simp [go_sem]; omega)) _) | (with_reducible refine below_setRow' ?_ (by first | omega | (simp [go_sem]; omega)) _) | (with_reducible refine below_drewN' ?_ _)))
    · skip
      have w1 : paste (bvs (dblIt first pl ++ dblIt first (pl + 1))) 0 (bvs (dblIt first (pl + 1))) = bvs (dblIt first (pl + 1) ++ dblIt first (pl + 1)) := paste_low (HDL.out _) (HDL.out _) (HDL.out _)
      have w2 : paste (bvs (dblIt first (pl + 1) ++ dblIt first (pl + 1))) 16 (bvs (dblIt first pl)) = bvs (dblIt first (pl + 1) ++ dblIt first pl) := paste_high (HDL.out _) (HDL.out _) (HDL.out _)
      have w3 := cut_low (HDL.out pl) (HDL.out (pl + 1))
      have w4 := cut_high (HDL.out pl) (HDL.out (pl + 1))
      have w5 : csz (bvs (dblIt first pl ++ dblIt first (pl + 1))) = 32 := by rw [csz_bvs, List.length_append, HDL.out, HDL.out]
      have w6 : csz (bvs (dblIt first (pl + 1) ++ dblIt first (pl + 1))) = 32 := by rw [csz_bvs, List.length_append, HDL.out]
      have x1 := cut_low (HDL.out (pl + 1)) (HDL.out pl)
      have x2 := cut_high (HDL.out (pl + 1)) (HDL.out pl)
      have x3 : csz (bvs (dblIt first (pl + 1) ++ dblIt first pl)) = 32 := by rw [csz_bvs, List.length_append, HDL.out, HDL.out]
      have y0 := HDS.out (pl + 1)
      have y1 := HDS.out pl
      have HFIN := hid (turnL_rest (F := F) (T := dblIt first) (back := true) (l := l) (pl := pl) (r := r) (by have := HN.out; have := HNQ.out; omega) (by omega) (by omega))
      simp only [if_true, if_false, Bool.false_eq_true] at HFIN
      have hC0 := HFH.out _ _ (HDL.out (pl + 1)) HBL.out
      have q0 : csz (bvs (F (dblIt first (pl + 1)) (blockAt l pl))) = 16 := by rw [csz_bvs, hC0]
      obtain ⟨C0, hC00⟩ : ∃ C0, F (dblIt first (pl + 1)) (blockAt l pl) = C0 := ⟨_, rfl⟩
      have HF0 := hid (fun w' (hb : Below w.heap.size w w') => HBH.out w' hb (dblIt first (pl + 1)) (blockAt l pl) (HDL.out _) HBL.out)
      rw [hC00] at HF0 hC0 HFIN q0
      have HC0 := hid hC0
      have hR := hid (text_rest (c := C0) (l := l) (pl := pl) (r := r) (by have := HN.out; have := HNQ.out; omega) hC0)
      have HC1 := hid (rest_len (c := C0) (l := l) (pl := pl) (r := r) (by have := HN.out; have := HNQ.out; omega) hC0 (by omega))
      obtain ⟨C1, hC1⟩ : ∃ C1, l.drop (pl * 16 + 16) ++ C0.drop r = C1 := ⟨_, rfl⟩
      rw [hC1] at hR HC1 HFIN
      have q1 : csz (bvs C1) = 16 := by rw [csz_bvs, HC1.out]
      have hC2 := HFH.out _ _ (HDL.out pl) HC1.out
      have HF1 := hid (fun w' (hb : Below w.heap.size w w') => HBH.out w' hb (dblIt first pl) C1 (HDL.out _) HC1.out)
      obtain ⟨C2, hC22⟩ : ∃ C2, F (dblIt first pl) C1 = C2 := ⟨_, rfl⟩
      rw [hC22] at hC2 HF1 HFIN
      have q2 : csz (bvs C2) = 16 := by rw [csz_bvs, hC2]
      have HC2 := hid hC2
      have HO1 := hid (out_one (H := headL F (dblIt first) l pl) (c := C0) (n := n) (pl := pl) (r := r) HHD.out hC0 (by have := HNQ.out; omega) (by omega))
      have HO2 := hid (out_two (H := headL F (dblIt first) l pl) (c := C2) (d := C0.take r) (n := n) (pl := pl) (r := r) HHD.out hC2 (by rw [List.length_take, hC0]; omega) (by have := HNQ.out; omega))
      clear hC00 hC22 hC1 hC0 hC2
      generalize headL F (dblIt first) l pl = H at *
      go_wp2_with fail
      refine region_mono_lit 10 (by kernel_rfl) (by kernel_rfl) ?_
      dsimp only [List.take, List.drop]
      repeat (first | (refine wpM_skip (fun _ => rfl) ?_; simp only [Act.put, List.setIfInBounds_toArray, List.set_cons_zero, List.set_cons_succ]) | (refine wpM_alloc rfl (fun _ => rfl) _ (by intro w; go_simp; rfl) ?_; simp only [Act.put, List.setIfInBounds_toArray, List.set_cons_zero, List.set_cons_succ]) | (refine wpM_slice' rfl (fun _ => rfl) (fun K hK => ?_); apply Exists.intro; apply Exists.intro; apply Exists.intro; apply Exists.intro; refine ⟨fun pB w' hw' hF => ?_, hK _ _ ?_⟩; (focus (have zw := hw'; obtain ⟨zg, rfl⟩ := grow_of hw'; (first | (have yd := facts_of (hF.at (List.Mem.head _) (by decide +kernel)); obtain ⟨yb0, yc0, yf0, yl0⟩ := yd) | skip); (first | (have yd := facts_of (hF.at (List.Mem.tail _ (List.Mem.head _)) (by decide +kernel)); obtain ⟨yb1, yc1, yf1, yl1⟩ := yd) | skip); go_simp; (first | done | rfl | exact ⟨⟨rfl, rfl⟩, rfl⟩ | (refine ⟨?_, ?_⟩ <;> rfl) | (refine ⟨⟨?_, ?_⟩, ?_⟩ <;> rfl) | (refine ⟨⟨?_, ?_⟩, ⟨?_, ?_⟩⟩ <;> rfl)))); clear hK K; simp only [Act.put, List.setIfInBounds_toArray, List.set_cons_zero, List.set_cons_succ]) | (refine wpM_want (fun _ => rfl) (fun K hK => ?_); apply Exists.intro; refine ⟨fun pB w' hw' hF => ?_, hK _ _ ?_⟩; (focus (have zw := hw'; generalize hCC : Below w'.heap.size w' = CC; have HCC := hid hCC; clear hCC; obtain ⟨zg, rfl⟩ := grow_of hw'; (first | (have yd := facts_of (hF.at (List.Mem.head _) (by decide +kernel)); obtain ⟨yb0, yc0, yf0, yl0⟩ := yd) | skip); (first | (have yd := facts_of (hF.at (List.Mem.tail _ (List.Mem.head _)) (by decide +kernel)); obtain ⟨yb1, yc1, yf1, yl1⟩ := yd) | skip); go_simp; (try (go_bits; go_simp)); first | done | rfl | (first | ((with_reducible refine (HF0.out _ ?_).mono fun e w2 h2 => ⟨h2.1, by rw [← HCC.out]; exact h2.2⟩); exact below_grow (HSx.out.put2 _ _).below _)))); clear hK K; simp only [Act.put, List.setIfInBounds_toArray, List.set_cons_zero, List.set_cons_succ]))
      refine wpM_nil ?_
      intro pB wq hcq hfq hnq
      obtain ⟨gq, rfl⟩ := grow_of hcq
      clear hcq
      have hsp := hfq _ (List.mem_cons_self ..)
      simp only at hsp
      dsimp only
      obtain ⟨hsp1, hsp2⟩ := hsp
      generalize hpb : pB _ = nb at *
      obtain ⟨ga, gb, hgs, rfl⟩ := grow_split hsp1 hsp2
      rw [hgs]
      clear hgs hsp1 hsp2 hpb hfq hnq
      try simp only [put_size, grow_size, World.size_alloc]
      go_wp2_with fail
      refine region_mono_lit 6 (by kernel_rfl) (by kernel_rfl) ?_
      dsimp only [List.take, List.drop]
      repeat (first | (refine wpM_skip (fun _ => rfl) ?_; simp only [Act.put, List.setIfInBounds_toArray, List.set_cons_zero, List.set_cons_succ]) | (refine wpM_alloc rfl (fun _ => rfl) _ (by intro w; go_simp; rfl) ?_; simp only [Act.put, List.setIfInBounds_toArray, List.set_cons_zero, List.set_cons_succ]) | (refine wpM_slice' rfl (fun _ => rfl) (fun K hK => ?_); apply Exists.intro; apply Exists.intro; apply Exists.intro; apply Exists.intro; refine ⟨fun pB w' hw' hF => ?_, hK _ _ ?_⟩; (focus (have zw := hw'; obtain ⟨zg, rfl⟩ := grow_of hw'; (first | (have yd := facts_of (hF.at (List.Mem.head _) (by decide +kernel)); obtain ⟨yb0, yc0, yf0, yl0⟩ := yd) | skip); (first | (have yd := facts_of (hF.at (List.Mem.tail _ (List.Mem.head _)) (by decide +kernel)); obtain ⟨yb1, yc1, yf1, yl1⟩ := yd) | skip); go_simp; (first | done | rfl | exact ⟨⟨rfl, rfl⟩, rfl⟩ | (refine ⟨?_, ?_⟩ <;> rfl) | (refine ⟨⟨?_, ?_⟩, ?_⟩ <;> rfl) | (refine ⟨⟨?_, ?_⟩, ⟨?_, ?_⟩⟩ <;> rfl)))); clear hK K; simp only [Act.put, List.setIfInBounds_toArray, List.set_cons_zero, List.set_cons_succ]) | (refine wpM_want (fun _ => rfl) (fun K hK => ?_); apply Exists.intro; refine ⟨fun pB w' hw' hF => ?_, hK _ _ ?_⟩; (focus (have zw := hw'; generalize hCC : Below w'.heap.size w' = CC; have HCC := hid hCC; clear hCC; obtain ⟨zg, rfl⟩ := grow_of hw'; (first | (have yd := facts_of (hF.at (List.Mem.head _) (by decide +kernel)); obtain ⟨yb0, yc0, yf0, yl0⟩ := yd) | skip); (first | (have yd := facts_of (hF.at (List.Mem.tail _ (List.Mem.head _)) (by decide +kernel)); obtain ⟨yb1, yc1, yf1, yl1⟩ := yd) | skip); go_simp; (try (go_bits; go_simp)); first | done | rfl | (first | fail))); clear hK K; simp only [Act.put, List.setIfInBounds_toArray, List.set_cons_zero, List.set_cons_succ]))
      refine wpM_nil ?_
      intro pB wq hcq hfq hnq
      obtain ⟨gq, rfl⟩ := grow_of hcq
      clear hcq
      refine wp_copy (elem := 5) rfl rfl (by kernel_rfl) (by kernel_rfl) rfl rfl (by go_simp; first | done | rfl | exact ⟨rfl, rfl⟩) (bytesAt_head (n := r) (L := C0) (by go_simp; first | done | rfl | exact ⟨rfl, rfl⟩) (by rw [HC0.out]; exact r2) r2) ?_ ?_
      · rw [csz_bvs, List.length_append, zs_len, HHD.out, List.length_take, List.length_take, HC0.out]; omega
      · rw [HO1.out]
        go_wp2_with fail
        refine region_mono_lit 6 (by kernel_rfl) (by kernel_rfl) ?_
        dsimp only [List.take, List.drop]
        repeat (first | (refine wpM_skip (fun _ => rfl) ?_; simp only [Act.put, List.setIfInBounds_toArray, List.set_cons_zero, List.set_cons_succ]) | (refine wpM_alloc rfl (fun _ => rfl) _ (by intro w; go_simp; rfl) ?_; simp only [Act.put, List.setIfInBounds_toArray, List.set_cons_zero, List.set_cons_succ]) | (refine wpM_slice' rfl (fun _ => rfl) (fun K hK => ?_); apply Exists.intro; apply Exists.intro; apply Exists.intro; apply Exists.intro; refine ⟨fun pB w' hw' hF => ?_, hK _ _ ?_⟩; (focus (have zw := hw'; obtain ⟨zg, rfl⟩ := grow_of hw'; (first | (have yd := facts_of (hF.at (List.Mem.head _) (by decide +kernel)); obtain ⟨yb0, yc0, yf0, yl0⟩ := yd) | skip); (first | (have yd := facts_of (hF.at (List.Mem.tail _ (List.Mem.head _)) (by decide +kernel)); obtain ⟨yb1, yc1, yf1, yl1⟩ := yd) | skip); go_simp; (first | done | rfl | exact ⟨⟨rfl, rfl⟩, rfl⟩ | (refine ⟨?_, ?_⟩ <;> rfl) | (refine ⟨⟨?_, ?_⟩, ?_⟩ <;> rfl) | (refine ⟨⟨?_, ?_⟩, ⟨?_, ?_⟩⟩ <;> rfl)))); clear hK K; simp only [Act.put, List.setIfInBounds_toArray, List.set_cons_zero, List.set_cons_succ]) | (refine wpM_want (fun _ => rfl) (fun K hK => ?_); apply Exists.intro; refine ⟨fun pB w' hw' hF => ?_, hK _ _ ?_⟩; (focus (have zw := hw'; generalize hCC : Below w'.heap.size w' = CC; have HCC := hid hCC; clear hCC; obtain ⟨zg, rfl⟩ := grow_of hw'; (first | (have yd := facts_of (hF.at (List.Mem.head _) (by decide +kernel)); obtain ⟨yb0, yc0, yf0, yl0⟩ := yd) | skip); (first | (have yd := facts_of (hF.at (List.Mem.tail _ (List.Mem.head _)) (by decide +kernel)); obtain ⟨yb1, yc1, yf1, yl1⟩ := yd) | skip); go_simp; (try (go_bits; go_simp)); first | done | rfl | (first | fail))); clear hK K; simp only [Act.put, List.setIfInBounds_toArray, List.set_cons_zero, List.set_cons_succ]))
        refine wpM_nil ?_
        intro pB wq hcq hfq hnq
        obtain ⟨gq, rfl⟩ := grow_of hcq
        clear hcq
        refine wp_copy (elem := 5) rfl rfl (by kernel_rfl) (by kernel_rfl) rfl rfl (by go_simp; first | done | rfl | exact ⟨rfl, rfl⟩) ((HT2.out.below (by repeat (first | (with_reducible exact Below.refl _ _) | (with_reducible assumption) | (with_reducible exact grow_below _ _) | (with_reducible exact St.below (by assumption)) | (with_reducible refine below_grow ?_ _) | (with_reducible refine Below.alloc ?_ (by first | omega | (simp; done) | (simp [go_sem]; done) | (simp [go_sem]; omega)) _) | (with_reducible exact (St.put1 (by assumption) _).below) | (with_reducible exact (St.put2 (by assumption) _ _).below) | (with_reducible exact (St.put3 (by assumption) _ _ _).below) | (with_reducible exact (St.put4 (by assumption) _ _ _ _).below) | (with_reducible refine below_put ?_ (by first | omega | (simp [go_sem]; omega)) _ _) | (with_reducible refine Below.drew ?_) | (with_reducible refine Below.setCell ?_ (by first | omega | (simp [go_sem]; omega)) _) | (with_reducible refine below_setRow' ?_ (by first | omega | (simp [go_sem]; omega)) _) | (with_reducible refine below_drewN' ?_ _)))).from (pl * 16 + 16) b6) ?_ ?_
        · rw [q0, Nat.zero_add]; exact Nat.le_trans (List.length_take_le _ _) r2
        · rw [hR.out]
          go_wp2_with fail
          (with_reducible refine (HF1.out _ ?_).mono ?_)
          · exact (by repeat (first | (with_reducible exact Below.refl _ _) | (with_reducible assumption) | (with_reducible exact grow_below _ _) | (with_reducible exact St.below (by assumption)) | (with_reducible refine below_grow ?_ _) | (with_reducible refine Below.alloc ?_ (by first | omega | (simp; done) | (simp [go_sem]; done) | (simp [go_sem]; omega)) _) | (with_reducible exact (St.put1 (by assumption) _).below) | (with_reducible exact (St.put2 (by assumption) _ _).below) | (with_reducible exact (St.put3 (by assumption) _ _ _).below) | (with_reducible exact (St.put4 (by assumption) _ _ _ _).below) | (with_reducible refine below_put ?_ (by first | omega | (simp [go_sem]; omega)) _ _) | (with_reducible refine Below.drew ?_) | (with_reducible refine Below.setCell ?_ (by first | omega | (simp [go_sem]; omega)) _) | (with_reducible refine below_setRow' ?_ (by first | omega | (simp [go_sem]; omega)) _) | (with_reducible refine below_drewN' ?_ _)))
          · rintro e wz ⟨rfl, hb⟩
            obtain ⟨g9, rfl⟩ := grow_of hb
            clear hb
            go_wp2_with fail
            refine region_mono_lit 4 (by kernel_rfl) (by kernel_rfl) ?_
            dsimp only [List.take, List.drop]
            repeat (first | (refine wpM_skip (fun _ => rfl) ?_; simp only [Act.put, List.setIfInBounds_toArray, List.set_cons_zero, List.set_cons_succ]) | (refine wpM_alloc rfl (fun _ => rfl) _ (by intro w; go_simp; rfl) ?_; simp only [Act.put, List.setIfInBounds_toArray, List.set_cons_zero, List.set_cons_succ]) | (refine wpM_slice' rfl (fun _ => rfl) (fun K hK => ?_); apply Exists.intro; apply Exists.intro; apply Exists.intro; apply Exists.intro; refine ⟨fun pB w' hw' hF => ?_, hK _ _ ?_⟩; (focus (have zw := hw'; obtain ⟨zg, rfl⟩ := grow_of hw'; (first | (have yd := facts_of (hF.at (List.Mem.head _) (by decide +kernel)); obtain ⟨yb0, yc0, yf0, yl0⟩ := yd) | skip); (first | (have yd := facts_of (hF.at (List.Mem.tail _ (List.Mem.head _)) (by decide +kernel)); obtain ⟨yb1, yc1, yf1, yl1⟩ := yd) | skip); go_simp; (first | done | rfl | exact ⟨⟨rfl, rfl⟩, rfl⟩ | (refine ⟨?_, ?_⟩ <;> rfl) | (refine ⟨⟨?_, ?_⟩, ?_⟩ <;> rfl) | (refine ⟨⟨?_, ?_⟩, ⟨?_, ?_⟩⟩ <;> rfl)))); clear hK K; simp only [Act.put, List.setIfInBounds_toArray, List.set_cons_zero, List.set_cons_succ]) | (refine wpM_want (fun _ => rfl) (fun K hK => ?_); apply Exists.intro; refine ⟨fun pB w' hw' hF => ?_, hK _ _ ?_⟩; (focus (have zw := hw'; generalize hCC : Below w'.heap.size w' = CC; have HCC := hid hCC; clear hCC; obtain ⟨zg, rfl⟩ := grow_of hw'; (first | (have yd := facts_of (hF.at (List.Mem.head _) (by decide +kernel)); obtain ⟨yb0, yc0, yf0, yl0⟩ := yd) | skip); (first | (have yd := facts_of (hF.at (List.Mem.tail _ (List.Mem.head _)) (by decide +kernel)); obtain ⟨yb1, yc1, yf1, yl1⟩ := yd) | skip); go_simp; (try (go_bits; go_simp)); first | done | rfl | (first | fail))); clear hK K; simp only [Act.put, List.setIfInBounds_toArray, List.set_cons_zero, List.set_cons_succ]))
            refine wpM_nil ?_
            intro pB wq hcq hfq hnq
            obtain ⟨gq, rfl⟩ := grow_of hcq
            clear hcq
            refine wp_copy (elem := 5) rfl rfl (by kernel_rfl) (by kernel_rfl) rfl rfl (by go_simp; first | done | rfl | exact ⟨rfl, rfl⟩) (bytesAt_whole (by go_simp; first | done | rfl | exact ⟨rfl, rfl⟩) HC2.out) ?_ ?_
            · rw [csz_bvs, List.length_append, List.length_append, zs_len, HHD.out, List.length_take, List.length_take, HC2.out, HC0.out]; omega
            · rw [HO2.out]
              go_wp2
              rw [Exit.noGoto_ret]
              go_wp2
              have hSt := HSx.out
              refine postM (.inl rfl) rfl (show blk _ D = _ by go_simp) ?_
              go_ret
              refine ⟨_, rfl, by omega, ?_, ?_⟩
              · rw [blk_putObj _ _ _ _ (fun e => dg e.symm), HFIN.out]
                go_simp
              · refine below_putObj ?_ hDw _
                exact (by repeat (first | (with_reducible exact Below.refl _ _) | (with_reducible assumption) | (with_reducible exact grow_below _ _) | (with_reducible exact St.below (by assumption)) | (with_reducible refine below_grow ?_ _) | (with_reducible refine Below.alloc ?_ (by first | omega | (simp; done) | (simp [go_sem]; done) | (simp [go_sem]; omega)) _) | (with_reducible exact (St.put1 (by assumption) _).below) | (with_reducible exact (St.put2 (by assumption) _ _).below) | (with_reducible exact (St.put3 (by assumption) _ _ _).below) | (with_reducible exact (St.put4 (by assumption) _ _ _ _).below) | (with_reducible refine below_put ?_ (by first | omega | (simp [go_sem]; omega)) _ _) | (with_reducible refine Below.drew ?_) | (with_reducible refine Below.setCell ?_ (by first | omega | (simp [go_sem]; omega)) _) | (with_reducible refine below_setRow' ?_ (by first | omega | (simp [go_sem]; omega)) _) | (with_reducible refine below_drewN' ?_ _)))
end Go.Proofs.Ytkfggilildiflaa

namespace Go.Proofs.Ytkfggilildiflaa
open Go.ChangeShapes Go.WideShapes Go.ChangeAt Go.RowKit
attribute [local irreducible] xorL sboxL subB sealV openV
theorem run_both (F : List UInt8 → List UInt8 → List UInt8) (hF : ∀ t x, t.length = 16 → x.length = 16 → (F t x).length = 16) (first l : List UInt8) (hfirst : first.length = 16) (back : Bool) (rv fv tv : Value) (wb : Nat) (w : World)
    (hwb : blk w wb = some (.cells (wkC rv fv first) 83 (0, 0))) (ht : BytesAt w tv l) (h1 : 16 ≤ l.length) (h2 : l.length ≤ 65536)
    (HB : ∀ w', Below w.heap.size w w' → ∀ t x, t.length = 16 → x.length = 16 → Calls Try.prog 53 #[.pointer (some ⟨wb, 0, none⟩), .agg (bvs t), .agg (bvs x)] w' fun e w2 => e = .returned (.agg (bvs (F t x))) ∧ Below w'.heap.size w' w2) :
    Calls Try.prog 31 #[.pointer (some ⟨wb, 0, none⟩), tv, .bool back] w fun e w' => ∃ g, e = .returned (.slice (some ⟨g, 0, none⟩) l.length l.length) ∧ w.heap.size ≤ g ∧ blk w' g = some (.cells (bvs (turnL F (dblIt first) back l)) 5 (0, 0)) ∧ Below w.heap.size w w' := by
  by_cases hm : l.length % 16 = 0
  · exact run_whole F hF first l hfirst back rv fv tv wb w hwb ht hm h1 h2 HB
  · exact run_rest F hF first l hfirst back rv fv tv wb w hwb ht hm h1 h2 HB
theorem tweakV_fun (key : List UInt8) (n : Nat) : dblIt (tweakV key n 0) = tweakV key n := funext fun j => (tweakV_it key n j).symm
theorem bytesAt_nilcap {w : World} {p : Option Addr} {n c : Nat} (h : BytesAt w (.slice p n c) []) : p = none → c = 0 := by
  obtain ⟨p', c', hv, h1, h0, h3⟩ := h
  simp only [Value.slice.injEq] at hv
  obtain ⟨rfl, rfl, rfl⟩ := hv
  exact h0
theorem bytesAt_empty {w : World} {p : Option Addr} {c : Nat} (h : p = none → c = 0) : BytesAt w (.slice p 0 c) [] := ⟨p, c, rfl, Nat.zero_le _, h, fun hn => absurd rfl hn⟩
/-! ### What is refused -/
set_option maxRecDepth 100000 in
set_option maxHeartbeats 2000000 in
theorem begin_odd (nk c : Nat) (p : Option Addr) (h : nk % 2 = 1) (hm : nk ≤ 9000000000000000000) (n : Int) (tv fv : Value) (w : World) :
    Calls Try.prog 29 #[.slice p nk c, .int .i64 n, tv, fv] w fun e w' => e = .returned (.tuple #[.pointer none, .iface 44 (.int .i64 3)]) ∧ Below w.heap.size w w' := by
  have q0 : (nk : Int) % 2 = 1 := by omega
  have hB := Below.refl w.heap.size w
  go_enter Try.func29, Try.ntmps29
  go_wp2
  go_ret2
  exact ⟨rfl, hB⟩
set_option maxRecDepth 100000 in
set_option maxHeartbeats 2000000 in
theorem begin_even (key : List UInt8) (h : key.length % 2 = 0) (hk : ¬ (key.length = 32 ∨ key.length = 64)) (hm : key.length ≤ 1000000) (n : Int) (v tv fv : Value) (w : World) (hv : BytesAt w v key) :
    Calls Try.prog 29 #[v, .int .i64 n, tv, fv] w fun e w' => e = .returned (.tuple #[.pointer none, .iface 44 (.int .i64 3)]) ∧ Below w.heap.size w w' := by
  obtain ⟨p, c, rfl, hc⟩ := hv.slice
  have T1 := hid (fun v w (hv : BytesAt w v (key.drop (key.length / 2))) => tweak_bad (key.drop (key.length / 2)) (by rw [List.length_drop]; omega) (by rw [List.length_drop]; unfold maxLen; omega) n v w hv)
  have s3 : csz (bvs (zs 16)) = 16 := by rw [csz_bvs, zs_len]
  have z := zs16; have e0 := zs_ne
  by_cases h0 : key.length = 0
  · obtain rfl : key = [] := List.eq_nil_of_length_eq_zero h0
    have hnc := bytesAt_nilcap hv
    simp only [List.drop_nil, List.length_nil] at T1 ⊢
    clear hv h hk hm h0 hc
    have hca : c = 0 ∨ 0 < c := by omega
    rcases hca with rfl | hca
    · go_enter Try.func29, Try.ntmps29
      go_wp2_with fail
      (with_reducible refine (T1.out _ _ (bytesAt_empty (fun _ => rfl))).mono ?_)
      rintro e wg ⟨rfl, hb⟩
      obtain ⟨g1, rfl⟩ := grow_of hb
      clear hb
      go_wp2
      go_ret2
      exact ⟨rfl, (by repeat (first | (with_reducible exact Below.refl _ _) | (with_reducible assumption) | (with_reducible exact grow_below _ _) | (with_reducible exact St.below (by assumption)) | (with_reducible refine below_grow ?_ _) | (with_reducible refine Below.alloc ?_ (by first | omega | (simp; done) | (simp [go_sem]; done) | (simp [go_sem]; omega)) _) | (with_reducible exact (St.put1 (by assumption) _).below) | (with_reducible exact (St.put2 (by assumption) _ _).below) | (with_reducible exact (St.put3 (by assumption) _ _ _).below) | (with_reducible exact (St.put4 (by assumption) _ _ _ _).below) | (with_reducible refine below_put ?_ (by first | omega | (simp [go_sem]; omega)) _ _) | (with_reducible refine Below.drew ?_) | (with_reducible refine Below.setCell ?_ (by first | omega | (simp [go_sem]; omega)) _) | (with_reducible refine below_setRow' ?_ (by first | omega | (simp [go_sem]; omega)) _) | (with_reducible refine below_drewN' ?_ _)))⟩
    · have c1 : ¬ c = 0 := by omega
      cases p with
      | none => exact absurd (hnc rfl) c1
      | some a =>
        clear hnc
        go_enter Try.func29, Try.ntmps29
        go_wp2_with fail
        (with_reducible refine (T1.out _ _ (bytesAt_empty (fun h => by cases h))).mono ?_)
        rintro e wg ⟨rfl, hb⟩
        obtain ⟨g1, rfl⟩ := grow_of hb
        clear hb
        go_wp2
        go_ret2
        exact ⟨rfl, (by repeat (first | (with_reducible exact Below.refl _ _) | (with_reducible assumption) | (with_reducible exact grow_below _ _) | (with_reducible exact St.below (by assumption)) | (with_reducible refine below_grow ?_ _) | (with_reducible refine Below.alloc ?_ (by first | omega | (simp; done) | (simp [go_sem]; done) | (simp [go_sem]; omega)) _) | (with_reducible exact (St.put1 (by assumption) _).below) | (with_reducible exact (St.put2 (by assumption) _ _).below) | (with_reducible exact (St.put3 (by assumption) _ _ _).below) | (with_reducible exact (St.put4 (by assumption) _ _ _ _).below) | (with_reducible refine below_put ?_ (by first | omega | (simp [go_sem]; omega)) _ _) | (with_reducible refine Below.drew ?_) | (with_reducible refine Below.setCell ?_ (by first | omega | (simp [go_sem]; omega)) _) | (with_reducible refine below_setRow' ?_ (by first | omega | (simp [go_sem]; omega)) _) | (with_reducible refine below_drewN' ?_ _)))⟩
  · obtain ⟨kb, ko, rfl⟩ := hv.ptr (by omega)
    obtain ⟨m, hm2⟩ : ∃ m, key.length = m + m := ⟨key.length / 2, by omega⟩
    have em : key.length / 2 = m := by omega
    have H1 := hv.from m (by omega)
    rw [em] at T1
    have e1 : key.length - m = m := by omega
    rw [e1] at H1
    have H1 := hid H1
    generalize key.length = nk at *
    have p0 : (nk : Int) % 2 = 0 := by omega
    have p1 : (nk : Int) / 2 = (m : Int) := by omega
    have p2 : (m : Int) ≤ (nk : Int) := by omega
    have p5 : (0 : Int) ≤ (m : Int) := by omega
    have p6 : (nk : Int) ≤ 1000000 := by omega
    have p4 : m ≤ nk := by omega
    have c1 : ¬ c = m := by omega
    clear hv h hk em h0 hc hm2 hm
    go_enter Try.func29, Try.ntmps29
    go_wp2_with fail
    (with_reducible refine (T1.out _ _ H1.out).mono ?_)
    rintro e wg ⟨rfl, hb⟩
    obtain ⟨g1, rfl⟩ := grow_of hb
    clear hb
    go_wp2
    go_ret2
    exact ⟨rfl, (by repeat (first | (with_reducible exact Below.refl _ _) | (with_reducible assumption) | (with_reducible exact grow_below _ _) | (with_reducible exact St.below (by assumption)) | (with_reducible refine below_grow ?_ _) | (with_reducible refine Below.alloc ?_ (by first | omega | (simp; done) | (simp [go_sem]; done) | (simp [go_sem]; omega)) _) | (with_reducible exact (St.put1 (by assumption) _).below) | (with_reducible exact (St.put2 (by assumption) _ _).below) | (with_reducible exact (St.put3 (by assumption) _ _ _).below) | (with_reducible exact (St.put4 (by assumption) _ _ _ _).below) | (with_reducible refine below_put ?_ (by first | omega | (simp [go_sem]; omega)) _ _) | (with_reducible refine Below.drew ?_) | (with_reducible refine Below.setCell ?_ (by first | omega | (simp [go_sem]; omega)) _) | (with_reducible refine below_setRow' ?_ (by first | omega | (simp [go_sem]; omega)) _) | (with_reducible refine below_drewN' ?_ _)))⟩
set_option maxRecDepth 100000 in
set_option maxHeartbeats 2000000 in
theorem begin_text (key l : List UInt8) (h : key.length = 32 ∨ key.length = 64) (n : Int) (v tv fv : Value) (w : World) (hv : BytesAt w v key) (ht : BytesAt w tv l) (h1 : l.length < 16 ∨ 65536 < l.length) (hm : l.length ≤ maxLen) :
    Calls Try.prog 29 #[v, .int .i64 n, tv, fv] w fun e w' => e = .returned (.tuple #[.pointer none, .iface 44 (.int .i64 2)]) ∧ Below w.heap.size w w' := by
  obtain ⟨p, c, rfl, hc⟩ := hv.slice
  obtain ⟨tp, tc, rfl, htc⟩ := ht.slice
  have hh := halves_len h
  obtain ⟨kb, ko, rfl⟩ := hv.ptr (by omega)
  have H1 := hv.from (key.length / 2) (by omega)
  have T1 := hid (fun v w (hv : BytesAt w v (key.drop (key.length / 2))) => tweak_good _ hh.2 n v w hv)
  have s3 : csz (bvs (tweakV (key.drop (key.length / 2)) (u64N n) 0)) = 16 := by rw [csz_bvs, tweakV_len hh.2]
  generalize key.length = nk at *
  generalize l.length = nt at *
  generalize hk2 : key.drop (nk / 2) = k2 at *
  generalize tweakV k2 (u64N n) 0 = x at *
  clear hv ht hk2 hh
  unfold maxLen at hm
  have t5 : (nt : Int) ≤ 9223372036854775807 := by omega
  rcases h1 with h1 | h1
  · have t1 : (nt : Int) < 16 := by omega
    have t3 : decide ((nt : Int) < 16) = true := by simpa using t1
    rcases h with rfl | rfl
    · have c1 : ¬ c = 16 := by omega
      simp only [Nat.reduceDiv, Nat.reduceSub] at H1
      have H1 := hid H1
      go_enter Try.func29, Try.ntmps29
      go_wp2_with fail
      (with_reducible refine (T1.out _ _ H1.out).mono ?_)
      rintro e wg ⟨rfl, hb⟩
      obtain ⟨g1, rfl⟩ := grow_of hb
      clear hb
      go_wp2
      go_ret2
      exact ⟨rfl, (by repeat (first | (with_reducible exact Below.refl _ _) | (with_reducible assumption) | (with_reducible exact grow_below _ _) | (with_reducible exact St.below (by assumption)) | (with_reducible refine below_grow ?_ _) | (with_reducible refine Below.alloc ?_ (by first | omega | (simp; done) | (simp [go_sem]; done) | (simp [go_sem]; omega)) _) | (with_reducible exact (St.put1 (by assumption) _).below) | (with_reducible exact (St.put2 (by assumption) _ _).below) | (with_reducible exact (St.put3 (by assumption) _ _ _).below) | (with_reducible exact (St.put4 (by assumption) _ _ _ _).below) | (with_reducible refine below_put ?_ (by first | omega | (simp [go_sem]; omega)) _ _) | (with_reducible refine Below.drew ?_) | (with_reducible refine Below.setCell ?_ (by first | omega | (simp [go_sem]; omega)) _) | (with_reducible refine below_setRow' ?_ (by first | omega | (simp [go_sem]; omega)) _) | (with_reducible refine below_drewN' ?_ _)))⟩
    · have c1 : ¬ c = 32 := by omega
      simp only [Nat.reduceDiv, Nat.reduceSub] at H1
      have H1 := hid H1
      go_enter Try.func29, Try.ntmps29
      go_wp2_with fail
      (with_reducible refine (T1.out _ _ H1.out).mono ?_)
      rintro e wg ⟨rfl, hb⟩
      obtain ⟨g1, rfl⟩ := grow_of hb
      clear hb
      go_wp2
      go_ret2
      exact ⟨rfl, (by repeat (first | (with_reducible exact Below.refl _ _) | (with_reducible assumption) | (with_reducible exact grow_below _ _) | (with_reducible exact St.below (by assumption)) | (with_reducible refine below_grow ?_ _) | (with_reducible refine Below.alloc ?_ (by first | omega | (simp; done) | (simp [go_sem]; done) | (simp [go_sem]; omega)) _) | (with_reducible exact (St.put1 (by assumption) _).below) | (with_reducible exact (St.put2 (by assumption) _ _).below) | (with_reducible exact (St.put3 (by assumption) _ _ _).below) | (with_reducible exact (St.put4 (by assumption) _ _ _ _).below) | (with_reducible refine below_put ?_ (by first | omega | (simp [go_sem]; omega)) _ _) | (with_reducible refine Below.drew ?_) | (with_reducible refine Below.setCell ?_ (by first | omega | (simp [go_sem]; omega)) _) | (with_reducible refine below_setRow' ?_ (by first | omega | (simp [go_sem]; omega)) _) | (with_reducible refine below_drewN' ?_ _)))⟩
  · have t1 : ¬ (nt : Int) < 16 := by omega
    have t2 : (65536 : Int) < nt := by omega
    have t3 : decide ((nt : Int) < 16) = false := by simpa using t1
    have t4 : decide ((65536 : Int) < nt) = true := by simpa using t2
    rcases h with rfl | rfl
    · have c1 : ¬ c = 16 := by omega
      simp only [Nat.reduceDiv, Nat.reduceSub] at H1
      have H1 := hid H1
      go_enter Try.func29, Try.ntmps29
      go_wp2_with fail
      (with_reducible refine (T1.out _ _ H1.out).mono ?_)
      rintro e wg ⟨rfl, hb⟩
      obtain ⟨g1, rfl⟩ := grow_of hb
      clear hb
      go_wp2
      go_ret2
      exact ⟨rfl, (by repeat (first | (with_reducible exact Below.refl _ _) | (with_reducible assumption) | (with_reducible exact grow_below _ _) | (with_reducible exact St.below (by assumption)) | (with_reducible refine below_grow ?_ _) | (with_reducible refine Below.alloc ?_ (by first | omega | (simp; done) | (simp [go_sem]; done) | (simp [go_sem]; omega)) _) | (with_reducible exact (St.put1 (by assumption) _).below) | (with_reducible exact (St.put2 (by assumption) _ _).below) | (with_reducible exact (St.put3 (by assumption) _ _ _).below) | (with_reducible exact (St.put4 (by assumption) _ _ _ _).below) | (with_reducible refine below_put ?_ (by first | omega | (simp [go_sem]; omega)) _ _) | (with_reducible refine Below.drew ?_) | (with_reducible refine Below.setCell ?_ (by first | omega | (simp [go_sem]; omega)) _) | (with_reducible refine below_setRow' ?_ (by first | omega | (simp [go_sem]; omega)) _) | (with_reducible refine below_drewN' ?_ _)))⟩
    · have c1 : ¬ c = 32 := by omega
      simp only [Nat.reduceDiv, Nat.reduceSub] at H1
      have H1 := hid H1
      go_enter Try.func29, Try.ntmps29
      go_wp2_with fail
      (with_reducible refine (T1.out _ _ H1.out).mono ?_)
      rintro e wg ⟨rfl, hb⟩
      obtain ⟨g1, rfl⟩ := grow_of hb
      clear hb
      go_wp2
      go_ret2
      exact ⟨rfl, (by repeat (first | (with_reducible exact Below.refl _ _) | (with_reducible assumption) | (with_reducible exact grow_below _ _) | (with_reducible exact St.below (by assumption)) | (with_reducible refine below_grow ?_ _) | (with_reducible refine Below.alloc ?_ (by first | omega | (simp; done) | (simp [go_sem]; done) | (simp [go_sem]; omega)) _) | (with_reducible exact (St.put1 (by assumption) _).below) | (with_reducible exact (St.put2 (by assumption) _ _).below) | (with_reducible exact (St.put3 (by assumption) _ _ _).below) | (with_reducible exact (St.put4 (by assumption) _ _ _ _).below) | (with_reducible refine below_put ?_ (by first | omega | (simp [go_sem]; omega)) _ _) | (with_reducible refine Below.drew ?_) | (with_reducible refine Below.setCell ?_ (by first | omega | (simp [go_sem]; omega)) _) | (with_reducible refine below_setRow' ?_ (by first | omega | (simp [go_sem]; omega)) _) | (with_reducible refine below_drewN' ?_ _)))⟩
/-- What is told by Hide and Show: 0: the text is turned. -/
def hideE (key l : List UInt8) : Nat := if key.length = 32 ∨ key.length = 64 then (if 16 ≤ l.length ∧ l.length ≤ 65536 then 0 else 2) else 3
theorem begin_bad (key l : List UInt8) (hk : key.length ≤ 1000000) (hl : l.length ≤ maxLen) (hE : hideE key l ≠ 0) (n : Int) (v tv fv : Value) (w : World) (hv : BytesAt w v key) (ht : BytesAt w tv l) :
    Calls Try.prog 29 #[v, .int .i64 n, tv, fv] w fun e w' => e = .returned (.tuple #[.pointer none, .iface 44 (.int .i64 (hideE key l : Int))]) ∧ Below w.heap.size w w' := by
  by_cases h : key.length = 32 ∨ key.length = 64
  · by_cases h2 : 16 ≤ l.length ∧ l.length ≤ 65536
    · exact absurd (by unfold hideE; rw [if_pos h, if_pos h2]) hE
    · have e : hideE key l = 2 := by unfold hideE; rw [if_pos h, if_neg h2]
      rw [e]
      exact begin_text key l h n v tv fv w hv ht (by omega) hl
  · have e : hideE key l = 3 := by unfold hideE; rw [if_neg h]
    rw [e]
    by_cases h2 : key.length % 2 = 0
    · exact begin_even key h2 h hk n v tv fv w hv
    · obtain ⟨p, c, rfl, _⟩ := hv.slice
      exact begin_odd key.length c p (by omega) (by omega) n tv fv w
set_option maxRecDepth 100000 in
set_option maxHeartbeats 2000000 in
theorem hide_bad (key l : List UInt8) (hk : key.length ≤ 1000000) (hl : l.length ≤ maxLen) (hE : hideE key l ≠ 0) (n : Int) (v tv : Value) (w : World) (hv : BytesAt w v key) (ht : BytesAt w tv l) :
    Calls Try.prog 14 #[v, .int .i64 n, tv] w fun e w' => e = .returned (.tuple #[.slice none 0 0, .iface 44 (.int .i64 (hideE key l : Int))]) ∧ Below w.heap.size w w' := by
  have B1 := hid (begin_bad key l hk hl hE n v tv (.func (.func 30) #[] #[]) w hv ht)
  clear hv ht hk hl hE
  generalize (hideE key l : Int) = E at *
  go_enter Try.func14, Try.ntmps14
  go_wp2_with fail
  (with_reducible refine (B1.out).mono ?_)
  rintro e wg ⟨rfl, hb⟩
  obtain ⟨g1, rfl⟩ := grow_of hb
  clear hb
  go_wp2
  go_ret2
  exact ⟨rfl, (by repeat (first | (with_reducible exact Below.refl _ _) | (with_reducible assumption) | (with_reducible exact grow_below _ _) | (with_reducible exact St.below (by assumption)) | (with_reducible refine below_grow ?_ _) | (with_reducible refine Below.alloc ?_ (by first | omega | (simp; done) | (simp [go_sem]; done) | (simp [go_sem]; omega)) _) | (with_reducible exact (St.put1 (by assumption) _).below) | (with_reducible exact (St.put2 (by assumption) _ _).below) | (with_reducible exact (St.put3 (by assumption) _ _ _).below) | (with_reducible exact (St.put4 (by assumption) _ _ _ _).below) | (with_reducible refine below_put ?_ (by first | omega | (simp [go_sem]; omega)) _ _) | (with_reducible refine Below.drew ?_) | (with_reducible refine Below.setCell ?_ (by first | omega | (simp [go_sem]; omega)) _) | (with_reducible refine below_setRow' ?_ (by first | omega | (simp [go_sem]; omega)) _) | (with_reducible refine below_drewN' ?_ _)))⟩
set_option maxRecDepth 100000 in
set_option maxHeartbeats 2000000 in
theorem hide_good (key l : List UInt8) (h : key.length = 32 ∨ key.length = 64) (h1 : 16 ≤ l.length) (h2 : l.length ≤ 65536) (n : Int) (v tv : Value) (w : World) (hv : BytesAt w v key) (ht : BytesAt w tv l) :
    Calls Try.prog 14 #[v, .int .i64 n, tv] w fun e w' => ∃ g, e = .returned (.tuple #[.slice (some ⟨g, 0, none⟩) l.length l.length, .nilIface]) ∧ w.heap.size ≤ g ∧ blk w' g = some (.cells (bvs (hideV key (u64N n) l)) 5 (0, 0)) ∧ Below w.heap.size w w' := by
  have B1 := hid (begin_good key l h n v tv (.func 30) w hv ht h1 h2)
  have hh := halves_len h
  have R1 := hid (fun rv wb w' (hb : Below w.heap.size w w') (hwb : blk w' wb = some (.cells (wkC rv (.func (.func 30) #[] #[]) (tweakV (key.drop (key.length / 2)) (u64N n) 0)) 83 (0, 0))) (hr : RowsAt w' 16 rv (rkeys (key.take (key.length / 2)))) =>
    run_both (hideB (key.take (key.length / 2))) (fun t x ht hx => hideB_len hh.1 ht hx) (tweakV (key.drop (key.length / 2)) (u64N n) 0) l (tweakV_len hh.2 _ _) false rv _ tv wb w' hwb (ht.below hb) h1 h2
      (fun w2 hb2 t x ht hx => hideWork_any (key.take (key.length / 2)) t x _ hh.1 ht hx rv wb w2 ((hb2.block wb (blk_lt hwb)).trans hwb) (hr.below hb2)))
  have EV := hid (show turnL (hideB (key.take (key.length / 2))) (dblIt (tweakV (key.drop (key.length / 2)) (u64N n) 0)) false l = hideV key (u64N n) l by rw [tweakV_fun]; unfold hideV; rfl)
  rw [EV.out] at R1
  unfold WorkAt at B1
  clear hv ht h1 h2 h hh
  generalize key.take (key.length / 2) = k1 at *
  generalize key.drop (key.length / 2) = k2 at *
  generalize hideV key (u64N n) l = O at *
  generalize tweakV k2 (u64N n) 0 = x at *
  go_enter Try.func14, Try.ntmps14
  go_wp2_with fail
  (with_reducible refine (B1.out).mono ?_)
  rintro e wg ⟨b, p, c, rfl, hbb, hblk, hrow, hb⟩
  have HB := hid hb; have HK := hid hblk; have HR := hid hrow
  clear hb hblk hrow B1
  go_wp2_with fail
  (with_reducible refine (R1.out _ _ _ HB.out HK.out HR.out).mono ?_)
  rintro e wh ⟨g, rfl, hg, hblk, hb⟩
  have H1 := hid hblk; have H2 := hid hb
  clear hblk hb
  go_wp2
  go_ret2
  exact ⟨_, rfl, Nat.le_trans HB.out.size hg, H1.out, HB.out.trans (H2.out.mono HB.out.size)⟩
set_option maxRecDepth 100000 in
set_option maxHeartbeats 2000000 in
theorem show_bad (key l : List UInt8) (hk : key.length ≤ 1000000) (hl : l.length ≤ maxLen) (hE : hideE key l ≠ 0) (n : Int) (v tv : Value) (w : World) (hv : BytesAt w v key) (ht : BytesAt w tv l) :
    Calls Try.prog 21 #[v, .int .i64 n, tv] w fun e w' => e = .returned (.tuple #[.slice none 0 0, .iface 44 (.int .i64 (hideE key l : Int))]) ∧ Below w.heap.size w w' := by
  have B1 := hid (begin_bad key l hk hl hE n v tv (.func (.func 39) #[] #[]) w hv ht)
  clear hv ht hk hl hE
  generalize (hideE key l : Int) = E at *
  go_enter Try.func21, Try.ntmps21
  go_wp2_with fail
  (with_reducible refine (B1.out).mono ?_)
  rintro e wg ⟨rfl, hb⟩
  obtain ⟨g1, rfl⟩ := grow_of hb
  clear hb
  go_wp2
  go_ret2
  exact ⟨rfl, (by repeat (first | (with_reducible exact Below.refl _ _) | (with_reducible assumption) | (with_reducible exact grow_below _ _) | (with_reducible exact St.below (by assumption)) | (with_reducible refine below_grow ?_ _) | (with_reducible refine Below.alloc ?_ (by first | omega | (simp; done) | (simp [go_sem]; done) | (simp [go_sem]; omega)) _) | (with_reducible exact (St.put1 (by assumption) _).below) | (with_reducible exact (St.put2 (by assumption) _ _).below) | (with_reducible exact (St.put3 (by assumption) _ _ _).below) | (with_reducible exact (St.put4 (by assumption) _ _ _ _).below) | (with_reducible refine below_put ?_ (by first | omega | (simp [go_sem]; omega)) _ _) | (with_reducible refine Below.drew ?_) | (with_reducible refine Below.setCell ?_ (by first | omega | (simp [go_sem]; omega)) _) | (with_reducible refine below_setRow' ?_ (by first | omega | (simp [go_sem]; omega)) _) | (with_reducible refine below_drewN' ?_ _)))⟩
set_option maxRecDepth 100000 in
set_option maxHeartbeats 2000000 in
theorem show_good (key l : List UInt8) (h : key.length = 32 ∨ key.length = 64) (h1 : 16 ≤ l.length) (h2 : l.length ≤ 65536) (n : Int) (v tv : Value) (w : World) (hv : BytesAt w v key) (ht : BytesAt w tv l) :
    Calls Try.prog 21 #[v, .int .i64 n, tv] w fun e w' => ∃ g, e = .returned (.tuple #[.slice (some ⟨g, 0, none⟩) l.length l.length, .nilIface]) ∧ w.heap.size ≤ g ∧ blk w' g = some (.cells (bvs (showV key (u64N n) l)) 5 (0, 0)) ∧ Below w.heap.size w w' := by
  have B1 := hid (begin_good key l h n v tv (.func 39) w hv ht h1 h2)
  have hh := halves_len h
  have R1 := hid (fun rv wb w' (hb : Below w.heap.size w w') (hwb : blk w' wb = some (.cells (wkC rv (.func (.func 39) #[] #[]) (tweakV (key.drop (key.length / 2)) (u64N n) 0)) 83 (0, 0))) (hr : RowsAt w' 16 rv (rkeys (key.take (key.length / 2)))) =>
    run_both (showB (key.take (key.length / 2))) (fun t x ht hx => showB_len hh.1 ht hx) (tweakV (key.drop (key.length / 2)) (u64N n) 0) l (tweakV_len hh.2 _ _) true rv _ tv wb w' hwb (ht.below hb) h1 h2
      (fun w2 hb2 t x ht hx => showWork_any (key.take (key.length / 2)) t x _ hh.1 ht hx rv wb w2 ((hb2.block wb (blk_lt hwb)).trans hwb) (hr.below hb2)))
  have EV := hid (show turnL (showB (key.take (key.length / 2))) (dblIt (tweakV (key.drop (key.length / 2)) (u64N n) 0)) true l = showV key (u64N n) l by rw [tweakV_fun]; unfold showV; rfl)
  rw [EV.out] at R1
  unfold WorkAt at B1
  clear hv ht h1 h2 h hh
  generalize key.take (key.length / 2) = k1 at *
  generalize key.drop (key.length / 2) = k2 at *
  generalize showV key (u64N n) l = O at *
  generalize tweakV k2 (u64N n) 0 = x at *
  go_enter Try.func21, Try.ntmps21
  go_wp2_with fail
  (with_reducible refine (B1.out).mono ?_)
  rintro e wg ⟨b, p, c, rfl, hbb, hblk, hrow, hb⟩
  have HB := hid hb; have HK := hid hblk; have HR := hid hrow
  clear hb hblk hrow B1
  go_wp2_with fail
  (with_reducible refine (R1.out _ _ _ HB.out HK.out HR.out).mono ?_)
  rintro e wh ⟨g, rfl, hg, hblk, hb⟩
  have H1 := hid hblk; have H2 := hid hb
  clear hblk hb
  go_wp2
  go_ret2
  exact ⟨_, rfl, Nat.le_trans HB.out.size hg, H1.out, HB.out.trans (H2.out.mono HB.out.size)⟩
end Go.Proofs.Ytkfggilildiflaa
