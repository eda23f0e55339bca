/-
  Seal and Open at every key; the chapter's example. No condition.
-/
import Derived.Test.YtkfbfgjfdjhjdaaCipherRoundsW
import Derived.Test.YtkfbfgjfdjhjdaaDecrypt
import Derived.Test.YtkfbfgjfdjhjdaaEncrypt
import Derived.Test.YtkfbfgjfdjhjdaaRefEncrypt
import Derived.Test.YtkfbfgjfdjhjdaaPartsW
namespace Go.Proofs.Ytkfbfgjfdjhjdaa
open Go.ChangeShapes Go.WideShapes Go.ChangeAt Go.RowKit
theorem keysAt_rows {w : World} {v : Value} {ks : List (List UInt8)} (h : RowsAt w 16 v ks) : KeysAt w v ks := by
  obtain ⟨h1, p, c, h2, _, h3⟩ := h
  exact ⟨h1, p, c, h2, h3⟩
theorem run_res_row {P : Program} {ty n : Nat} (hr : isRow P ty n = true) (w : World) (g : Nat) (cs : Array Value) (t : TypeId) (fr : Nat × Nat) (hg : blk w g = some (.cells cs t fr)) (hs : cs.size = n) : (loadVar ty ⟨g, 0, none⟩).run P w = .ok (.agg cs) w := by
  simp only [isRow, Bool.and_eq_true, beq_iff_eq] at hr
  cases hu : P.underlying ty with
  | none => simp [hu] at hr
  | some d =>
    simp only [hu] at hr
    refine run_loadVar_row w g t ty cs fr d hg hu ?_ (by rw [hr.2, hs])
    cases d <;> simp_all
/-- The end of a function with a result in a cell and one in a slot. -/
theorem post_cell_tmp {P : Program} {fn : Func} {p u ty n : Nat} (hres : fn.results = #[.cell p ty, .tmp u]) (hr : isRow P ty n = true) {R : Ending → World → Prop} {a : Act} {w : World} {e : Exit} (he : e = .ret ∨ e = .normal)
    (g : Nat) (cs : Array Value) (t : TypeId) (fr : Nat × Nat) (hp : a.tmps.getD p undef = .pointer (some ⟨g, 0, none⟩)) (hd : a.defers = []) (hg : blk w g = some (.cells cs t fr)) (hs : cs.size = n) (hR : R (.returned (.tuple #[.agg cs, a.tmps.getD u undef])) w) :
    bodyPost P fn R e a w := by
  have h1 : (results fn a.tmps).run P w = .ok (.tuple #[.agg cs, a.tmps.getD u undef]) w := by
    have hp' : a.tmps[p]?.getD undef = .pointer (some ⟨g, 0, none⟩) := by simpa using hp
    simp [results, hres, hp', asAddr, run_res_row hr w g cs t fr hg hs]
  rcases he with rfl | rfl
  · exact bodyPost_ret h1 hd hR
  · exact bodyPost_end h1 hd hR
/-- The end of a function with a result in a slot and two in cells. -/
theorem post_tmp_cells {P : Program} {fn : Func} {p q u ty n : Nat} (hres : fn.results = #[.tmp u, .cell p ty, .cell q ty]) (hr : isRow P ty n = true) {R : Ending → World → Prop} {a : Act} {w : World} {e : Exit} (he : e = .ret ∨ e = .normal)
    (g g2 : Nat) (cs cs2 : Array Value) (t : TypeId) (fr : Nat × Nat) (hp : a.tmps.getD p undef = .pointer (some ⟨g, 0, none⟩)) (hp2 : a.tmps.getD q undef = .pointer (some ⟨g2, 0, none⟩)) (hd : a.defers = []) (hg : blk w g = some (.cells cs t fr)) (hs : cs.size = n) (hg2 : blk w g2 = some (.cells cs2 t fr)) (hs2 : cs2.size = n) (hR : R (.returned (.tuple #[a.tmps.getD u undef, .agg cs, .agg cs2])) w) :
    bodyPost P fn R e a w := by
  have h1 : (results fn a.tmps).run P w = .ok (.tuple #[a.tmps.getD u undef, .agg cs, .agg cs2]) w := by
    have hp' : a.tmps[p]?.getD undef = .pointer (some ⟨g, 0, none⟩) := by simpa using hp
    have hp2' : a.tmps[q]?.getD undef = .pointer (some ⟨g2, 0, none⟩) := by simpa using hp2
    simp [results, hres, hp', hp2', asAddr, run_res_row hr w g cs t fr hg hs, run_res_row hr w g2 cs2 t fr hg2 hs2]
  rcases he with rfl | rfl
  · exact bodyPost_ret h1 hd hR
  · exact bodyPost_end h1 hd hR

def sealV (key x : List UInt8) : List UInt8 := encN (rkeys key) x (rkeys key).length
def openV (key x : List UInt8) : List UInt8 := decN (rkeys key) x (rkeys key).length
theorem sealV_len {key x : List UInt8} (h : key.length = 16 ∨ key.length = 32) (hx : x.length = 16) : (sealV key x).length = 16 := encN_len (rkeys_16 h) hx _ (Nat.le_refl _)
theorem openV_len {key x : List UInt8} (h : key.length = 16 ∨ key.length = 32) (hx : x.length = 16) : (openV key x).length = 16 := decN_len (rkeys_16 h) hx _ (Nat.le_refl _)
attribute [local irreducible] xorL sboxL subB sealV openV
set_option maxRecDepth 100000 in
set_option maxHeartbeats 2000000 in
theorem seal_good (key x : List UInt8) (h : key.length = 16 ∨ key.length = 32) (hx : x.length = 16) (v : Value) (w : World) (hv : BytesAt w v key) : Calls Try.prog 46 #[v, .agg (bvs x)] w fun e w' => e = .returned (.tuple #[.agg (bvs (sealV key x)), .nilIface]) ∧ Below w.heap.size w w' := by
  have RG := hid (rounds_good key h)
  have EG := hid (fun v w (hr : RowsAt w 16 v (rkeys key)) => encrypt_any (rkeys key) x hx v w (keysAt_rows hr) (by rw [rkeys_len]; omega))
  have HV := hid hv
  have s1 : csz (bvs x) = 16 := by rw [csz_bvs, hx]
  have s2 : csz (bvs (sealV key x)) = 16 := by rw [csz_bvs, sealV_len h hx]
  have EG2 : Hid (∀ v w, RowsAt w 16 v (rkeys key) → Calls Try.prog 37 #[v, .agg (bvs x)] w fun e w' => e = .returned (.agg (bvs (sealV key x))) ∧ Below w.heap.size w w') := hid fun v w hr => by unfold sealV; exact EG.out v w hr
  clear EG hv h hx
  have z := zs16; have e0 := zs_ne
  go_enter Try.func46, Try.ntmps46
  go_wp2_with fail
  have hS := show St w ((w.alloc (.cells (bvs x) 25)).alloc (.cells (bvs (zs 16)) 25)) [(w.heap.size + 1, bvs (zs 16), 25), (w.heap.size, bvs x, 25)] from (St.alloc' (St.alloc' (St.start w) (by first | rfl | simp)) (by first | rfl | simp))
  with_reducible refine (RG.out _ _ (HV.out.below hS.below)).mono ?_
  rintro e w1 ⟨p, c, rfl, hR, hb⟩
  have hS1 := hS.call hb
  clear hS hb
  obtain ⟨kb0, kc0, kf0, kl0, kn0⟩ := hS1.at 0 rfl; obtain ⟨kb1, kc1, kf1, kl1, kn1⟩ := hS1.at 1 rfl
  have HR := hid hR
  clear hR
  go_wp2_with fail
  with_reducible refine (EG2.out _ _ HR.out).mono ?_
  rintro e w2 ⟨rfl, hb⟩
  have hS2 := hS1.call hb
  clear hS1 hb kb0 kc0 kf0 kl0 kn0 kb1 kc1 kf1 kl1 kn1
  obtain ⟨kb0, kc0, kf0, kl0, kn0⟩ := hS2.at 0 rfl; obtain ⟨kb1, kc1, kf1, kl1, kn1⟩ := hS2.at 1 rfl
  go_wp2
  have h3 := hS2.setRow 0 rfl (bvs (sealV key x))
  exact post_cell_tmp (n := 16) Try.results46 (by kernel_rfl) (.inl rfl) _ _ _ _ rfl rfl (h3.blk 0 rfl) (by rw [← csz_is]; exact s2) ⟨rfl, h3.below⟩
set_option maxRecDepth 100000 in
set_option maxHeartbeats 2000000 in
theorem open_good (key x : List UInt8) (h : key.length = 16 ∨ key.length = 32) (hx : x.length = 16) (v : Value) (w : World) (hv : BytesAt w v key) : Calls Try.prog 47 #[v, .agg (bvs x)] w fun e w' => e = .returned (.tuple #[.agg (bvs (openV key x)), .nilIface]) ∧ Below w.heap.size w w' := by
  have RG := hid (rounds_good key h)
  have EG := hid (fun v w (hr : RowsAt w 16 v (rkeys key)) => decrypt_any (rkeys key) x hx v w (keysAt_rows hr) (by rw [rkeys_len]; omega))
  have HV := hid hv
  have s1 : csz (bvs x) = 16 := by rw [csz_bvs, hx]
  have s2 : csz (bvs (openV key x)) = 16 := by rw [csz_bvs, openV_len h hx]
  have EG2 : Hid (∀ v w, RowsAt w 16 v (rkeys key) → Calls Try.prog 44 #[v, .agg (bvs x)] w fun e w' => e = .returned (.agg (bvs (openV key x))) ∧ Below w.heap.size w w') := hid fun v w hr => by unfold openV; exact EG.out v w hr
  clear EG hv h hx
  have z := zs16; have e0 := zs_ne
  go_enter Try.func47, Try.ntmps47
  go_wp2_with fail
  have hS := show St w ((w.alloc (.cells (bvs x) 25)).alloc (.cells (bvs (zs 16)) 25)) [(w.heap.size + 1, bvs (zs 16), 25), (w.heap.size, bvs x, 25)] from (St.alloc' (St.alloc' (St.start w) (by first | rfl | simp)) (by first | rfl | simp))
  with_reducible refine (RG.out _ _ (HV.out.below hS.below)).mono ?_
  rintro e w1 ⟨p, c, rfl, hR, hb⟩
  have hS1 := hS.call hb
  clear hS hb
  obtain ⟨kb0, kc0, kf0, kl0, kn0⟩ := hS1.at 0 rfl; obtain ⟨kb1, kc1, kf1, kl1, kn1⟩ := hS1.at 1 rfl
  have HR := hid hR
  clear hR
  go_wp2_with fail
  with_reducible refine (EG2.out _ _ HR.out).mono ?_
  rintro e w2 ⟨rfl, hb⟩
  have hS2 := hS1.call hb
  clear hS1 hb kb0 kc0 kf0 kl0 kn0 kb1 kc1 kf1 kl1 kn1
  obtain ⟨kb0, kc0, kf0, kl0, kn0⟩ := hS2.at 0 rfl; obtain ⟨kb1, kc1, kf1, kl1, kn1⟩ := hS2.at 1 rfl
  go_wp2
  have h3 := hS2.setRow 0 rfl (bvs (openV key x))
  exact post_cell_tmp (n := 16) Try.results47 (by kernel_rfl) (.inl rfl) _ _ _ _ rfl rfl (h3.blk 0 rfl) (by rw [← csz_is]; exact s2) ⟨rfl, h3.below⟩
set_option maxRecDepth 100000 in
set_option maxHeartbeats 2000000 in
theorem seal_bad (key x : List UInt8) (h : ¬ (key.length = 16 ∨ key.length = 32)) (hm : key.length ≤ maxLen) (hx : x.length = 16) (v : Value) (w : World) (hv : BytesAt w v key) : Calls Try.prog 46 #[v, .agg (bvs x)] w fun e w' => e = .returned (.tuple #[.agg (bvs (zs 16)), .iface 56 (.int .i64 3)]) ∧ Below w.heap.size w w' := by
  have RG := hid (roundsBad_any key (fun e => h (.inl e)) (fun e => h (.inr e)))
  have HV := hid hv; have HM := hid hm
  have s1 : csz (bvs x) = 16 := by rw [csz_bvs, hx]
  have s2 : csz (bvs (zs 16)) = 16 := by rw [csz_bvs, zs_len]
  clear hv h hx hm
  have z := zs16; have e0 := zs_ne
  go_enter Try.func46, Try.ntmps46
  go_wp2_with fail
  have hS := show St w ((w.alloc (.cells (bvs x) 25)).alloc (.cells (bvs (zs 16)) 25)) [(w.heap.size + 1, bvs (zs 16), 25), (w.heap.size, bvs x, 25)] from (St.alloc' (St.alloc' (St.start w) (by first | rfl | simp)) (by first | rfl | simp))
  with_reducible refine (RG.out _ _ (HV.out.below hS.below) HM.out).mono ?_
  rintro e w1 ⟨rfl, rfl⟩
  generalize (w.alloc (.cells (bvs x) 25)).alloc (.cells (bvs (zs 16)) 25) = W at *
  obtain ⟨kb0, kc0, kf0, kl0, kn0⟩ := hS.at 0 rfl; obtain ⟨kb1, kc1, kf1, kl1, kn1⟩ := hS.at 1 rfl
  go_wp2
  have h3 := hS.setRow 0 rfl (bvs (zs 16))
  exact post_cell_tmp (n := 16) Try.results46 (by kernel_rfl) (.inl rfl) _ _ _ _ rfl rfl (h3.blk 0 rfl) (by rw [← csz_is]; exact s2) ⟨rfl, h3.below⟩
set_option maxRecDepth 100000 in
set_option maxHeartbeats 2000000 in
theorem open_bad (key x : List UInt8) (h : ¬ (key.length = 16 ∨ key.length = 32)) (hm : key.length ≤ maxLen) (hx : x.length = 16) (v : Value) (w : World) (hv : BytesAt w v key) : Calls Try.prog 47 #[v, .agg (bvs x)] w fun e w' => e = .returned (.tuple #[.agg (bvs (zs 16)), .iface 56 (.int .i64 3)]) ∧ Below w.heap.size w w' := by
  have RG := hid (roundsBad_any key (fun e => h (.inl e)) (fun e => h (.inr e)))
  have HV := hid hv; have HM := hid hm
  have s1 : csz (bvs x) = 16 := by rw [csz_bvs, hx]
  have s2 : csz (bvs (zs 16)) = 16 := by rw [csz_bvs, zs_len]
  clear hv h hx hm
  have z := zs16; have e0 := zs_ne
  go_enter Try.func47, Try.ntmps47
  go_wp2_with fail
  have hS := show St w ((w.alloc (.cells (bvs x) 25)).alloc (.cells (bvs (zs 16)) 25)) [(w.heap.size + 1, bvs (zs 16), 25), (w.heap.size, bvs x, 25)] from (St.alloc' (St.alloc' (St.start w) (by first | rfl | simp)) (by first | rfl | simp))
  with_reducible refine (RG.out _ _ (HV.out.below hS.below) HM.out).mono ?_
  rintro e w1 ⟨rfl, rfl⟩
  generalize (w.alloc (.cells (bvs x) 25)).alloc (.cells (bvs (zs 16)) 25) = W at *
  obtain ⟨kb0, kc0, kf0, kl0, kn0⟩ := hS.at 0 rfl; obtain ⟨kb1, kc1, kf1, kl1, kn1⟩ := hS.at 1 rfl
  go_wp2
  have h3 := hS.setRow 0 rfl (bvs (zs 16))
  exact post_cell_tmp (n := 16) Try.results47 (by kernel_rfl) (.inl rfl) _ _ _ _ rfl rfl (h3.blk 0 rfl) (by rw [← csz_is]; exact s2) ⟨rfl, h3.below⟩
/-- The chapter's example. -/
def exK : List UInt8 := [0, 1, 2, 3, 4, 5, 6, 7, 8, 9, 10, 11, 12, 13, 14, 15]
def exP : List UInt8 := [0, 0x11, 0x22, 0x33, 0x44, 0x55, 0x66, 0x77, 0x88, 0x99, 0xaa, 0xbb, 0xcc, 0xdd, 0xee, 0xff]
def exW : List UInt8 := [0x69, 0xc4, 0xe0, 0xd8, 0x6a, 0x7b, 0x04, 0x30, 0xd8, 0xcd, 0xb7, 0x80, 0x70, 0xb4, 0xc5, 0x5a]
theorem ex_is : sealV exK exP = exW := by decide +kernel
@[go_sem] theorem run_exK (w : World) : (buildSliceB 46 16 #[(0, .int .u8 0), (1, .int .u8 1), (2, .int .u8 2), (3, .int .u8 3), (4, .int .u8 4), (5, .int .u8 5), (6, .int .u8 6), (7, .int .u8 7), (8, .int .u8 8), (9, .int .u8 9), (10, .int .u8 10), (11, .int .u8 11), (12, .int .u8 12), (13, .int .u8 13), (14, .int .u8 14), (15, .int .u8 15)]).run Try.prog w = .ok (.slice (some ⟨w.heap.size, 0, none⟩) 16 16) (w.alloc (.cells (bvs exK) 5)) := by
  have h : (Try.prog.info? 5).map (fun i => (i.zero, i.size)) = some (some (.int .u8 0), 1) := by kernel_rfl
  cases hi : Try.prog.info? 5 with
  | none => rw [hi] at h; cases h
  | some i =>
    rw [hi] at h
    simp only [Option.map_some, Option.some.injEq, Prod.mk.injEq] at h
    unfold buildSliceB
    rw [if_pos rfl]
    refine run_buildSlice w 46 5 16 _ _ i _ Try.underlying46 hi h.1 (by rw [h.2]; decide) (by rw [h.2]; decide) ?_
    rw [h.2]
    kernel_rfl
set_option maxRecDepth 100000 in
set_option maxHeartbeats 2000000 in
theorem known_any (w : World) : Calls Try.prog 45 #[] w fun e w' => e = .returned (.tuple #[.slice (some ⟨w.heap.size + 2, 0, none⟩) 16 16, .agg (bvs exP), .agg (bvs exW)]) ∧ blk w' (w.heap.size + 2) = some (.cells (bvs exK) 5 (0, 0)) ∧ Below w.heap.size w w' := by
  have s1 : csz (bvs exP) = 16 := rfl
  have s2 : csz (bvs exW) = 16 := rfl
  have ep : #[Value.int .u8 0, Value.int .u8 17, Value.int .u8 34, Value.int .u8 51, Value.int .u8 68, Value.int .u8 85, Value.int .u8 102, Value.int .u8 119, Value.int .u8 136, Value.int .u8 153, Value.int .u8 170, Value.int .u8 187, Value.int .u8 204, Value.int .u8 221, Value.int .u8 238, Value.int .u8 255] = bvs exP := rfl
  have ew : #[Value.int .u8 105, Value.int .u8 196, Value.int .u8 224, Value.int .u8 216, Value.int .u8 106, Value.int .u8 123, Value.int .u8 4, Value.int .u8 48, Value.int .u8 216, Value.int .u8 205, Value.int .u8 183, Value.int .u8 128, Value.int .u8 112, Value.int .u8 180, Value.int .u8 197, Value.int .u8 90] = bvs exW := rfl
  go_enter Try.func45, Try.ntmps45
  go_wp2
  have hS := show St w (((w.alloc (.cells (bvs exP) 25)).alloc (.cells (bvs exW) 25)).alloc (.cells (bvs exK) 5)) [(w.heap.size + 1 + 1, bvs exK, 5), (w.heap.size + 1, bvs exW, 25), (w.heap.size, bvs exP, 25)] from (St.alloc' (St.alloc' (St.alloc' (St.start w) (by first | rfl | simp)) (by first | rfl | simp)) (by first | rfl | simp))
  exact post_tmp_cells (n := 16) Try.results45 (by kernel_rfl) (.inl rfl) _ _ _ _ _ _ rfl rfl rfl (hS.blk 2 rfl) rfl (hS.blk 1 rfl) rfl ⟨rfl, hS.blk 0 rfl, hS.below⟩
end Go.Proofs.Ytkfbfgjfdjhjdaa
