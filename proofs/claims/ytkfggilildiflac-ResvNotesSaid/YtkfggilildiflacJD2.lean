/-
  Laws that the claims of this seat use, of several texts in one: ResvJ. No condition of their own.
-/
import Derived.Test.YtkfggilildiflacJD1

namespace Go.Proofs.Ytkfggilildiflac
open Go.ChangeShapes Go.WideShapes Go.ChangeAt Go.RowKit
attribute [local irreducible] wpList wpListIn
/-- The holders. -/
def holdL (l : List Rg) (h t : Int) : List Int := if h = -1 then [] else (l.filter fun g => decide (t = 5 ∨ t = 6) || g.1 == h).map (·.1)
def regsBlk : Value → List Nat
  | .slice (some a) _ _ => [a.block]
  | _ => []
set_option maxRecDepth 100000 in
theorem holders_any (v : Value) (h t g : Int) (s : Bool) (w : World) : Calls Try.prog 18 #[.agg #[v, .int .i64 h, .int .i64 t, .bool s, .int .i64 g]] w fun e w' => ∃ b, e = .returned (.func (.func 42) #[] #[.pointer (some ⟨b, 0, none⟩)]) ∧ w.heap.size ≤ b ∧ blk w' b = some (.cells #[v, .int .i64 h, .int .i64 t, .bool s, .int .i64 g] 24 (0, 0)) ∧ Below w.heap.size w w' := by
  have hS := St.start w
  go_enter Try.func18, Try.ntmps18
  repeat' (first | ((with_reducible refine Ad ?_); first | ((first | refine Bn Aa ?_ | refine Bm Aa ?_ | refine Az Aa ?_ | refine Bf Aa Ab hS ?_ | refine Bi Aa Ab hS ?_ | refine Ag Aa ?_ | refine Af Aa ?_ | refine Bs Aa ?_ | refine Bx Aa ?_ | refine Ao Aa ?_ | refine Bw Aa ?_ | refine Br Aa ?_ | refine Be Aa ?_ | refine Bg Aa ?_ | refine Bv Aa (fun hc => ?_) (fun hc => ?_) | refine Ay Aa ?_ | refine Am Aa ?_ | refine Aw Aa ?_ | refine Ap Aa ?_ | refine Ah Aa ?_ | refine Ax Aa ?_ | refine Ar Aa ?_ | refine Aj Aa ?_ | refine Ae Aa ?_ | refine Ai Aa ?_ | refine Bp Aa ?_ | refine Bo Aa ?_ | refine Bu Aa ?_ | refine Bc Aa ?_ | refine As Aa ?_ | refine Ak Aa ?_ | refine Aq Aa ?_ | refine Bj Aa ?_ | refine Bk Aa ?_) <;> refine Ac ?_) | ((first | refine Bh Aa Ab hS ?_ | refine Bt Aa Ab hS ?_ | refine Ba Aa Ab hS ?_ | refine Bd Aa Ab hS ?_); clear hS; intro b w hS; refine Ac ?_) | ((first | refine Av Aa Ab hS ?_ | refine Au Aa Ab hS ?_ | refine Bb Aa Ab hS ?_); clear hS; intro w hS; refine Ac ?_)) | ((fail_if_success (with_reducible refine Ad ?_)); first | go_step | go_step3 | rw [Exit.noGoto_normal] | rw [Exit.noGoto_ret] | rw [Exit.noGoto_exit]))
  go_ret
  exact ⟨b, rfl, (hS.2.1 _ (List.mem_cons_self ..)).1, hS.blk 0 rfl, hS.below⟩
/-- The block that registrations lie in, if there are any. -/
def rgB (l : List Rg) (v : Value) : List Nat := if l = [] then [] else regsBlk v
theorem RegsAt.far_ {w w' : World} {v : Value} {l : List Rg} (h : RegsAt w v l) (hx : ∀ b cs t fr, b ∈ rgB l v → blk w b = some (.cells cs t fr) → blk w' b = some (.cells cs t fr)) : RegsAt w' v l := by
  obtain ⟨p, c, h1, h2, h3, h4⟩ := h
  refine ⟨p, c, h1, h2, h3, fun hn => ?_⟩
  obtain ⟨b, o, cs, t, fr, e1, e2, e3⟩ := h4 hn
  exact ⟨b, o, cs, t, fr, e1, hx b cs t fr (by unfold rgB; rw [if_neg hn, h1, e1]; exact List.mem_singleton.2 rfl) e2, e3⟩
theorem filt_take {l : List Rg} {q : Rg → Bool} {k : Nat} (hk : k < l.length) : (l.take (k + 1)).filter q = (l.take k).filter q ++ if q (l.getD k (0, 0)) then [l.getD k (0, 0)] else [] := filter_take q hk
theorem filt_get {l : List Rg} {q : Rg → Bool} {k : Nat} (hk : k < l.length) (hq : q (l.getD k (0, 0)) = true) : ((l.filter q).map (·.1)).getD ((l.take k).filter q).length 0 = (l.getD k (0, 0)).1 ∧ ((l.take k).filter q).length < ((l.filter q).map (·.1)).length := by
  have e : l = l.take k ++ l.getD k (0, 0) :: l.drop (k + 1) := by rw [← drop_getD hk, List.take_append_drop]
  have e2 : l.filter q = (l.take k).filter q ++ l.getD k (0, 0) :: (l.drop (k + 1)).filter q := by
    conv => lhs; rw [e]
    rw [List.filter_append, List.filter_cons, if_pos hq]
  rw [e2]
  refine ⟨?_, by simp⟩
  rw [List.map_append, List.map_cons, List.getD_eq_getElem?_getD, List.getElem?_append_right (by simp), List.length_map, Nat.sub_self]
  rfl
set_option maxRecDepth 100000 in
set_option maxHeartbeats 8000000 in
theorem holders1_iter (l : List Rg) (v : Value) (h t g : Int) (s : Bool) (gb : Nat) (W0 : World) (hg : blk W0 gb = some (.cells #[v, .int .i64 h, .int .i64 t, .bool s, .int .i64 g] 24 (0, 0))) (hv : RegsAt W0 v l) (hm : l.length ≤ 1000) :
    IterAt Try.prog 42 #[.pointer (some ⟨gb, 0, none⟩)] (fun k => #[.int .i64 ((holdL l h t).getD k 0)]) (some (holdL l h t).length) (gb :: rgB l v) W0 := by
  intro lb J Jx M W L0 hbW hR hM hJ0 hH' hY
  have hgW : blk W gb = some (.cells #[v, .int .i64 h, .int .i64 t, .bool s, .int .i64 g] 24 (0, 0)) := (hbW.block gb (blk_lt hg)).trans hg
  have hvW := hv.below hbW
  have hgn : gb ∉ L0.map (·.1) := hR gb (List.mem_cons_self ..)
  obtain ⟨p, c, rfl, hc⟩ := hv.slice
  refine (callsIn_wide (n := 1)).1 ?_
  refine callsIn_of_wp Try.func42 rfl trivial ?_ rfl
  simp only [Try.ntmps42, List.size_toArray, List.length_cons, List.length_nil, Nat.reduceAdd, Nat.reduceSub, Array.replicate_succ, Array.replicate_zero, List.push_toArray, List.append_toArray, List.nil_append, List.cons_append]
  have hS := St.start W
  by_cases hh : h = -1
  · have hH := decide_eq_false (show ¬ h ≠ -1 from fun hx => hx hh)
    repeat' (first | ((with_reducible refine cons_in ?_); first | ((first | refine Bn Al ?_ | refine Bm Al ?_ | refine Az Al ?_ | refine Bf Al Ab hS ?_ | refine Dp Al (by first | exact ((hS).far hgW).1) ?_ | refine Bi Al Ab hS ?_ | refine Dq Al (by first | exact ((hS).far hgW).1) ?_ | refine Ag Al ?_ | refine Af Al ?_ | refine Bs Al ?_ | refine Bx Al ?_ | refine Ao Al ?_ | refine Bw Al ?_ | refine Br Al ?_ | refine Be Al ?_ | refine Bg Al ?_ | refine Bv Al (fun hc => ?_) (fun hc => ?_) | refine Ay Al ?_ | refine Am Al ?_ | refine Aw Al ?_ | refine Ap Al ?_ | refine Ah Al ?_ | refine Ax Al ?_ | refine Ar Al ?_ | refine Aj Al ?_ | refine Ae Al ?_ | refine Ai Al ?_ | refine Bp Al ?_ | refine Bo Al ?_ | refine Bu Al ?_ | refine Bc Al ?_ | refine As Al ?_ | refine Ak Al ?_ | refine Aq Al ?_ | refine Bj Al ?_ | refine Bk Al ?_) <;> refine Ac ?_) | ((first | refine Bh Al Ab hS ?_ | refine Bt Al Ab hS ?_ | refine Ba Al Ab hS ?_ | refine Bd Al Ab hS ?_); clear hS; intro b w hS; refine Ac ?_) | ((first | refine Av Al Ab hS ?_ | refine Au Al Ab hS ?_ | refine Bb Al Ab hS ?_); clear hS; intro w hS; refine Ac ?_) | (refine Cb Al Ab hS (held_c _ _ _ _ _ hH _) ?_; clear hS; intro w hS; refine Ac ?_)) | ((fail_if_success (with_reducible refine cons_in ?_)); first | gi_step | (with_reducible refine wpIn_scope_wide ?_) | (with_reducible refine wpIn_label ?_) | rw [Exit.noGoto_normal] | rw [Exit.noGoto_ret] | rw [Exit.noGoto_exit]))
    refine bodyPost_ret (results_none rfl _ _ _) rfl ?_
    exact ⟨⟨_, rfl⟩, L0, .call hH' hS.below, .inl ⟨0, by unfold holdL; rw [if_pos hh]; rfl, hJ0⟩⟩
  · have hH := decide_eq_true (show h ≠ -1 from hh)
    have hHL : holdL l h t = (l.filter fun g => decide (t = 5 ∨ t = 6) || g.1 == h).map (·.1) := by unfold holdL; rw [if_neg hh]
    obtain ⟨Sh, hSh⟩ : ∃ S, decide (t = 5 ∨ t = 6) = S := ⟨_, rfl⟩
    rw [hSh] at hHL
    obtain ⟨q, hq⟩ : ∃ q : Rg → Bool, (fun g : Rg => Sh || g.1 == h) = q := ⟨_, rfl⟩
    rw [hq] at hHL
    rw [hHL] at hY ⊢
    repeat' (first | ((with_reducible refine cons_in ?_); first | ((first | refine Bn Al ?_ | refine Bm Al ?_ | refine Az Al ?_ | refine Bf Al Ab hS ?_ | refine Dp Al (by first | exact ((hS).far hgW).1) ?_ | refine Bi Al Ab hS ?_ | refine Dq Al (by first | exact ((hS).far hgW).1) ?_ | refine Ag Al ?_ | refine Af Al ?_ | refine Bs Al ?_ | refine Bx Al ?_ | refine Ao Al ?_ | refine Bw Al ?_ | refine Br Al ?_ | refine Be Al ?_ | refine Bg Al ?_ | refine Bv Al (fun hc => ?_) (fun hc => ?_) | refine Ay Al ?_ | refine Am Al ?_ | refine Aw Al ?_ | refine Ap Al ?_ | refine Ah Al ?_ | refine Ax Al ?_ | refine Ar Al ?_ | refine Aj Al ?_ | refine Ae Al ?_ | refine Ai Al ?_ | refine Bp Al ?_ | refine Bo Al ?_ | refine Bu Al ?_ | refine Bc Al ?_ | refine As Al ?_ | refine Ak Al ?_ | refine Aq Al ?_ | refine Bj Al ?_ | refine Bk Al ?_) <;> refine Ac ?_) | ((first | refine Bh Al Ab hS ?_ | refine Bt Al Ab hS ?_ | refine Ba Al Ab hS ?_ | refine Bd Al Ab hS ?_); clear hS; intro b w hS; refine Ac ?_) | ((first | refine Av Al Ab hS ?_ | refine Au Al Ab hS ?_ | refine Bb Al Ab hS ?_); clear hS; intro w hS; refine Ac ?_) | (refine Cb Al Ab hS (held_c _ _ _ _ _ hH _) ?_; clear hS; intro w hS; refine Ac ?_)) | ((fail_if_success (with_reducible refine cons_in ?_)); first | gi_step | (with_reducible refine wpIn_scope_wide ?_) | (with_reducible refine wpIn_label ?_) | rw [Exit.noGoto_normal] | rw [Exit.noGoto_ret] | rw [Exit.noGoto_exit]))
    gi_loopg [11] l.length (fun r u11 wr => ∃ k L, r + k = l.length ∧ u11 = .int .i64 (k : Int) ∧ J ((l.take k).filter q).length L ∧ Rd L0 W L wr)
    case atStart => exact ⟨0, L0, by omega, rfl, hJ0, .call hH' hS.below⟩
    case round =>
      obtain ⟨k, L, hk, rfl, hJ, hRd⟩ := hrel
      have hgr : blk wr gb = some (.cells #[.slice p l.length c, .int .i64 h, .int .i64 t, .bool s, .int .i64 g] 24 (0, 0)) := (hRd.farCells hgW hgn).1
      have hvr : RegsAt wr (.slice p l.length c) l := hvW.far_ (fun b cs ty fr hb hbk => (hRd.farCells hbk (hR b (List.mem_cons_of_mem _ hb))).1)
      replace hS := St.start wr
      by_cases hlt : k < l.length
      · obtain ⟨rb, o, cs, ty, fr, rfl, hb, hcell⟩ := hvr.open_ (by omega)
        have q1 := csz_reg hcell hlt
        have hcut := cut_reg hcell hlt
        have hft := filt_take (q := q) hlt
        have hfg := filt_get (q := q) hlt
        obtain ⟨x1, hx1⟩ : ∃ x, (l.getD k (0, 0)).1 = x := ⟨_, rfl⟩
        obtain ⟨x2, hx2⟩ : ∃ x, (l.getD k (0, 0)).2 = x := ⟨_, rfl⟩
        have hqx : q (l.getD k (0, 0)) = (Sh || x1 == h) := by rw [← hq, ← hx1]
        rw [hx1, hx2] at hcut
        rw [hx1] at hfg
        by_cases hQ : (Sh || x1 == h) = true
        · rw [hQ] at hqx
          have hfg := hfg hqx
          have hnx : ((l.take (k + 1)).filter q).length = ((l.take k).filter q).length + 1 := by rw [hft, if_pos hqx, List.length_append]; rfl
          have hQ2 : Sh = true ∨ x1 = h := by simpa using hQ
          rcases Bool.eq_false_or_eq_true Sh with hs1 | hs1
          all_goals subst hs1
          · skip
            repeat' (first | ((with_reducible refine cons_in ?_); first | ((first | refine Bn Al ?_ | refine Bm Al ?_ | refine Az Al ?_ | refine Bf Al Ab hS ?_ (hv := by first | rfl | exact Bl | (rw [Array.getElem?_toList]; exact hcut)) | refine Dp Al (by first | exact ((hS).far hgr).1) ?_ (hv := by first | rfl | exact Bl | (rw [Array.getElem?_toList]; exact hcut)) | refine Dp Al (by first | exact ((hS).far hb).1) ?_ (hv := by first | rfl | exact Bl | (rw [Array.getElem?_toList]; exact hcut)) | refine Bi Al Ab hS ?_ (hv := by first | exact Bq _ _ (by (try simp only [Ca, Ce, Bz, List.length_append, List.length_set, zs_len, List.length_take, List.length_drop, List.length_cons, List.length_nil]); first | done | rfl | omega) | (exact hcut) | rfl) | refine Dq Al (by first | exact ((hS).far hgr).1) ?_ (hv := by first | exact Bq _ _ (by (try simp only [Ca, Ce, Bz, List.length_append, List.length_set, zs_len, List.length_take, List.length_drop, List.length_cons, List.length_nil]); first | done | rfl | omega) | (exact hcut) | rfl) | refine Dq Al (by first | exact ((hS).far hb).1) ?_ (hv := by first | exact Bq _ _ (by (try simp only [Ca, Ce, Bz, List.length_append, List.length_set, zs_len, List.length_take, List.length_drop, List.length_cons, List.length_nil]); first | done | rfl | omega) | (exact hcut) | rfl) | refine Ag Al ?_ | refine Af Al ?_ | refine Bs Al ?_ | refine Bx Al ?_ | refine Ao Al ?_ | refine Bw Al ?_ | refine Br Al ?_ | refine Be Al ?_ | refine Bg Al ?_ | refine Bv Al (fun hc => ?_) (fun hc => ?_) | refine Ay Al ?_ | refine Am Al ?_ | refine Aw Al ?_ | refine Ap Al ?_ | refine Ah Al ?_ | refine Ax Al ?_ (hv' := by first | rfl | exact Bl | (rw [Array.getElem?_toList]; exact hcut)) | refine Ar Al ?_ | refine Aj Al ?_ | refine Ae Al ?_ | refine Ai Al ?_ | refine Bp Al ?_ | refine Bo Al ?_ | refine Bu Al ?_ | refine Bc Al ?_ | refine As Al ?_ | refine Ak Al ?_ | refine Aq Al ?_ | refine Bj Al ?_ | refine Bk Al ?_) <;> refine Ac ?_) | ((first | refine Bh Al Ab hS ?_ | refine Bt Al Ab hS ?_ | refine Ba Al Ab hS ?_ | refine Bd Al Ab hS ?_); clear hS; intro b w hS; refine Ac ?_) | ((first | refine Av Al Ab hS ?_ | refine Au Al Ab hS ?_ | refine Bb Al Ab hS ?_); clear hS; intro w hS; refine Ac ?_) | (refine Cb Al Ab hS (shared_c _ _ _ _ _ hSh _) ?_; clear hS; intro w hS; refine Ac ?_)) | ((fail_if_success (with_reducible refine cons_in ?_)); first | gi_step | (with_reducible refine wpIn_scope_wide ?_) | (with_reducible refine wpIn_label ?_) | rw [Exit.noGoto_normal] | rw [Exit.noGoto_ret] | rw [Exit.noGoto_exit]))
            have hRd1 : Rd L0 W L w := hRd.trans (.call hRd.holds hS.below)
            have hyj := hY _ L w hJ hRd1 (fun n hn => by cases hn; exact hfg.2)
            dsimp only at hyj
            rw [hfg.1] at hyj
            (refine s_yield (by rfl) (by rfl) (by rfl) (by rfl) (by rfl) (by simpa using hyj) ?_)
            rintro e W3 ⟨L2, hRd2, (⟨rfl, hJ2⟩ | ⟨rfl, hx⟩)⟩
            · refine ⟨_, rfl, ?_⟩
              refine Ac ?_
              have hRd3 := hRd1.trans hRd2
              replace hS := St.start W3
              repeat' (first | ((with_reducible refine cons_in ?_); first | ((first | refine Bn Al ?_ | refine Bm Al ?_ | refine Az Al ?_ | refine Bf Al Ab hS ?_ | refine Bi Al Ab hS ?_ | refine Ag Al ?_ | refine Af Al ?_ | refine Bs Al ?_ | refine Bx Al ?_ | refine Ao Al ?_ | refine Bw Al ?_ | refine Br Al ?_ | refine Be Al ?_ | refine Bg Al ?_ | refine Bv Al (fun hc => ?_) (fun hc => ?_) | refine Ay Al ?_ | refine Am Al ?_ | refine Aw Al ?_ | refine Ap Al ?_ | refine Ah Al ?_ | refine Ax Al ?_ | refine Ar Al ?_ | refine Aj Al ?_ | refine Ae Al ?_ | refine Ai Al ?_ | refine Bp Al ?_ | refine Bo Al ?_ | refine Bu Al ?_ | refine Bc Al ?_ | refine As Al ?_ | refine Ak Al ?_ | refine Aq Al ?_ | refine Bj Al ?_ | refine Bk Al ?_) <;> refine Ac ?_) | ((first | refine Bh Al Ab hS ?_ | refine Bt Al Ab hS ?_ | refine Ba Al Ab hS ?_ | refine Bd Al Ab hS ?_); clear hS; intro b w hS; refine Ac ?_) | ((first | refine Av Al Ab hS ?_ | refine Au Al Ab hS ?_ | refine Bb Al Ab hS ?_); clear hS; intro w hS; refine Ac ?_)) | ((fail_if_success (with_reducible refine cons_in ?_)); first | gi_step | (with_reducible refine wpIn_scope_wide ?_) | (with_reducible refine wpIn_label ?_) | rw [Exit.noGoto_normal] | rw [Exit.noGoto_ret] | rw [Exit.noGoto_exit]))
              gi_roundg (gk - 1)
              case rel => exact ⟨k + 1, L2, by omega, by push_cast; rfl, by rw [hnx]; exact hJ2, hRd3⟩
              case measure => omega
            · refine ⟨_, rfl, ?_⟩
              refine Ac ?_
              have hRd3 := hRd1.trans hRd2
              replace hS := St.start W3
              repeat' (first | ((with_reducible refine cons_in ?_); first | ((first | refine Bn Al ?_ | refine Bm Al ?_ | refine Az Al ?_ | refine Bf Al Ab hS ?_ | refine Bi Al Ab hS ?_ | refine Ag Al ?_ | refine Af Al ?_ | refine Bs Al ?_ | refine Bx Al ?_ | refine Ao Al ?_ | refine Bw Al ?_ | refine Br Al ?_ | refine Be Al ?_ | refine Bg Al ?_ | refine Bv Al (fun hc => ?_) (fun hc => ?_) | refine Ay Al ?_ | refine Am Al ?_ | refine Aw Al ?_ | refine Ap Al ?_ | refine Ah Al ?_ | refine Ax Al ?_ | refine Ar Al ?_ | refine Aj Al ?_ | refine Ae Al ?_ | refine Ai Al ?_ | refine Bp Al ?_ | refine Bo Al ?_ | refine Bu Al ?_ | refine Bc Al ?_ | refine As Al ?_ | refine Ak Al ?_ | refine Aq Al ?_ | refine Bj Al ?_ | refine Bk Al ?_) <;> refine Ac ?_) | ((first | refine Bh Al Ab hS ?_ | refine Bt Al Ab hS ?_ | refine Ba Al Ab hS ?_ | refine Bd Al Ab hS ?_); clear hS; intro b w hS; refine Ac ?_) | ((first | refine Av Al Ab hS ?_ | refine Au Al Ab hS ?_ | refine Bb Al Ab hS ?_); clear hS; intro w hS; refine Ac ?_)) | ((fail_if_success (with_reducible refine cons_in ?_)); first | gi_step | (with_reducible refine wpIn_scope_wide ?_) | (with_reducible refine wpIn_label ?_) | rw [Exit.noGoto_normal] | rw [Exit.noGoto_ret] | rw [Exit.noGoto_exit]))
              refine bodyPost_end (results_none rfl _ _ _) rfl ?_
              exact ⟨⟨_, rfl⟩, L2, hRd3, .inr hx⟩
          · have hx1h : x1 = h := by simpa using hQ2
            subst hx1h
            repeat' (first | ((with_reducible refine cons_in ?_); first | ((first | refine Bn Al ?_ | refine Bm Al ?_ | refine Az Al ?_ | refine Bf Al Ab hS ?_ (hv := by first | rfl | exact Bl | (rw [Array.getElem?_toList]; exact hcut)) | refine Dp Al (by first | exact ((hS).far hgr).1) ?_ (hv := by first | rfl | exact Bl | (rw [Array.getElem?_toList]; exact hcut)) | refine Dp Al (by first | exact ((hS).far hb).1) ?_ (hv := by first | rfl | exact Bl | (rw [Array.getElem?_toList]; exact hcut)) | refine Bi Al Ab hS ?_ (hv := by first | exact Bq _ _ (by (try simp only [Ca, Ce, Bz, List.length_append, List.length_set, zs_len, List.length_take, List.length_drop, List.length_cons, List.length_nil]); first | done | rfl | omega) | (exact hcut) | rfl) | refine Dq Al (by first | exact ((hS).far hgr).1) ?_ (hv := by first | exact Bq _ _ (by (try simp only [Ca, Ce, Bz, List.length_append, List.length_set, zs_len, List.length_take, List.length_drop, List.length_cons, List.length_nil]); first | done | rfl | omega) | (exact hcut) | rfl) | refine Dq Al (by first | exact ((hS).far hb).1) ?_ (hv := by first | exact Bq _ _ (by (try simp only [Ca, Ce, Bz, List.length_append, List.length_set, zs_len, List.length_take, List.length_drop, List.length_cons, List.length_nil]); first | done | rfl | omega) | (exact hcut) | rfl) | refine Ag Al ?_ | refine Af Al ?_ | refine Bs Al ?_ | refine Bx Al ?_ | refine Ao Al ?_ | refine Bw Al ?_ | refine Br Al ?_ | refine Be Al ?_ | refine Bg Al ?_ | refine Bv Al (fun hc => ?_) (fun hc => ?_) | refine Ay Al ?_ | refine Am Al ?_ | refine Aw Al ?_ | refine Ap Al ?_ | refine Ah Al ?_ | refine Ax Al ?_ (hv' := by first | rfl | exact Bl | (rw [Array.getElem?_toList]; exact hcut)) | refine Ar Al ?_ | refine Aj Al ?_ | refine Ae Al ?_ | refine Ai Al ?_ | refine Bp Al ?_ | refine Bo Al ?_ | refine Bu Al ?_ | refine Bc Al ?_ | refine As Al ?_ | refine Ak Al ?_ | refine Aq Al ?_ | refine Bj Al ?_ | refine Bk Al ?_) <;> refine Ac ?_) | ((first | refine Bh Al Ab hS ?_ | refine Bt Al Ab hS ?_ | refine Ba Al Ab hS ?_ | refine Bd Al Ab hS ?_); clear hS; intro b w hS; refine Ac ?_) | ((first | refine Av Al Ab hS ?_ | refine Au Al Ab hS ?_ | refine Bb Al Ab hS ?_); clear hS; intro w hS; refine Ac ?_) | (refine Cb Al Ab hS (shared_c _ _ _ _ _ hSh _) ?_; clear hS; intro w hS; refine Ac ?_)) | ((fail_if_success (with_reducible refine cons_in ?_)); first | gi_step | (with_reducible refine wpIn_scope_wide ?_) | (with_reducible refine wpIn_label ?_) | rw [Exit.noGoto_normal] | rw [Exit.noGoto_ret] | rw [Exit.noGoto_exit]))
            have hRd1 : Rd L0 W L w := hRd.trans (.call hRd.holds hS.below)
            have hyj := hY _ L w hJ hRd1 (fun n hn => by cases hn; exact hfg.2)
            dsimp only at hyj
            rw [hfg.1] at hyj
            (refine s_yield (by rfl) (by rfl) (by rfl) (by rfl) (by rfl) (by simpa using hyj) ?_)
            rintro e W3 ⟨L2, hRd2, (⟨rfl, hJ2⟩ | ⟨rfl, hx⟩)⟩
            · refine ⟨_, rfl, ?_⟩
              refine Ac ?_
              have hRd3 := hRd1.trans hRd2
              replace hS := St.start W3
              repeat' (first | ((with_reducible refine cons_in ?_); first | ((first | refine Bn Al ?_ | refine Bm Al ?_ | refine Az Al ?_ | refine Bf Al Ab hS ?_ | refine Bi Al Ab hS ?_ | refine Ag Al ?_ | refine Af Al ?_ | refine Bs Al ?_ | refine Bx Al ?_ | refine Ao Al ?_ | refine Bw Al ?_ | refine Br Al ?_ | refine Be Al ?_ | refine Bg Al ?_ | refine Bv Al (fun hc => ?_) (fun hc => ?_) | refine Ay Al ?_ | refine Am Al ?_ | refine Aw Al ?_ | refine Ap Al ?_ | refine Ah Al ?_ | refine Ax Al ?_ | refine Ar Al ?_ | refine Aj Al ?_ | refine Ae Al ?_ | refine Ai Al ?_ | refine Bp Al ?_ | refine Bo Al ?_ | refine Bu Al ?_ | refine Bc Al ?_ | refine As Al ?_ | refine Ak Al ?_ | refine Aq Al ?_ | refine Bj Al ?_ | refine Bk Al ?_) <;> refine Ac ?_) | ((first | refine Bh Al Ab hS ?_ | refine Bt Al Ab hS ?_ | refine Ba Al Ab hS ?_ | refine Bd Al Ab hS ?_); clear hS; intro b w hS; refine Ac ?_) | ((first | refine Av Al Ab hS ?_ | refine Au Al Ab hS ?_ | refine Bb Al Ab hS ?_); clear hS; intro w hS; refine Ac ?_)) | ((fail_if_success (with_reducible refine cons_in ?_)); first | gi_step | (with_reducible refine wpIn_scope_wide ?_) | (with_reducible refine wpIn_label ?_) | rw [Exit.noGoto_normal] | rw [Exit.noGoto_ret] | rw [Exit.noGoto_exit]))
              gi_roundg (gk - 1)
              case rel => exact ⟨k + 1, L2, by omega, by push_cast; rfl, by rw [hnx]; exact hJ2, hRd3⟩
              case measure => omega
            · refine ⟨_, rfl, ?_⟩
              refine Ac ?_
              have hRd3 := hRd1.trans hRd2
              replace hS := St.start W3
              repeat' (first | ((with_reducible refine cons_in ?_); first | ((first | refine Bn Al ?_ | refine Bm Al ?_ | refine Az Al ?_ | refine Bf Al Ab hS ?_ | refine Bi Al Ab hS ?_ | refine Ag Al ?_ | refine Af Al ?_ | refine Bs Al ?_ | refine Bx Al ?_ | refine Ao Al ?_ | refine Bw Al ?_ | refine Br Al ?_ | refine Be Al ?_ | refine Bg Al ?_ | refine Bv Al (fun hc => ?_) (fun hc => ?_) | refine Ay Al ?_ | refine Am Al ?_ | refine Aw Al ?_ | refine Ap Al ?_ | refine Ah Al ?_ | refine Ax Al ?_ | refine Ar Al ?_ | refine Aj Al ?_ | refine Ae Al ?_ | refine Ai Al ?_ | refine Bp Al ?_ | refine Bo Al ?_ | refine Bu Al ?_ | refine Bc Al ?_ | refine As Al ?_ | refine Ak Al ?_ | refine Aq Al ?_ | refine Bj Al ?_ | refine Bk Al ?_) <;> refine Ac ?_) | ((first | refine Bh Al Ab hS ?_ | refine Bt Al Ab hS ?_ | refine Ba Al Ab hS ?_ | refine Bd Al Ab hS ?_); clear hS; intro b w hS; refine Ac ?_) | ((first | refine Av Al Ab hS ?_ | refine Au Al Ab hS ?_ | refine Bb Al Ab hS ?_); clear hS; intro w hS; refine Ac ?_)) | ((fail_if_success (with_reducible refine cons_in ?_)); first | gi_step | (with_reducible refine wpIn_scope_wide ?_) | (with_reducible refine wpIn_label ?_) | rw [Exit.noGoto_normal] | rw [Exit.noGoto_ret] | rw [Exit.noGoto_exit]))
              refine bodyPost_end (results_none rfl _ _ _) rfl ?_
              exact ⟨⟨_, rfl⟩, L2, hRd3, .inr hx⟩
        · have hQ3 : Sh = false ∧ ¬ x1 = h := by simpa using hQ
          obtain ⟨rfl, hxh⟩ := hQ3
          have hqf : q (l.getD k (0, 0)) = false := by rw [hqx]; simpa using hQ
          have hnx : ((l.take (k + 1)).filter q).length = ((l.take k).filter q).length := by rw [hft, if_neg (by rw [hqf]; decide), List.append_nil]
          repeat' (first | ((with_reducible refine cons_in ?_); first | ((first | refine Bn Al ?_ | refine Bm Al ?_ | refine Az Al ?_ | refine Bf Al Ab hS ?_ (hv := by first | rfl | exact Bl | (rw [Array.getElem?_toList]; exact hcut)) | refine Dp Al (by first | exact ((hS).far hgr).1) ?_ (hv := by first | rfl | exact Bl | (rw [Array.getElem?_toList]; exact hcut)) | refine Dp Al (by first | exact ((hS).far hb).1) ?_ (hv := by first | rfl | exact Bl | (rw [Array.getElem?_toList]; exact hcut)) | refine Bi Al Ab hS ?_ (hv := by first | exact Bq _ _ (by (try simp only [Ca, Ce, Bz, List.length_append, List.length_set, zs_len, List.length_take, List.length_drop, List.length_cons, List.length_nil]); first | done | rfl | omega) | (exact hcut) | rfl) | refine Dq Al (by first | exact ((hS).far hgr).1) ?_ (hv := by first | exact Bq _ _ (by (try simp only [Ca, Ce, Bz, List.length_append, List.length_set, zs_len, List.length_take, List.length_drop, List.length_cons, List.length_nil]); first | done | rfl | omega) | (exact hcut) | rfl) | refine Dq Al (by first | exact ((hS).far hb).1) ?_ (hv := by first | exact Bq _ _ (by (try simp only [Ca, Ce, Bz, List.length_append, List.length_set, zs_len, List.length_take, List.length_drop, List.length_cons, List.length_nil]); first | done | rfl | omega) | (exact hcut) | rfl) | refine Ag Al ?_ | refine Af Al ?_ | refine Bs Al ?_ | refine Bx Al ?_ | refine Ao Al ?_ | refine Bw Al ?_ | refine Br Al ?_ | refine Be Al ?_ | refine Bg Al ?_ | refine Bv Al (fun hc => ?_) (fun hc => ?_) | refine Ay Al ?_ | refine Am Al ?_ | refine Aw Al ?_ | refine Ap Al ?_ | refine Ah Al ?_ | refine Ax Al ?_ (hv' := by first | rfl | exact Bl | (rw [Array.getElem?_toList]; exact hcut)) | refine Ar Al ?_ | refine Aj Al ?_ | refine Ae Al ?_ | refine Ai Al ?_ | refine Bp Al ?_ | refine Bo Al ?_ | refine Bu Al ?_ | refine Bc Al ?_ | refine As Al ?_ | refine Ak Al ?_ | refine Aq Al ?_ | refine Bj Al ?_ | refine Bk Al ?_) <;> refine Ac ?_) | ((first | refine Bh Al Ab hS ?_ | refine Bt Al Ab hS ?_ | refine Ba Al Ab hS ?_ | refine Bd Al Ab hS ?_); clear hS; intro b w hS; refine Ac ?_) | ((first | refine Av Al Ab hS ?_ | refine Au Al Ab hS ?_ | refine Bb Al Ab hS ?_); clear hS; intro w hS; refine Ac ?_) | (refine Cb Al Ab hS (shared_c _ _ _ _ _ hSh _) ?_; clear hS; intro w hS; refine Ac ?_)) | ((fail_if_success (with_reducible refine cons_in ?_)); first | gi_step | (with_reducible refine wpIn_scope_wide ?_) | (with_reducible refine wpIn_label ?_) | rw [Exit.noGoto_normal] | rw [Exit.noGoto_ret] | rw [Exit.noGoto_exit]))
          have hRd1 : Rd L0 W L w := hRd.trans (.call hRd.holds hS.below)
          gi_roundg (gk - 1)
          case rel => exact ⟨k + 1, L, by omega, by push_cast; rfl, by rw [hnx]; exact hJ, hRd1⟩
          case measure => omega
      · obtain rfl : k = l.length := by omega
        rw [List.take_length] at hJ
        repeat' (first | ((with_reducible refine cons_in ?_); first | ((first | refine Bn Al ?_ | refine Bm Al ?_ | refine Az Al ?_ | refine Bf Al Ab hS ?_ | refine Bi Al Ab hS ?_ | refine Ag Al ?_ | refine Af Al ?_ | refine Bs Al ?_ | refine Bx Al ?_ | refine Ao Al ?_ | refine Bw Al ?_ | refine Br Al ?_ | refine Be Al ?_ | refine Bg Al ?_ | refine Bv Al (fun hc => ?_) (fun hc => ?_) | refine Ay Al ?_ | refine Am Al ?_ | refine Aw Al ?_ | refine Ap Al ?_ | refine Ah Al ?_ | refine Ax Al ?_ | refine Ar Al ?_ | refine Aj Al ?_ | refine Ae Al ?_ | refine Ai Al ?_ | refine Bp Al ?_ | refine Bo Al ?_ | refine Bu Al ?_ | refine Bc Al ?_ | refine As Al ?_ | refine Ak Al ?_ | refine Aq Al ?_ | refine Bj Al ?_ | refine Bk Al ?_) <;> refine Ac ?_) | ((first | refine Bh Al Ab hS ?_ | refine Bt Al Ab hS ?_ | refine Ba Al Ab hS ?_ | refine Bd Al Ab hS ?_); clear hS; intro b w hS; refine Ac ?_) | ((first | refine Av Al Ab hS ?_ | refine Au Al Ab hS ?_ | refine Bb Al Ab hS ?_); clear hS; intro w hS; refine Ac ?_)) | ((fail_if_success (with_reducible refine cons_in ?_)); first | gi_step | (with_reducible refine wpIn_scope_wide ?_) | (with_reducible refine wpIn_label ?_) | rw [Exit.noGoto_normal] | rw [Exit.noGoto_ret] | rw [Exit.noGoto_exit]))
        refine bodyPost_end (results_none rfl _ _ _) rfl ?_
        exact ⟨⟨_, rfl⟩, L, hRd.trans (.call hRd.holds hS.below), .inl ⟨_, by rw [List.length_map], hJ⟩⟩
theorem RegsAt.rgB_lt {w : World} {v : Value} {l : List Rg} (h : RegsAt w v l) : ∀ b ∈ rgB l v, b < w.heap.size := by
  intro b hb
  unfold rgB at hb
  split at hb
  · cases hb
  · next hn =>
    obtain ⟨p, c, h1, h2, h3, h4⟩ := h
    obtain ⟨b', o, cs, t, fr, e1, e2, e3⟩ := h4 hn
    rw [h1, e1] at hb
    obtain rfl := List.mem_singleton.1 hb
    exact blk_lt e2
theorem contains_of {l : List Int} {x : Int} {k : Nat} (hk : k < l.length) (h : l.getD k 0 = x) : l.contains x = true := by
  rw [List.contains_iff_mem]
  rw [List.getD_eq_getElem?_getD, List.getElem?_eq_getElem hk] at h
  rw [← h]
  exact List.getElem_mem hk
theorem contains_none {l : List Int} {x : Int} (h : ∀ j, j < l.length → l.getD j 0 ≠ x) : l.contains x = false := by
  rw [Bool.eq_false_iff]
  intro hc
  rw [List.contains_iff_mem] at hc
  obtain ⟨j, hj, rfl⟩ := List.getElem_of_mem hc
  refine h j hj ?_
  rw [List.getD_eq_getElem?_getD, List.getElem?_eq_getElem hj]; rfl
set_option maxRecDepth 100000 in
set_option maxHeartbeats 8000000 in
theorem holds_any (l : List Rg) (v : Value) (h t g who : Int) (s : Bool) (w0 : World) (hv : RegsAt w0 v l) (hm : l.length ≤ 1000) :
    Calls Try.prog 44 #[.agg #[v, .int .i64 h, .int .i64 t, .bool s, .int .i64 g], .int .i64 who] w0 fun e w' => e = .returned (.bool ((holdL l h t).contains who)) ∧ Below w0.heap.size w0 w' := by
  have hlt0 := hv.rgB_lt
  obtain ⟨HL, hHL⟩ : ∃ HL, holdL l h t = HL := ⟨_, rfl⟩
  rw [hHL]
  have hS := St.start w0
  refine calls_of_marksR Try.func44 rfl ?_
  simp only [Try.ntmps44, List.size_toArray, List.length_cons, List.length_nil, Nat.reduceAdd, Nat.reduceSub, Array.replicate_succ, Array.replicate_zero, List.push_toArray, List.append_toArray, List.nil_append, List.cons_append]
  repeat' (first | ((with_reducible refine Ad ?_); first | ((first | refine Bn Aa ?_ | refine Bm Aa ?_ | refine Az Aa ?_ | refine Bf Aa Ab hS ?_ | refine Bi Aa Ab hS ?_ | refine Ag Aa ?_ | refine Af Aa ?_ | refine Bs Aa ?_ | refine Bx Aa ?_ | refine Ao Aa ?_ | refine Bw Aa ?_ | refine Br Aa ?_ | refine Be Aa ?_ | refine Bg Aa ?_ | refine Bv Aa (fun hc => ?_) (fun hc => ?_) | refine Ay Aa ?_ | refine Am Aa ?_ | refine Aw Aa ?_ | refine Ap Aa ?_ | refine Ah Aa ?_ | refine Ax Aa ?_ | refine Ar Aa ?_ | refine Aj Aa ?_ | refine Ae Aa ?_ | refine Ai Aa ?_ | refine Bp Aa ?_ | refine Bo Aa ?_ | refine Bu Aa ?_ | refine Bc Aa ?_ | refine As Aa ?_ | refine Ak Aa ?_ | refine Aq Aa ?_ | refine Bj Aa ?_ | refine Bk Aa ?_) <;> refine Ac ?_) | ((first | refine Bh Aa Ab hS ?_ | refine Bt Aa Ab hS ?_ | refine Ba Aa Ab hS ?_ | refine Bd Aa Ab hS ?_); clear hS; intro b w hS; refine Ac ?_) | ((first | refine Av Aa Ab hS ?_ | refine Au Aa Ab hS ?_ | refine Bb Aa Ab hS ?_); clear hS; intro w hS; refine Ac ?_)) | ((fail_if_success (with_reducible refine Ad ?_)); first | go_step | go_step3 | rw [Exit.noGoto_normal] | rw [Exit.noGoto_ret] | rw [Exit.noGoto_exit]))
  rename_i br x1 bw x2 x3 x4 x5 x6
  refine s_call Aa (by rfl) (by rfl) (by rfl) (by rfl) (by rfl) (by infer_instance) (holders_any v h t g s _) ?_
  rintro e w1 ⟨gs, rfl, hs1, hs2, hs3⟩
  refine ⟨_, rfl, ?_⟩
  refine Ac ?_
  replace hS := Ab.new hS hs3 hs1 hs2
  repeat' (first | ((with_reducible refine Ad ?_); first | ((first | refine Bn Aa ?_ | refine Bm Aa ?_ | refine Az Aa ?_ | refine Bf Aa Ab hS ?_ | refine Bi Aa Ab hS ?_ | refine Ag Aa ?_ | refine Af Aa ?_ | refine Bs Aa ?_ | refine Bx Aa ?_ | refine Ao Aa ?_ | refine Bw Aa ?_ | refine Br Aa ?_ | refine Be Aa ?_ | refine Bg Aa ?_ | refine Bv Aa (fun hc => ?_) (fun hc => ?_) | refine Ay Aa ?_ | refine Am Aa ?_ | refine Aw Aa ?_ | refine Ap Aa ?_ | refine Ah Aa ?_ | refine Ax Aa ?_ | refine Ar Aa ?_ | refine Aj Aa ?_ | refine Ae Aa ?_ | refine Ai Aa ?_ | refine Bp Aa ?_ | refine Bo Aa ?_ | refine Bu Aa ?_ | refine Bc Aa ?_ | refine As Aa ?_ | refine Ak Aa ?_ | refine Aq Aa ?_ | refine Bj Aa ?_ | refine Bk Aa ?_) <;> refine Ac ?_) | ((first | refine Bh Aa Ab hS ?_ | refine Bt Aa Ab hS ?_ | refine Ba Aa Ab hS ?_ | refine Bd Aa Ab hS ?_); clear hS; intro b w hS; refine Ac ?_) | ((first | refine Av Aa Ab hS ?_ | refine Au Aa Ab hS ?_ | refine Bb Aa Ab hS ?_); clear hS; intro w hS; refine Ac ?_)) | ((fail_if_success (with_reducible refine Ad ?_)); first | go_step | go_step3 | rw [Exit.noGoto_normal] | rw [Exit.noGoto_ret] | rw [Exit.noGoto_exit]))
  have hit := holders1_iter l v h t g s gs w1 (hS.blk 0 rfl) (hv.below hS.below) hm
  rw [hHL] at hit
  have hSL := (Ab.drop hS).take 2
  simp only [List.take_succ_cons, List.take_zero] at hSL
  refine wp_range_plain (els := fun k => #[.int .i64 (HL.getD k 0)]) (N := some HL.length) (R := gs :: rgB l v) (gf := 42) (lb := #[.pointer (some ⟨gs, 0, none⟩)]) (by rfl) (by intro args w; kernel_rfl) hit (Below.refl _ _) (fun _ => rfl)
    (fun k L => k ≤ HL.length ∧ (∀ j, j < k → HL.getD j 0 ≠ who) ∧ L = [(b, #[.bool false], 4), (bw, #[.int .i64 who], 3)])
    (fun c L => c = .ret ∧ (∃ j, j < HL.length ∧ HL.getD j 0 = who) ∧ L = [(b, #[.bool true], 4), (bw, #[.int .i64 who], 3)]) 0 (fun h => by cases h) [(b, #[.bool false], 4), (bw, #[.int .i64 who], 3)] ?I0 ?H0 ?R0 ?act1 ?assign ?body ?done ?stop
  case I0 => exact ⟨by omega, fun j hj => by omega, rfl⟩
  case H0 => exact hSL.holds
  case R0 =>
    intro x hx
    rcases List.mem_cons.1 hx with rfl | hx
    · refine ⟨hS.lt 0 rfl, ?_⟩
      simp only [List.map_cons, List.map_nil, List.mem_cons, List.not_mem_nil, or_false, not_or]
      exact ⟨hS.ne 0 1 rfl rfl (by decide), hS.ne 0 2 rfl rfl (by decide)⟩
    · have h1 := hlt0 x hx
      have h2 := hS.low 1 rfl
      have h3 := hS.low 2 rfl
      refine ⟨Nat.lt_of_lt_of_le h1 hS.below.size, ?_⟩
      simp only [List.map_cons, List.map_nil, List.mem_cons, List.not_mem_nil, or_false, not_or]
      exact ⟨by omega, by omega⟩
  case assign =>
    intro l0 k L W hI hIn K hK
    have hS := hIn.round
    simp only [List.zip_toArray, List.zip_cons_cons, List.zip_nil_right, List.foldl_toArray', List.foldl_cons, List.foldl_nil, List.setIfInBounds_toArray, List.set_cons_zero, List.set_cons_succ]
    repeat' (first | ((with_reducible refine cons_in ?_); first | ((first | refine Bn Cu ?_ | refine Bm Cu ?_ | refine Az Cu ?_ | refine Bf Cu own_in hS ?_ | refine Bi Cu own_in hS ?_ | refine Ag Cu ?_ | refine Af Cu ?_ | refine Bs Cu ?_ | refine Bx Cu ?_ | refine Ao Cu ?_ | refine Bw Cu ?_ | refine Br Cu ?_ | refine Be Cu ?_ | refine Bg Cu ?_ | refine Bv Cu (fun hc => ?_) (fun hc => ?_) | refine Ay Cu ?_ | refine Am Cu ?_ | refine Aw Cu ?_ | refine Ap Cu ?_ | refine Ah Cu ?_ | refine Ax Cu ?_ | refine Ar Cu ?_ | refine Aj Cu ?_ | refine Ae Cu ?_ | refine Ai Cu ?_ | refine Bp Cu ?_ | refine Bo Cu ?_ | refine Bu Cu ?_ | refine Bc Cu ?_ | refine As Cu ?_ | refine Ak Cu ?_) <;> refine Ac ?_) | ((first | refine Bh Cu own_in hS ?_ | refine Bt Cu own_in hS ?_ | refine Ba Cu own_in hS ?_ | refine Bd Cu own_in hS ?_); clear hS; intro b w hS; refine Ac ?_) | ((first | refine Av Cu own_in hS ?_ | refine Au Cu own_in hS ?_); clear hS; intro w hS; refine Ac ?_)) | ((fail_if_success (with_reducible refine cons_in ?_)); first | gi_step | (with_reducible refine wpIn_scope_wide ?_) | (with_reducible refine wpIn_label ?_) | rw [Exit.noGoto_normal] | rw [Exit.noGoto_ret] | rw [Exit.noGoto_exit]))
    exact hK _ hS
  case body =>
    rintro l0 k L W ⟨hk, hno, rfl⟩ hIn hN
    have hlt := hN _ rfl
    have hSW := hSL.range hIn
    have hS := hIn.round
    by_cases hw : HL.getD k 0 = who
    · repeat' (first | ((with_reducible refine cons_in ?_); first | ((first | refine Bn Cu ?_ | refine Bm Cu ?_ | refine Az Cu ?_ | refine Bf Cu own_in hS ?_ | refine Bi Cu own_in hS ?_ | refine Ag Cu ?_ | refine Af Cu ?_ | refine Bs Cu ?_ | refine Bx Cu ?_ | refine Ao Cu ?_ | refine Bw Cu ?_ | refine Br Cu ?_ | refine Be Cu ?_ | refine Bg Cu ?_ | refine Bv Cu (fun hc => ?_) (fun hc => ?_) | refine Ay Cu ?_ | refine Am Cu ?_ | refine Aw Cu ?_ | refine Ap Cu ?_ | refine Ah Cu ?_ | refine Ax Cu ?_ | refine Ar Cu ?_ | refine Aj Cu ?_ | refine Ae Cu ?_ | refine Ai Cu ?_ | refine Bp Cu ?_ | refine Bo Cu ?_ | refine Bu Cu ?_ | refine Bc Cu ?_ | refine As Cu ?_ | refine Ak Cu ?_) <;> refine Ac ?_) | ((first | refine Bh Cu own_in hS ?_ | refine Bt Cu own_in hS ?_ | refine Ba Cu own_in hS ?_ | refine Bd Cu own_in hS ?_); clear hS; intro b w hS; refine Ac ?_) | ((first | refine Av Cu own_in hS ?_ | refine Au Cu own_in hS ?_); clear hS; intro w hS; refine Ac ?_)) | ((fail_if_success (with_reducible refine cons_in ?_)); first | gi_step | (with_reducible refine wpIn_scope_wide ?_) | (with_reducible refine wpIn_label ?_) | rw [Exit.noGoto_normal] | rw [Exit.noGoto_ret] | rw [Exit.noGoto_exit]))
      exact ⟨_, hS, rfl, ⟨k, hlt, hw⟩, rfl⟩
    · repeat' (first | ((with_reducible refine cons_in ?_); first | ((first | refine Bn Cu ?_ | refine Bm Cu ?_ | refine Az Cu ?_ | refine Bf Cu own_in hS ?_ | refine Bi Cu own_in hS ?_ | refine Ag Cu ?_ | refine Af Cu ?_ | refine Bs Cu ?_ | refine Bx Cu ?_ | refine Ao Cu ?_ | refine Bw Cu ?_ | refine Br Cu ?_ | refine Be Cu ?_ | refine Bg Cu ?_ | refine Bv Cu (fun hc => ?_) (fun hc => ?_) | refine Ay Cu ?_ | refine Am Cu ?_ | refine Aw Cu ?_ | refine Ap Cu ?_ | refine Ah Cu ?_ | refine Ax Cu ?_ | refine Ar Cu ?_ | refine Aj Cu ?_ | refine Ae Cu ?_ | refine Ai Cu ?_ | refine Bp Cu ?_ | refine Bo Cu ?_ | refine Bu Cu ?_ | refine Bc Cu ?_ | refine As Cu ?_ | refine Ak Cu ?_) <;> refine Ac ?_) | ((first | refine Bh Cu own_in hS ?_ | refine Bt Cu own_in hS ?_ | refine Ba Cu own_in hS ?_ | refine Bd Cu own_in hS ?_); clear hS; intro b w hS; refine Ac ?_) | ((first | refine Av Cu own_in hS ?_ | refine Au Cu own_in hS ?_); clear hS; intro w hS; refine Ac ?_)) | ((fail_if_success (with_reducible refine cons_in ?_)); first | gi_step | (with_reducible refine wpIn_scope_wide ?_) | (with_reducible refine wpIn_label ?_) | rw [Exit.noGoto_normal] | rw [Exit.noGoto_ret] | rw [Exit.noGoto_exit]))
      exact ⟨_, hS, by omega, fun j hj => by
        by_cases hjk : j = k
        · subst hjk; exact hw
        · exact hno j (by omega), rfl⟩
  case done =>
    rintro D N1 L W hm' ⟨hk, hno, rfl⟩ hIn hD hD0
    obtain rfl : HL.length = N1 := Option.some.inj hm'
    have hS : StD w0 D W _ := ⟨hSL.range hIn, hD⟩
    have hDw : w0.heap.size ≤ D := Nat.le_trans hSL.below.size hD0
    clear hit hIn
    repeat' (first | ((with_reducible refine Ad ?_); first | ((first | refine Bn Aa ?_ | refine Bm Aa ?_ | refine Az Aa ?_ | refine Bf Aa own_stD hS ?_ | refine Bi Aa own_stD hS ?_ | refine Ag Aa ?_ | refine Af Aa ?_ | refine Bs Aa ?_ | refine Bx Aa ?_ | refine Ao Aa ?_ | refine Bw Aa ?_ | refine Br Aa ?_ | refine Be Aa ?_ | refine Bg Aa ?_ | refine Bv Aa (fun hc => ?_) (fun hc => ?_) | refine Ay Aa ?_ | refine Am Aa ?_ | refine Aw Aa ?_ | refine Ap Aa ?_ | refine Ah Aa ?_ | refine Ax Aa ?_ | refine Ar Aa ?_ | refine Aj Aa ?_ | refine Ae Aa ?_ | refine Ai Aa ?_ | refine Bp Aa ?_ | refine Bo Aa ?_ | refine Bu Aa ?_ | refine Bc Aa ?_ | refine As Aa ?_ | refine Ak Aa ?_) <;> refine Ac ?_) | ((first | refine Bh Aa own_stD hS ?_ | refine Bt Aa own_stD hS ?_ | refine Ba Aa own_stD hS ?_ | refine Bd Aa own_stD hS ?_); clear hS; intro b w hS; refine Ac ?_) | ((first | refine Av Aa own_stD hS ?_ | refine Au Aa own_stD hS ?_); clear hS; intro w hS; refine Ac ?_)) | ((fail_if_success (with_reducible refine Ad ?_)); first | go_step | go_step3 | rw [Exit.noGoto_normal] | rw [Exit.noGoto_ret] | rw [Exit.noGoto_exit]))
    refine postMR (.inl rfl) rfl hS.2 ?_
    have hS3 := hS.shut hDw
    have hc := (hS3.at 0 rfl).2.1 0
    exact bodyPost_ret (v := .bool false) (by simp [results, Try.results44, go_sem, hc]) rfl ⟨by rw [contains_none hno], hS3.below⟩
  case stop =>
    rintro D c L W ⟨rfl, ⟨j, hj, hjw⟩, rfl⟩ hIn hD hD0
    have hS : StD w0 D W _ := ⟨hSL.range hIn, hD⟩
    have hDw : w0.heap.size ≤ D := Nat.le_trans hSL.below.size hD0
    clear hit hIn
    repeat' (first | ((with_reducible refine Ad ?_); first | ((first | refine Bn Aa ?_ | refine Bm Aa ?_ | refine Az Aa ?_ | refine Bf Aa own_stD hS ?_ | refine Bi Aa own_stD hS ?_ | refine Ag Aa ?_ | refine Af Aa ?_ | refine Bs Aa ?_ | refine Bx Aa ?_ | refine Ao Aa ?_ | refine Bw Aa ?_ | refine Br Aa ?_ | refine Be Aa ?_ | refine Bg Aa ?_ | refine Bv Aa (fun hc => ?_) (fun hc => ?_) | refine Ay Aa ?_ | refine Am Aa ?_ | refine Aw Aa ?_ | refine Ap Aa ?_ | refine Ah Aa ?_ | refine Ax Aa ?_ | refine Ar Aa ?_ | refine Aj Aa ?_ | refine Ae Aa ?_ | refine Ai Aa ?_ | refine Bp Aa ?_ | refine Bo Aa ?_ | refine Bu Aa ?_ | refine Bc Aa ?_ | refine As Aa ?_ | refine Ak Aa ?_) <;> refine Ac ?_) | ((first | refine Bh Aa own_stD hS ?_ | refine Bt Aa own_stD hS ?_ | refine Ba Aa own_stD hS ?_ | refine Bd Aa own_stD hS ?_); clear hS; intro b w hS; refine Ac ?_) | ((first | refine Av Aa own_stD hS ?_ | refine Au Aa own_stD hS ?_); clear hS; intro w hS; refine Ac ?_)) | ((fail_if_success (with_reducible refine Ad ?_)); first | go_step | go_step3 | rw [Exit.noGoto_normal] | rw [Exit.noGoto_ret] | rw [Exit.noGoto_exit]))
    refine postMR (.inl rfl) rfl hS.2 ?_
    have hS3 := hS.shut hDw
    have hc := (hS3.at 0 rfl).2.1 0
    exact bodyPost_ret (v := .bool true) (by simp [results, Try.results44, go_sem, hc]) rfl ⟨by rw [contains_of hj hjw], hS3.below⟩
end Go.Proofs.Ytkfggilildiflac
