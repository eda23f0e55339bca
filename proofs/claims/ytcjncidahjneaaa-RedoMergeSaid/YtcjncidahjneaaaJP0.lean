/-
  Laws that the claims of this seat use, of several texts in one: IterL, RmC, RmD, RmE. No condition of their own.
-/
import Derived.Sort.MapsRangeIn
import Derived.LoopIn
import Derived.Test.YtcjncidahjneaaaJO0

namespace Go.Proofs.Ytcjncidahjneaaa
open Go.RowKit
/-- **An iterator's contract, its order its own.** It hands over 'arg x' for such x as may come behind those that have come (nxt), till there is none (fin). R: blocks that it reads. -/
def IterL (P : Program) (gf : Nat) (lb : Array Value) {α : Type} (arg : α → Array Value) (nxt : List α → α → Prop) (fin : List α → Prop) (R : List Nat) (W0 : World) : Prop :=
  ∀ (l : Nat) (J : List α → List (Nat × Obj) → Prop) (Jx : List (Nat × Obj) → Prop) (W : World) (L0 : List (Nat × Obj)),
    Below W0.heap.size W0 W → (∀ b ∈ R, b ∉ L0.map (·.1)) → J [] L0 → Holds W L0 →
    (∀ k x L W1, J k L → Rd L0 W L W1 → nxt k x →
      YieldAt Fence.wide 0 P l (arg x) W1 fun e W2 => ∃ L2, Rd L W1 L2 W2 ∧ ((e = .returned (.bool true) ∧ J (k ++ [x]) L2) ∨ (e = .returned (.bool false) ∧ Jx L2))) →
    Calls P gf (#[.func (.yield l) #[] #[]] ++ lb) W fun e W' => (∃ v, e = .returned v) ∧ ∃ L', Rd L0 W L' W' ∧ ((∃ k, fin k ∧ J k L') ∨ Jx L')
/-- **The loop 'for .. := range g { .. }' over an iterator that has its contract; the round's variables may lie in blocks of their own.** -/
theorem wp_range2L {P : Program} {g : Operand} {ps : Array Tmp} {assign body : Code} {Q : Exit → Act → World → Prop} {a : Act} {w : World}
    {gf : Nat} {lb : Array Value} (hg : a.eval g = .func (.func gf) #[] lb) (eg : ∀ args w, (callFunc gf args).run P w = .ok (.enter gf args) w)
    {α : Type} {arg : α → Array Value} {nxt : List α → α → Prop} {fin : List α → Prop} {R : List Nat} {W0 : World} (hit : IterL P gf lb arg nxt fin R W0) (hb0 : Below W0.heap.size W0 w) (hps : ∀ x, (arg x).size = ps.size)
    (I : List α → List (Nat × Array Value × TypeId) → Prop) (Ix : Code → List (Nat × Array Value × TypeId) → Prop)
    (L0 : List (Nat × Array Value × TypeId)) (h0 : I [] L0) (hH : Holds w (objs L0)) (hR : ∀ b ∈ R, b < w.heap.size ∧ b ∉ L0.map (·.1)) (A : List α → α → List (Nat × Array Value × TypeId) → List (Nat × Array Value × TypeId) → Act → Prop)
    (hassign : ∀ (l : Nat) (k : List α) (x : α) (L : List (Nat × Array Value × TypeId)) (W : World), I k L → nxt k x → In L0 w L W → ∀ K : Act → World → Prop, (∀ a1 L' W', In L W L' W' → A k x L L' a1 → K a1 W') →
      assign.wpIn (Fence.wide.inRound l) 0 P (Exit.then K (fun _ _ _ => False)) { tmps := (ps.zip (arg x)).foldl (fun t (p, v) => t.setIfInBounds p v) a.tmps, defers := [] } W)
    (hbody : ∀ (l : Nat) (k : List α) (x : α) (L L' : List (Nat × Array Value × TypeId)) (a1 : Act) (W : World), I k L → A k x L L' a1 → In L0 w L' W → nxt k x → body.wpIn (Fence.wide.inRound l) 0 P (roundEnd (I (k ++ [x])) Ix L' W) a1 W)
    (hdone : ∀ (D : Nat) (n : List α) (L : List (Nat × Array Value × TypeId)) (W : World), fin n → I n L → In L0 w L W → W.heap[D]? = some (.deferred (some [])) → w.heap.size ≤ D → Q .normal { a with defers := { target := .collected D, args := #[] } :: a.defers } W)
    (hstop : ∀ (D : Nat) (c : Code) (L : List (Nat × Array Value × TypeId)) (W : World), Ix c L → In L0 w L W → W.heap[D]? = some (.deferred (some [])) → w.heap.size ≤ D → c.wp P Q { a with defers := { target := .collected D, args := #[] } :: a.defers } W) :
    (Code.rangeFunc g ps assign body).wp P Q a w := by
  refine (wpIn_wide (n := 0)).1 (wpIn_rangeFunc ?_)
  intro fn hfn
  obtain ⟨rec, hrec⟩ : ∃ rec : LoopState → Option Code → Loop, rec = fun st pe => { state := st, pending := pe, fn, tmps := a.tmps, params := ps, assign, body, defers := w.heap.size } := ⟨_, rfl⟩
  obtain ⟨W1, hW1⟩ : ∃ W1, (w.alloc (.deferred (some []))).alloc (.loop (rec .ready none)) = W1 := ⟨_, rfl⟩
  have hL1 : W1.heap[w.heap.size + 1]? = some (.loop (rec .ready none)) := by
    rw [← hW1]; have := World.alloc_heap_new (w.alloc (.deferred (some []))) (.loop (rec .ready none)); rwa [World.size_alloc] at this
  have hK1 : W1.heap[w.heap.size]? = some (.deferred (some [])) := by
    rw [← hW1]; exact (Below.heap_alloc _ _ _ (by simp)).trans (World.alloc_heap_new w _)
  have hbW : Below w.heap.size w W1 := by rw [← hW1]; exact ((Below.refl _ w).alloc (Nat.le_refl _) _).alloc (by simp) _
  have hb1 : Below W0.heap.size W0 W1 := hb0.trans (hbW.mono hb0.size)
  have hHk : Holds W1 (objs L0) := hH.kept (B := []) (Kept.of_below hbW) (fun _ _ => List.not_mem_nil)
  have hn1 : ∀ m, w.heap.size ≤ m → m ∉ L0.map (·.1) := fun m hm0 hm => by
    rw [← objs_keys] at hm
    obtain ⟨x, hx, he⟩ := List.mem_map.1 hm
    have := hH.lt hx; omega
  have hF0 : Holds W1 ([(w.heap.size + 1, .loop (rec .ready none)), (w.heap.size, .deferred (some []))] ++ objs L0) := by
    refine ⟨fun x hx => ?_, ?_⟩
    · simp only [List.cons_append, List.nil_append, List.mem_cons] at hx
      rcases hx with rfl | rfl | hx
      · exact hL1
      · exact hK1
      · exact hHk.1 x hx
    · have := hH.2
      rw [objs_keys] at this
      simp only [List.cons_append, List.nil_append, List.map_cons, objs_keys, List.nodup_cons, List.mem_cons, not_or]
      exact ⟨⟨by omega, hn1 _ (by omega)⟩, hn1 _ (Nat.le_refl _), this⟩
  have hE0 : ∀ x ∈ [(w.heap.size + 1, Obj.loop (rec .ready none)), (w.heap.size, .deferred (some []))], w.heap.size ≤ x.1 := by
    intro x hx
    simp only [List.mem_cons, List.not_mem_nil, or_false] at hx
    rcases hx with rfl | rfl
    · exact Nat.le_succ _
    · exact Nat.le_refl _
  refine ⟨w.heap.size + 1, [{ target := .collected w.heap.size, args := #[] }], W1, { target := .fn (.func gf) lb, args := #[.func (.yield (w.heap.size + 1)) #[] #[]] }, W1, gf,
    #[.func (.yield (w.heap.size + 1)) #[] #[]] ++ lb, W1, ?_, ?_, fun _ _ => trivial, ?_, (fun h => by cases h), ?_⟩
  · rw [← hW1, hrec]; exact run_enterLoop_outer _ _ _ _ _
  · simp only [resolve, hg]
    simp [go_sem]
  · simp [invoke, go_sem, eg]
  · refine callsIn_wide.2 ?_
    refine (hit (w.heap.size + 1)
      (fun k L' => ∃ L, L' = [(w.heap.size + 1, .loop (rec .ready none)), (w.heap.size, .deferred (some []))] ++ objs L ∧ I k L)
      (fun L' => ∃ L c, L' = [(w.heap.size + 1, .loop (rec .done (some c))), (w.heap.size, .deferred (some []))] ++ objs L ∧ Ix c L)
      W1 ([(w.heap.size + 1, .loop (rec .ready none)), (w.heap.size, .deferred (some []))] ++ objs L0) hb1 ?_ ⟨L0, rfl, h0⟩ hF0 ?_).mono ?_
    · intro b hb
      obtain ⟨h1, h2⟩ := hR b hb
      simp only [List.cons_append, List.nil_append, List.map_cons, objs_keys, List.mem_cons, not_or]
      exact ⟨by omega, by omega, h2⟩
    · -- ONE ROUND
      rintro k x L' W ⟨L, rfl, hI⟩ hRd hkn
      have hl : W.heap[w.heap.size + 1]? = some (.loop (rec .ready none)) := hRd.holds.1 _ (List.mem_cons_self ..)
      have hy := run_yield (P := P) (args := arg x) hl (by rw [hrec]; exact hps x)
      rw [hrec] at hy
      have hIn0 : In L0 w L W := in_of_full (E0 := [(w.heap.size + 1, .loop (rec .ready none)), (w.heap.size, .deferred (some []))]) (E := [(w.heap.size + 1, .loop (rec .ready none)), (w.heap.size, .deferred (some []))]) hbW rfl hE0 hRd
      refine ⟨fn, _, assign, body, hy, roundIn_of_wpIn hfn (hassign _ k x L W hI hkn hIn0 _ fun a1 L' W' hA hAA => ?_)⟩
      have hfA := Rd.frame (E := [(w.heap.size + 1, .loop (rec .ready none)), (w.heap.size, .deferred (some []))]) hA.rd hRd.holds
      have hl' : W'.heap[w.heap.size + 1]? = some (.loop (rec .ready none)) := hfA.holds.1 _ (List.mem_cons_self ..)
      refine ⟨_, run_beginRound hl' (by rw [hrec]), ?_⟩
      have hRd2 := Rd.put (L := (w.heap.size, .deferred (some [])) :: objs L') (hRd.trans hfA) (.loop { rec .ready none with state := .busy })
      have hs2 := Rd.put (L := (w.heap.size, .deferred (some [])) :: objs L') hfA (.loop { rec .ready none with state := .busy })
      generalize W'.putObj (w.heap.size + 1) (.loop { rec .ready none with state := .busy }) = W2 at *
      have hIn : In L0 w L' W2 := in_of_full (E0 := [(w.heap.size + 1, .loop (rec .ready none)), (w.heap.size, .deferred (some []))]) (E := [(w.heap.size + 1, .loop { rec .ready none with state := .busy }), (w.heap.size, .deferred (some []))]) hbW rfl hE0 hRd2
      refine wpIn_mono (hbody _ k x L L' a1 W2 hI hAA hIn hkn) ?_
      have fin : ∀ (jump : Option Code) (L2 : List (Nat × Array Value × TypeId)) (W3 : World), In L' W2 L2 W3 →
          ∃ W4, (Instr.endRound (w.heap.size + 1) jump).run P W3 = .ok (.bool jump.isNone) W4 ∧
            Rd ([(w.heap.size + 1, .loop (rec .ready none)), (w.heap.size, .deferred (some []))] ++ objs L) W ([(w.heap.size + 1, .loop (rec (if jump.isNone then .ready else .done) jump)), (w.heap.size, .deferred (some []))] ++ objs L2) W4 := fun jump L2 W3 h3 => by
        have hf := Rd.frame (E := [(w.heap.size + 1, .loop { rec .ready none with state := .busy }), (w.heap.size, .deferred (some []))]) h3.rd hRd2.holds
        have hl3 : W3.heap[w.heap.size + 1]? = some (.loop { rec .ready none with state := .busy }) := hf.holds.1 _ (List.mem_cons_self ..)
        have hr := run_endRound (P := P) jump hl3
        refine ⟨_, hr, ?_⟩
        have h5 := Rd.put (L := (w.heap.size, .deferred (some [])) :: objs L2) (hs2.trans hf) (.loop (rec (if jump.isNone then .ready else .done) jump))
        rw [hrec] at h5 ⊢
        exact h5
      rintro e a3 W3 hp
      cases e with
      | normal =>
        obtain ⟨L2, h3, hi3⟩ := hp
        obtain ⟨W4, hr, h4⟩ := fin none L2 W3 h3
        exact ⟨_, _, hr, _, h4, .inl ⟨rfl, L2, rfl, hi3⟩⟩
      | ret =>
        obtain ⟨L2, h3, hi3⟩ := hp
        obtain ⟨W4, hr, h4⟩ := fin (some .ret) L2 W3 h3
        exact ⟨_, _, hr, _, h4, .inr ⟨rfl, L2, .ret, rfl, hi3⟩⟩
      | exit id =>
        obtain ⟨L2, h3, hi3⟩ := hp
        obtain ⟨W4, hr, h4⟩ := fin (some (.exit id)) L2 W3 h3
        exact ⟨_, _, hr, _, h4, .inr ⟨rfl, L2, .exit id, rfl, hi3⟩⟩
      | goto t =>
        obtain ⟨L2, h3, hi3⟩ := hp
        obtain ⟨W4, hr, h4⟩ := fin (some (.goto t)) L2 W3 h3
        exact ⟨_, _, hr, _, h4, .inr ⟨rfl, L2, .goto t, rfl, hi3⟩⟩
      | panic ch => exact hp.elim
      | outgrown => exact hp.elim
    · -- BEHIND THE ITERATOR
      rintro e W2 ⟨⟨v, rfl⟩, L', hRd, (⟨n, hN, L, rfl, hI⟩ | ⟨L, c, rfl, hI⟩)⟩
      · have hl : W2.heap[w.heap.size + 1]? = some (.loop (rec .ready none)) := hRd.holds.1 _ (List.mem_cons_self ..)
        have hr := run_endLoop (P := P) hl (by rw [hrec]; simp)
        have hR2 := Rd.put (L := (w.heap.size, .deferred (some [])) :: objs L) hRd (.loop (rec .exhausted (none)))
        rw [show ({ rec .ready none with state := .exhausted } : Loop) = rec .exhausted (none) by rw [hrec], show (rec .ready none).pending = none by rw [hrec]] at hr
        refine ⟨none, _, hr, ?_⟩
        exact hdone w.heap.size n L _ hN hI (in_of_full (E0 := [(w.heap.size + 1, .loop (rec .ready none)), (w.heap.size, .deferred (some []))]) (E := [(w.heap.size + 1, .loop (rec .exhausted (none))), (w.heap.size, .deferred (some []))]) hbW rfl hE0 hR2) (hR2.holds.1 _ (List.mem_cons_of_mem _ (List.mem_cons_self ..))) (Nat.le_refl _)
      · have hl : W2.heap[w.heap.size + 1]? = some (.loop (rec .done (some c))) := hRd.holds.1 _ (List.mem_cons_self ..)
        have hr := run_endLoop (P := P) hl (by rw [hrec]; simp)
        have hR2 := Rd.put (L := (w.heap.size, .deferred (some [])) :: objs L) hRd (.loop (rec .exhausted (some c)))
        rw [show ({ rec .done (some c) with state := .exhausted } : Loop) = rec .exhausted (some c) by rw [hrec], show (rec .done (some c)).pending = some c by rw [hrec]] at hr
        refine ⟨some c, _, hr, ?_⟩
        exact (wpIn_wide (n := 0)).2 (hstop w.heap.size c L _ hI (in_of_full (E0 := [(w.heap.size + 1, .loop (rec .ready none)), (w.heap.size, .deferred (some []))]) (E := [(w.heap.size + 1, .loop (rec .exhausted (some c))), (w.heap.size, .deferred (some []))]) hbW rfl hE0 hR2) (hR2.holds.1 _ (List.mem_cons_of_mem _ (List.mem_cons_self ..))) (Nat.le_refl _))
theorem wp_range_boxL {P : Program} {g : Operand} {ps : Array Tmp} {assign body : Code} {Q : Exit → Act → World → Prop} {a : Act} {w : World}
    {gf : Nat} {lb : Array Value} (hg : a.eval g = .func (.func gf) #[] lb) (eg : ∀ args w, (callFunc gf args).run P w = .ok (.enter gf args) w)
    {α : Type} {arg : α → Array Value} {nxt : List α → α → Prop} {fin : List α → Prop} {R : List Nat} {W0 : World} (hit : IterL P gf lb arg nxt fin R W0) (hb0 : Below W0.heap.size W0 w) (hps : ∀ x, (arg x).size = ps.size)
    (I : List α → List (Nat × Array Value × TypeId) → Prop) (Ix : Code → List (Nat × Array Value × TypeId) → Prop)
    (L0 : List (Nat × Array Value × TypeId)) (h0 : I [] L0) (hH : Holds w (objs L0)) (hR : ∀ b ∈ R, b < w.heap.size ∧ b ∉ L0.map (·.1)) (bx : α → Array Value) (bt : TypeId) (act1 : α → Nat → Act)
    (hassign : ∀ (l : Nat) (k : List α) (x : α) (L : List (Nat × Array Value × TypeId)) (W : World), I k L → nxt k x → In L0 w L W → ∀ K : Act → World → Prop, (∀ b W', In L W ((b, bx x, bt) :: L) W' → K (act1 x b) W') →
      assign.wpIn (Fence.wide.inRound l) 0 P (Exit.then K (fun _ _ _ => False)) { tmps := (ps.zip (arg x)).foldl (fun t (p, v) => t.setIfInBounds p v) a.tmps, defers := [] } W)
    (hbody : ∀ (l : Nat) (k : List α) (x : α) (L : List (Nat × Array Value × TypeId)) (b : Nat) (W : World), I k L → In L0 w ((b, bx x, bt) :: L) W → nxt k x → body.wpIn (Fence.wide.inRound l) 0 P (roundEnd (I (k ++ [x])) Ix ((b, bx x, bt) :: L) W) (act1 x b) W)
    (hdone : ∀ (D : Nat) (n : List α) (L : List (Nat × Array Value × TypeId)) (W : World), fin n → I n L → In L0 w L W → W.heap[D]? = some (.deferred (some [])) → w.heap.size ≤ D → Q .normal { a with defers := { target := .collected D, args := #[] } :: a.defers } W)
    (hstop : ∀ (D : Nat) (c : Code) (L : List (Nat × Array Value × TypeId)) (W : World), Ix c L → In L0 w L W → W.heap[D]? = some (.deferred (some [])) → w.heap.size ≤ D → c.wp P Q { a with defers := { target := .collected D, args := #[] } :: a.defers } W) :
    (Code.rangeFunc g ps assign body).wp P Q a w := by
  refine wp_range2L hg eg hit hb0 hps I Ix L0 h0 hH hR (fun k x L L' a => ∃ b, L' = (b, bx x, bt) :: L ∧ a = act1 x b) (fun l k x L W hI hn hIn K hK => hassign l k x L W hI hn hIn K fun b W' hW => hK _ _ _ hW ⟨b, rfl, rfl⟩) ?_ hdone hstop
  rintro l k x L L' a1 W hI ⟨b, rfl, rfl⟩ hIn hN
  exact hbody l k x L b W hI hIn hN
end Go.Proofs.Ytcjncidahjneaaa

namespace Go.Proofs.Ytcjncidahjneaaa
open Go.ChangeShapes Go.WideShapes Go.ChangeAt Go.RowKit
attribute [local irreducible] wpList wpListIn Oper.quietAt wpM
open Go.Maps
theorem hdV_inj {a b : Int} {C E : List UInt8} (h : hdV a C = hdV b E) : a = b ∧ C = E := by
  have h1 : (Value.int .i64 a :: C.map bv) = (Value.int .i64 b :: E.map bv) := by
    have := congrArg Array.toList h
    simpa [hdV] using this
  rw [List.cons.injEq] at h1
  refine ⟨by simpa using h1.1, ?_⟩
  have h2 := h1.2
  exact bvs_inj (by unfold bvs; rw [h2])
/-- A put that is one. -/
def okX (x : Pt) : Prop := x.2.length = 128 ∧ (-9223372036854775808 ≤ x.1 ∧ x.1 ≤ 9223372036854775807)
/-- How a put reads. -/
def dP (x : Pt) : DataW Unit := .lit (.string (x.2 ++ beB (u64W x.1) 8))
theorem dP_inj {x y : Pt} (hx : okX x) (hy : okX y) (h : dP x = dP y) : x = y := by
  unfold dP at h
  simp only [DataW.lit.injEq, Lit.string.injEq] at h
  obtain ⟨h1, h2⟩ := List.append_inj h (by rw [hx.1, hy.1])
  have e1 := beN_eight_of hx.2.1 hx.2.2
  have e2 := beN_eight_of hy.2.1 hy.2.2
  rw [h2, e2] at e1
  exact Prod.ext e1.symm h1
/-- So the map's elements are read. -/
def RdSpec (rd : Value → Option (DataW Unit × List MemPlace)) : Prop := (∀ x, okX x → rd (.agg (hdV x.1 x.2)) = some (dP x, [])) ∧ ∀ v y, rd v = some y → ∃ x, okX x ∧ v = .agg (hdV x.1 x.2) ∧ y = (dP x, [])
theorem rd_exists : ∃ rd, RdSpec rd := by
  classical
  refine ⟨fun v => if h : ∃ x : Pt, okX x ∧ v = .agg (hdV x.1 x.2) then some (dP h.choose, []) else none, fun x hx => ?_, fun v y hy => ?_⟩
  · have h : ∃ z : Pt, okX z ∧ Value.agg (hdV x.1 x.2) = .agg (hdV z.1 z.2) := ⟨x, hx, rfl⟩
    dsimp only
    rw [dif_pos h]
    have h2 := h.choose_spec
    have h3 : hdV x.1 x.2 = hdV h.choose.1 h.choose.2 := by simpa using h2.2
    obtain ⟨e1, e2⟩ := hdV_inj h3
    rw [show h.choose = x from Prod.ext e1.symm e2.symm]
  · dsimp only at hy
    split at hy
    · rename_i h
      cases hy
      exact ⟨h.choose, h.choose_spec.1, h.choose_spec.2, rfl⟩
    · cases hy
namespace MP
abbrev mapAt (rd : Value → Option (DataW Unit × List MemPlace)) (w : World) (B n : Nat) (D : DataW Unit) : Prop := w.ownsMap Try.prog 3 rd B n D
theorem map_kept {rd : Value → Option (DataW Unit × List MemPlace)} {w w' : World} {B n : Nat} {D : DataW Unit} (h : mapAt rd w B n D) (hb : w'.heap[B]? = w.heap[B]?) : mapAt rd w' B n D := by
  obtain ⟨es, clock, h1, h2⟩ := h
  exact ⟨es, clock, hb.trans h1, h2⟩
theorem map_obj {rd : Value → Option (DataW Unit × List MemPlace)} {w : World} {B n : Nat} {D : DataW Unit} (h : mapAt rd w B n D) : B < w.heap.size ∧ ∀ cs t fr, w.heap[B]? ≠ some (.cells cs t fr) := by
  obtain ⟨es, clock, h1, h2⟩ := h
  exact ⟨(Array.getElem?_eq_some_iff.1 h1).1, fun cs t fr e => by rw [h1] at e; cases e⟩
def StM (rd : Value → Option (DataW Unit × List MemPlace)) (w0 : World) (B n : Nat) (D : DataW Unit) (w : World) (L : List Blk) : Prop := St w0 w L ∧ mapAt rd w B n D ∧ w0.heap.size ≤ B
theorem own_stM {rd : Value → Option (DataW Unit × List MemPlace)} {w0 : World} {B n : Nat} {D : DataW Unit} : Own w0.heap.size (StM rd w0 B n D) where
  blk := fun i _ _ _ h hi => h.1.blk i hi
  call := fun h hb => ⟨h.1.call hb, map_kept h.2.1 (hb.block B (map_obj h.2.1).1), h.2.2⟩
  alloc := fun cs t h => ⟨h.1.alloc cs t, map_kept h.2.1 (Below.heap_alloc _ _ _ (map_obj h.2.1).1), h.2.2⟩
  setRow := fun {w} {L} i {b} {cs} {t} cs' h hi => ⟨h.1.setRow i hi cs', map_kept h.2.1 (setRow_other w b B cs' (fun e => by
    have h1 : w.heap[b]? = some (.cells cs t (0, 0)) := h.1.blk i hi
    exact (map_obj h.2.1).2 _ _ _ (e ▸ h1))), h.2.2⟩
  size := fun h => h.1.1.size
  add := fun h hB hn hb => ⟨h.1.add hB hn hb, h.2⟩
  nodup := fun h => h.1.2.2
  sub := fun h hx hn => ⟨⟨h.1.1, fun x hm => h.1.2.1 x (hx x hm), hn⟩, h.2⟩
theorem StM.far {rd : Value → Option (DataW Unit × List MemPlace)} {w0 wr : World} {B n : Nat} {D : DataW Unit} {L : List Blk} (h : StM rd w0 B n D wr L) {b : Nat} {cs : Array Value} {t : TypeId} {fr : Nat × Nat} (hb : Go.Proofs.Ytcjncidahjneaaa.blk w0 b = some (.cells cs t fr)) : Go.Proofs.Ytcjncidahjneaaa.blk wr b = some (.cells cs t fr) ∧ (∀ o, wr.cell? ⟨b, o, none⟩ = cs[o]?) ∧ b < w0.heap.size ∧ b < wr.heap.size ∧ ¬ b = wr.heap.size := h.1.far hb
variable {rd : Value → Option (DataW Unit × List MemPlace)} {ops : Array Oper} {Q : Exit → Act → World → Prop} {o : Oper} {rest : List Oper} {a : Act} {w w0 : World} {L : List Blk}
/-- make(map[int]int). -/
theorem s_makeMap {t : TypeId} (hS : St w0 w L) (hw : Region.wanted o (yielded ops a.tmps) = true) (hop : o.op = .makeMap t none) (hk : ∀ B w', StM rd w0 B 0 (.map []) w' L → wpList Try.prog ops Q rest (a.put o.dst (.map (some B))) w') : wpList Try.prog ops Q (o :: rest) a w := by
  refine Aa.go hw (by unfold Bp; rw [hop]) (v := .map (some w.heap.size)) (w' := w.alloc (.map #[] 0)) ?_ (hk _ _ ⟨hS.call ((Below.refl _ _).alloc (Nat.le_refl _) _), World.ownsMap_made _ _ _ _, hS.1.size⟩)
  unfold execOp; rw [hop]
  rfl
theorem s_update {m x v : Operand} {t : TypeId} {B n : Nat} {D : DataW Unit} {k : Int} {z : Pt} (hrd : RdSpec rd) (hS : StM rd w0 B n D w L) (hg : o.guard = none) (hop : o.op = .mapUpdate t m x v) (ht : Try.prog.underlying t = some (.map 3 70)) (hn : n < 1000000) (hm : evO a m = some (.map (some B))) (hx : evO a x = some (.int .i64 k)) (hv : evO a v = some (.agg (hdV z.1 z.2))) (hk1 : -9223372036854775808 ≤ k ∧ k ≤ 9223372036854775807) (hz : okX z)
    (hk : ∀ w', StM rd w0 B (n + 1) (D.put (.int .i64 k) (dP z)) w' L → wpList Try.prog ops Q rest (a.put o.dst undef) w') : wpList Try.prog ops Q (o :: rest) a w := by
  refine wpList_mapUpdate_own w hg m x v t hop 3 70 (int_keyed Try.underlying3) ht _ B n D (Bb hm) hS.2.1 (by unfold maxLen; omega) _ _ _ (Bb hx) (Bb hv) (keyOf_int_mk Try.underlying3 (i64_wf hk1)) _ [] (hrd.1 z hz) ?_
  intro w' h1 h2
  refine hk w' ⟨?_, h1, hS.2.2⟩
  obtain ⟨hb, hl, hnd⟩ := hS.1
  have hbelow : Below w0.heap.size w w' := ⟨h2.os, h2.tape, h2.output, h2.size, fun k hk => h2.block k (Nat.lt_of_lt_of_le hk hb.size) (fun e => by cases e; exact Nat.lt_irrefl _ (Nat.lt_of_lt_of_le hk hS.2.2))⟩
  refine ⟨hb.trans hbelow, fun y hy => ⟨(hl y hy).1, ?_⟩, hnd⟩
  have h3 := (hl y hy).2
  have h4 : y.1 < w.heap.size := blk_lt h3
  refine (h2.block y.1 h4 (fun e => ?_)).trans h3
  cases e
  exact (map_obj hS.2.1).2 _ _ _ h3
end MP
end Go.Proofs.Ytcjncidahjneaaa

namespace Go.Proofs.Ytcjncidahjneaaa
open Go.ChangeShapes Go.WideShapes Go.ChangeAt Go.RowKit
attribute [local irreducible] wpList wpListIn Oper.quietAt wpM
open Go.Maps
/-- The map holds the last put of each number. -/
def MapOf (l : List Pt) (D : DataW Unit) : Prop := IsMap D ∧ (∀ a x, lastP l a = some x → ∀ z, D.atKey (.int .i64 a) z = dP x) ∧ (∀ a, lastP l a = none → ∀ z, D.atKey (.int .i64 a) z = z)
theorem mapOf_nil : MapOf [] (.map []) := ⟨⟨[], rfl⟩, fun a x h => by simp [lastP] at h, fun a _ z => rfl⟩
theorem mapOf_snoc {l : List Pt} {D : DataW Unit} (h : MapOf l D) (x : Pt) : MapOf (l ++ [x]) (D.put (.int .i64 x.1) (dP x)) := by
  obtain ⟨h1, h2, h3⟩ := h
  refine ⟨h1.put _ _, fun a y hy z => ?_, fun a hy z => ?_⟩
  · rw [lastP_snoc] at hy
    by_cases he : x.1 = a
    · rw [if_pos he] at hy
      cases hy
      rw [← he]
      exact atKey_put_same h1 (by trivial) _ _
    · rw [if_neg he] at hy
      rw [atKey_put_other (fun e => he (by cases e; rfl))]
      exact h2 a y hy z
  · rw [lastP_snoc] at hy
    by_cases he : x.1 = a
    · rw [if_pos he] at hy; cases hy
    · rw [if_neg he] at hy
      rw [atKey_put_other (fun e => he (by cases e; rfl))]
      exact h3 a hy z
theorem mapOf_has {l : List Pt} {D : DataW Unit} (h : MapOf l D) (a : Int) : has D (.int .i64 a) = true ↔ ∃ x, lastP l a = some x := by
  constructor
  · intro hh
    cases hl : lastP l a with
    | some x => exact ⟨x, rfl⟩
    | none => rw [has_false_of_atKey (h.2.2 a hl)] at hh; cases hh
  · rintro ⟨x, hx⟩
    exact has_true_of_atKey (h.2.1 a x hx)
/-- What may come behind what has come, and when all has come. -/
def vNext (l pre : List Pt) (x : Pt) : Prop := lastP l x.1 = some x ∧ ∀ y ∈ pre, y.1 ≠ x.1
def vAll (l pre : List Pt) : Prop := ∀ a x, lastP l a = some x → x ∈ pre
theorem ranges_of {P : Program} {k : TypeId} {R : Value → Option (DataW Unit × List MemPlace)} {w w' : World} {b r n : Nat} {D : DataW Unit} {left : Lit → Bool} {cnt : Nat} (h : w.ranges P k R b r n D left cnt) (hb : w'.heap[b]? = w.heap[b]?) (hr : w'.heap[r]? = w.heap[r]?) : w'.ranges P k R b r n D left cnt := by
  obtain ⟨es, clock, since, seen, c0, h1, h2, h3, h4, h5, h6⟩ := h
  exact ⟨es, clock, since, seen, c0, hb.trans h1, h2, h3, h4, hr.trans h5, h6⟩
theorem r_entry {P : Program} {o : Oper} {a : Act} {w : World} {x : Operand} {u v : Value} (hop : o.op = .entry x) (hx : evO a x = some u) (hen : (Instr.entry u).run P w = .ok v w) : (execOp a.eval o).run P w = .ok (.value v) w := by
  unfold execOp; rw [hop]
  simp [Bb hx, hen]
set_option maxRecDepth 100000 in
set_option maxHeartbeats 8000000 in
theorem values1_iter {rd : Value → Option (DataW Unit × List MemPlace)} (hrd : RdSpec rd) (l : List Pt) (ho : okP l) (Bmm B n : Nat) (D : DataW Unit) (W0 : World) {t : TypeId} {fr : Nat × Nat} (hm : blk W0 Bmm = some (.cells #[.map (some B)] t fr)) (hown : MP.mapAt rd W0 B n D) (hD : MapOf l D) :
    IterL Try.prog 67 #[.pointer (some ⟨Bmm, 0, none⟩)] (fun x : Pt => #[.agg (hdV x.1 x.2)]) (vNext l) (vAll l) [Bmm, B] W0 := by
  intro lb J Jx W L0 hbW hR hJ0 hH hY
  have hBm : Bmm ∉ L0.map (·.1) := hR Bmm (List.mem_cons_self ..)
  have hBn : B ∉ L0.map (·.1) := hR B (List.mem_cons_of_mem _ (List.mem_cons_self ..))
  have hmW : blk W Bmm = some (.cells #[.map (some B)] t fr) := (hbW.block Bmm (blk_lt hm)).trans hm
  have howW : MP.mapAt rd W B n D := MP.map_kept hown (hbW.block B (MP.map_obj hown).1)
  clear hbW hR hm hown
  refine (callsIn_wide (n := 1)).1 ?_
  refine callsIn_of_wp Try.func67 rfl trivial ?_ rfl
  simp only [Try.ntmps67, List.size_toArray, List.length_cons, List.length_nil, Nat.reduceAdd, Nat.reduceSub, Array.replicate_succ, Array.replicate_zero, List.push_toArray, List.append_toArray, List.nil_append, List.cons_append]
  have hS := St.start W
  repeat' (first | ((with_reducible refine cons_in ?_); first | ((first | refine Ai Ah ?_ | refine Al Ah ?_ | refine Af Ah ?_ | refine Av Ah Ab hS ?_ | refine Bs Ah (by first | exact ((hS).far hmW).1) ?_ | refine Ba Ah Ab hS ?_ | refine Da Ah (by first | exact ((hS).far hmW).1) ?_ | refine Ag Ah ?_ | refine Ae Ah ?_ | refine Be Ah ?_ | refine g_cap Ah ?_ | refine Bl Ah ?_ | refine Bd Ah ?_ | refine Cj Ah ?_ | refine Ca Ah ?_ | refine Cz Ah ?_ | refine Cq Ah ?_ | refine Ak Ah ?_ | refine Aj Ah ?_ | refine Aw Ah (fun hc => ?_) (fun hc => ?_) | refine Cg Ah ?_ | refine Bz Ah ?_ | refine Ck Ah ?_ | refine Cd Ah ?_ | refine Az Ah ?_ | refine g_field1 Ah ?_ | refine g_fieldR Ah ?_ | refine Bx Ah ?_ | refine Bu Ah ?_ | refine Ax Ah ?_ | refine Dj Ah ?_ | refine Bq Ah ?_ | refine Bk Ah ?_ | refine Bw Ah ?_ | refine Bh Ah ?_ | refine Bc Ah ?_ | refine Au Ah ?_ | refine g_nilCheck Ah ?_ | refine Cp Ah ?_ | refine Ar Ah ?_) <;> refine Ad ?_) | ((first | refine Ay Ah Ab hS ?_ | refine Cu Ah Ab hS ?_ | refine Ao Ah Ab hS ?_ | refine As Ah Ab hS ?_ | refine g_make Ah Ab hS ?_); clear hS; intro b w hS; refine Ad ?_) | ((first | refine Br Ah Ab hS ?_ | refine Ap Ah Ab hS ?_ | refine Aq Ah Ab hS ?_); clear hS; intro w hS; refine Ad ?_)) | ((fail_if_success (with_reducible refine cons_in ?_)); first | gi_step | (with_reducible refine wpIn_scope_wide ?_) | (with_reducible refine wpIn_label ?_) | rw [Exit.noGoto_normal] | rw [Exit.noGoto_ret] | rw [Exit.noGoto_exit]))
  refine wpListIn_range_own _ (by rfl) _ 101 (by rfl) 3 70 (int_keyed Try.underlying3) Try.underlying101 rd B n D (by rfl) howW ?_
  intro w1 hrg hg1 hs1
  refine Ad ?_
  have hr0 : W.heap.size ∉ L0.map (·.1) := fun hm => by
    obtain ⟨x, hx, he⟩ := List.mem_map.1 hm
    have := hH.lt hx
    omega
  have hRd0 : Rd L0 W L0 w1 := by
    refine .call hH ⟨hg1.os, hg1.tape, hg1.output, hg1.size, fun k hk => hg1.block k hk (by simp)⟩
  repeat' (first | ((with_reducible refine cons_in ?_); first | ((first | refine Ai Ah ?_ | refine Al Ah ?_ | refine Af Ah ?_ | refine Av Ah Ab hS ?_ | refine Ba Ah Ab hS ?_ | refine Ag Ah ?_ | refine Ae Ah ?_ | refine Be Ah ?_ | refine g_cap Ah ?_ | refine Bl Ah ?_ | refine Bd Ah ?_ | refine Cj Ah ?_ | refine Ca Ah ?_ | refine Cz Ah ?_ | refine Cq Ah ?_ | refine Ak Ah ?_ | refine Aj Ah ?_ | refine Aw Ah (fun hc => ?_) (fun hc => ?_) | refine Cg Ah ?_ | refine Bz Ah ?_ | refine Ck Ah ?_ | refine Cd Ah ?_ | refine Az Ah ?_ | refine g_field1 Ah ?_ | refine g_fieldR Ah ?_ | refine Bx Ah ?_ | refine Bu Ah ?_ | refine Ax Ah ?_ | refine Dj Ah ?_ | refine Bq Ah ?_ | refine Bk Ah ?_ | refine Bw Ah ?_ | refine Bh Ah ?_ | refine Bc Ah ?_ | refine Au Ah ?_ | refine g_nilCheck Ah ?_ | refine Cp Ah ?_ | refine Ar Ah ?_) <;> refine Ad ?_) | ((first | refine Ay Ah Ab hS ?_ | refine Cu Ah Ab hS ?_ | refine Ao Ah Ab hS ?_ | refine As Ah Ab hS ?_ | refine g_make Ah Ab hS ?_); clear hS; intro b w hS; refine Ad ?_) | ((first | refine Br Ah Ab hS ?_ | refine Ap Ah Ab hS ?_ | refine Aq Ah Ab hS ?_); clear hS; intro w hS; refine Ad ?_)) | ((fail_if_success (with_reducible refine cons_in ?_)); first | gi_step | (with_reducible refine wpIn_scope_wide ?_) | (with_reducible refine wpIn_label ?_) | rw [Exit.noGoto_normal] | rw [Exit.noGoto_ret] | rw [Exit.noGoto_exit]))
  gi_loopw [4] (fun _ wr => ∃ (left : Lit → Bool) (cnt : Nat) (pre : List Pt) (L : List (Nat × Obj)), wr.ranges Try.prog 3 rd B W.heap.size n D left cnt ∧ (∀ a : Int, left (.int .i64 a) = (has D (.int .i64 a) && !(pre.any fun y => y.1 == a))) ∧ (∀ y ∈ pre, lastP l y.1 = some y) ∧ J pre L ∧ Rd L0 W L wr ∧ W.heap.size ∉ L.map (·.1))
    (fun _ wr => wr.rangeLeft B W.heap.size)
  case atStart => exact ⟨_, _, [], L0, hrg, fun a => by simp, by simp, hJ0, hRd0, hr0⟩
  case round =>
    clear hS
    obtain ⟨left, cnt, pre, L, hrg, hleft, hpre, hJ, hRd, hrL⟩ := hrel
    have hS := St.start wr
    repeat' (first | ((with_reducible refine cons_in ?_); first | ((first | refine Ai Ah ?_ | refine Al Ah ?_ | refine Af Ah ?_ | refine Av Ah Ab hS ?_ | refine Ba Ah Ab hS ?_ | refine Ag Ah ?_ | refine Ae Ah ?_ | refine Be Ah ?_ | refine g_cap Ah ?_ | refine Bl Ah ?_ | refine Bd Ah ?_ | refine Cj Ah ?_ | refine Ca Ah ?_ | refine Cz Ah ?_ | refine Cq Ah ?_ | refine Ak Ah ?_ | refine Aj Ah ?_ | refine Aw Ah (fun hc => ?_) (fun hc => ?_) | refine Cg Ah ?_ | refine Bz Ah ?_ | refine Ck Ah ?_ | refine Cd Ah ?_ | refine Az Ah ?_ | refine g_field1 Ah ?_ | refine g_fieldR Ah ?_ | refine Bx Ah ?_ | refine Bu Ah ?_ | refine Ax Ah ?_ | refine Dj Ah ?_ | refine Bq Ah ?_ | refine Bk Ah ?_ | refine Bw Ah ?_ | refine Bh Ah ?_ | refine Bc Ah ?_ | refine Au Ah ?_ | refine g_nilCheck Ah ?_ | refine Cp Ah ?_ | refine Ar Ah ?_) <;> refine Ad ?_) | ((first | refine Ay Ah Ab hS ?_ | refine Cu Ah Ab hS ?_ | refine Ao Ah Ab hS ?_ | refine As Ah Ab hS ?_ | refine g_make Ah Ab hS ?_); clear hS; intro b w hS; refine Ad ?_) | ((first | refine Br Ah Ab hS ?_ | refine Ap Ah Ab hS ?_ | refine Aq Ah Ab hS ?_); clear hS; intro w hS; refine Ad ?_)) | ((fail_if_success (with_reducible refine cons_in ?_)); first | gi_step | (with_reducible refine wpIn_scope_wide ?_) | (with_reducible refine wpIn_label ?_) | rw [Exit.noGoto_normal] | rw [Exit.noGoto_ret] | rw [Exit.noGoto_exit]))
    refine wpListIn_next_ranges _ (by rfl) _ (by rfl) 3 (int_keyed Try.underlying3) rd (Value.int .i64) Value.agg (fun key kl hk => by
      obtain ⟨x, hx, _⟩ := Maps.keyOf_int_inv Try.underlying3 hk
      exact ⟨x, hx⟩) (fun v y hv => by
      obtain ⟨x, _, rfl, _⟩ := hrd.2 v y hv
      exact ⟨_, rfl⟩) B W.heap.size n _ _ _ (by rfl) hrg ?_ ?_
    · intro hc0 hl0
      refine Ad ?_
      have hall : vAll l pre := fun a x hx => by
        have h1 := hleft a
        rw [hl0, (mapOf_has hD a).2 ⟨x, hx⟩, Bool.true_and] at h1
        have h2 : (pre.any fun y => y.1 == a) = true := by
          cases hq : (pre.any fun y => y.1 == a) with
          | true => rfl
          | false => rw [hq] at h1; cases h1
        obtain ⟨y, hy, he⟩ := List.any_eq_true.1 h2
        have he' : y.1 = a := by simpa using he
        have h3 := hpre y hy
        rw [he', hx] at h3
        cases h3
        exact hy
      repeat' (first | ((with_reducible refine cons_in ?_); first | ((first | refine Ai Ah ?_ | refine Al Ah ?_ | refine Af Ah ?_ | refine Av Ah Ab hS ?_ | refine Ba Ah Ab hS ?_ | refine Ag Ah ?_ | refine Ae Ah ?_ | refine Be Ah ?_ | refine g_cap Ah ?_ | refine Bl Ah ?_ | refine Bd Ah ?_ | refine Cj Ah ?_ | refine Ca Ah ?_ | refine Cz Ah ?_ | refine Cq Ah ?_ | refine Ak Ah ?_ | refine Aj Ah ?_ | refine Aw Ah (fun hc => ?_) (fun hc => ?_) | refine Cg Ah ?_ | refine Bz Ah ?_ | refine Ck Ah ?_ | refine Cd Ah ?_ | refine Az Ah ?_ | refine g_field1 Ah ?_ | refine g_fieldR Ah ?_ | refine Bx Ah ?_ | refine Bu Ah ?_ | refine Ax Ah ?_ | refine Dj Ah ?_ | refine Bq Ah ?_ | refine Bk Ah ?_ | refine Bw Ah ?_ | refine Bh Ah ?_ | refine Bc Ah ?_ | refine Au Ah ?_ | refine g_nilCheck Ah ?_ | refine Cp Ah ?_ | refine Ar Ah ?_) <;> refine Ad ?_) | ((first | refine Ay Ah Ab hS ?_ | refine Cu Ah Ab hS ?_ | refine Ao Ah Ab hS ?_ | refine As Ah Ab hS ?_ | refine g_make Ah Ab hS ?_); clear hS; intro b w hS; refine Ad ?_) | ((first | refine Br Ah Ab hS ?_ | refine Ap Ah Ab hS ?_ | refine Aq Ah Ab hS ?_); clear hS; intro w hS; refine Ad ?_)) | ((fail_if_success (with_reducible refine cons_in ?_)); first | gi_step | (with_reducible refine wpIn_scope_wide ?_) | (with_reducible refine wpIn_label ?_) | rw [Exit.noGoto_normal] | rw [Exit.noGoto_ret] | rw [Exit.noGoto_exit]))
      refine bodyPost_end (results_none rfl _ _ _) rfl ?_
      exact ⟨⟨_, rfl⟩, L, hRd, .inl ⟨pre, hall, hJ⟩⟩
    · intro a cs kl yd w2 cnt2 hkey hlk hv hat hrg2 hlt hg2 hs2 hen
      obtain ⟨a', e1, rfl, _⟩ := Maps.keyOf_int_inv Try.underlying3 hkey
      cases e1
      obtain ⟨x, hx, hvx, rfl⟩ := hrd.2 _ _ hv
      cases hvx
      have hlx : lastP l a = some x := by
        cases hq : lastP l a with
        | none =>
          have h1 := hD.2.2 a hq (.lit (.int .i64 0))
          rw [hat] at h1
          unfold dP at h1
          cases h1
        | some x' =>
          have h1 := hD.2.1 a x' hq (.lit (.int .i64 0))
          rw [hat] at h1
          rw [dP_inj (ho x' (lastP_num hq).2) hx h1.symm]
      have hxa := (lastP_num hlx).1
      have hnot : ∀ y ∈ pre, y.1 ≠ x.1 := fun y hy e => by
        have h1 := hleft a
        rw [hlk, (mapOf_has hD a).2 ⟨x, hlx⟩, Bool.true_and] at h1
        have h2 : (pre.any fun y => y.1 == a) = true := List.any_eq_true.2 ⟨y, hy, by simp [e, hxa]⟩
        rw [h2] at h1
        cases h1
      subst hxa
      have hnx : vNext l pre x := ⟨hlx, hnot⟩
      have hRd2 : Rd L0 W L w2 := ⟨⟨fun z hz => (hg2.block z.1 (hRd.holds.lt hz) (fun e => hrL (List.mem_map.2 ⟨z, hz, Option.some.inj e⟩))).trans (hRd.holds.1 z hz), hRd.holds.2⟩,
        ⟨hg2.os.trans hRd.kept.os, hg2.tape.trans hRd.kept.tape, hg2.output.trans hRd.kept.output, Nat.le_trans hRd.kept.size hg2.size, fun k hk hn => (hg2.block k (Nat.lt_of_lt_of_le hk hRd.kept.size) (fun e => by cases e; exact Nat.lt_irrefl _ hk)).trans (hRd.kept.block k hk hn)⟩, hRd.fresh⟩
      replace hS := St.start w2
      have hrlt : W.heap.size < w2.heap.size := hrg2.lt
      have hyk := fun W => hY pre x L W hJ
      have s1 : csz (hdV x.1 x.2) = 129 := by rw [hdV_size, hx.1]
      have s2 : csz (hdV 0 (zs 128)) = 129 := by rw [hdV_size, zs_len]
      refine Ad ?_
      repeat' (first | ((with_reducible refine cons_in ?_); first | ((first | refine Ai Ah ?_ | refine Al Ah ?_ | refine Af Ah ?_ | refine Av Ah Ab hS ?_ | refine Ba Ah Ab hS ?_ | refine Ag Ah ?_ | refine Ae Ah ?_ | refine Be Ah ?_ | refine g_cap Ah ?_ | refine Bl Ah ?_ | refine Bd Ah ?_ | refine Cj Ah ?_ | refine Ca Ah ?_ | refine Cz Ah ?_ | refine Cq Ah ?_ | refine Ak Ah ?_ | refine Aj Ah ?_ | refine Aw Ah (fun hc => ?_) (fun hc => ?_) | refine Cg Ah ?_ | refine Bz Ah ?_ | refine Ck Ah ?_ | refine Cd Ah ?_ | refine Az Ah ?_ | refine g_field1 Ah ?_ | refine g_fieldR Ah ?_ | refine Bx Ah ?_ | refine Bu Ah ?_ | refine Ax Ah ?_ | refine Dj Ah ?_ | refine Bq Ah ?_ | refine Bk Ah ?_ | refine Bw Ah ?_ | refine Bh Ah ?_ | refine Bc Ah ?_ | refine Au Ah ?_ | refine g_nilCheck Ah ?_ | refine Cp Ah ?_ | refine Ar Ah ?_) <;> refine Ad ?_) | ((first | refine Ay Ah Ab hS ?_ | refine Cu Ah Ab hS ?_ | refine Ao Ah Ab hS ?_ | refine As Ah Ab hS ?_ | refine g_make Ah Ab hS ?_); clear hS; intro b w hS; refine Ad ?_) | ((first | refine Br Ah Ab hS ?_ | refine Ap Ah Ab hS ?_ | refine Aq Ah Ab hS ?_); clear hS; intro w hS; refine Ad ?_) | (refine Stp.go Ah (by rfl) (by rfl) (r_entry (by rfl) (by rfl) hen) ?_; refine Ad ?_) | (refine Ap Ah Ab hS ?_ (hv := hdV_ones _ _); clear hS; intro w hS; refine Ad ?_)) | ((fail_if_success (with_reducible refine cons_in ?_)); first | gi_step | (with_reducible refine wpIn_scope_wide ?_) | (with_reducible refine wpIn_label ?_) | rw [Exit.noGoto_normal] | rw [Exit.noGoto_ret] | rw [Exit.noGoto_exit]))
      have hRd1 := hRd2.trans (.call hRd2.holds hS.below)
      have hbB := hS.below
      (refine s_yield (by rfl) (by rfl) (by rfl) (by rfl) (by rfl) (by simpa using hyk _ hRd1 hnx) ?_)
      rintro e W3 ⟨L2, hRd3, (⟨rfl, hJ2⟩ | ⟨rfl, hx2⟩)⟩
      · refine ⟨_, rfl, ?_⟩
        refine Ad ?_
        have hRd4 := hRd1.trans hRd3
        have hBl := (MP.map_obj howW).1
        have hrg3 : W3.ranges Try.prog 3 rd B W.heap.size n D _ cnt2 := ranges_of hrg2 ((hRd4.kept.block B hBl hBn).trans (hRd2.kept.block B hBl hBn).symm) ((hRd3.kept.block _ (Nat.lt_of_lt_of_le hrlt hbB.size) hrL).trans (hbB.block _ hrlt))
        have hrL2 : W.heap.size ∉ L2.map (·.1) := fun hm => by
          obtain ⟨z, hz, he⟩ := List.mem_map.1 hm
          have h5 := hbB.size
          rcases hRd3.fresh z hz with h | h
          · exact hrL (by rw [← he]; exact h)
          · omega
        clear hS
        have hS := St.start W3
        repeat' (first | ((with_reducible refine cons_in ?_); first | ((first | refine Ai Ah ?_ | refine Al Ah ?_ | refine Af Ah ?_ | refine Av Ah Ab hS ?_ | refine Ba Ah Ab hS ?_ | refine Ag Ah ?_ | refine Ae Ah ?_ | refine Be Ah ?_ | refine g_cap Ah ?_ | refine Bl Ah ?_ | refine Bd Ah ?_ | refine Cj Ah ?_ | refine Ca Ah ?_ | refine Cz Ah ?_ | refine Cq Ah ?_ | refine Ak Ah ?_ | refine Aj Ah ?_ | refine Aw Ah (fun hc => ?_) (fun hc => ?_) | refine Cg Ah ?_ | refine Bz Ah ?_ | refine Ck Ah ?_ | refine Cd Ah ?_ | refine Az Ah ?_ | refine g_field1 Ah ?_ | refine g_fieldR Ah ?_ | refine Bx Ah ?_ | refine Bu Ah ?_ | refine Ax Ah ?_ | refine Dj Ah ?_ | refine Bq Ah ?_ | refine Bk Ah ?_ | refine Bw Ah ?_ | refine Bh Ah ?_ | refine Bc Ah ?_ | refine Au Ah ?_ | refine g_nilCheck Ah ?_ | refine Cp Ah ?_ | refine Ar Ah ?_) <;> refine Ad ?_) | ((first | refine Ay Ah Ab hS ?_ | refine Cu Ah Ab hS ?_ | refine Ao Ah Ab hS ?_ | refine As Ah Ab hS ?_ | refine g_make Ah Ab hS ?_); clear hS; intro b w hS; refine Ad ?_) | ((first | refine Br Ah Ab hS ?_ | refine Ap Ah Ab hS ?_ | refine Aq Ah Ab hS ?_); clear hS; intro w hS; refine Ad ?_)) | ((fail_if_success (with_reducible refine cons_in ?_)); first | gi_step | (with_reducible refine wpIn_scope_wide ?_) | (with_reducible refine wpIn_label ?_) | rw [Exit.noGoto_normal] | rw [Exit.noGoto_ret] | rw [Exit.noGoto_exit]))
        go_roundw
        case rel =>
          refine ⟨_, cnt2, pre ++ [x], L2, hrg3, fun a => ?_, fun y hy => ?_, hJ2, hRd4, hrL2⟩
          · rw [hleft a, List.any_append]
            by_cases he : x.1 = a
            · subst he; simp [Lit.sameKey]
            · have h6 : (Lit.int .i64 a).sameKey (.int .i64 x.1) = false := sameKey_ne (fun e => he (by cases e; rfl))
              have h7 : (x.1 == a) = false := by simpa using he
              simp [h6, h7]
          · rcases List.mem_append.1 hy with hy | hy
            · exact hpre y hy
            · simp at hy; subst hy; exact hlx
        case measure => rw [hrg3.left_eq, hrg.left_eq]; exact hlt
      · refine ⟨_, rfl, ?_⟩
        refine Ad ?_
        have hRd4 := hRd1.trans hRd3
        clear hS
        have hS := St.start W3
        repeat' (first | ((with_reducible refine cons_in ?_); first | ((first | refine Ai Ah ?_ | refine Al Ah ?_ | refine Af Ah ?_ | refine Av Ah Ab hS ?_ | refine Ba Ah Ab hS ?_ | refine Ag Ah ?_ | refine Ae Ah ?_ | refine Be Ah ?_ | refine g_cap Ah ?_ | refine Bl Ah ?_ | refine Bd Ah ?_ | refine Cj Ah ?_ | refine Ca Ah ?_ | refine Cz Ah ?_ | refine Cq Ah ?_ | refine Ak Ah ?_ | refine Aj Ah ?_ | refine Aw Ah (fun hc => ?_) (fun hc => ?_) | refine Cg Ah ?_ | refine Bz Ah ?_ | refine Ck Ah ?_ | refine Cd Ah ?_ | refine Az Ah ?_ | refine g_field1 Ah ?_ | refine g_fieldR Ah ?_ | refine Bx Ah ?_ | refine Bu Ah ?_ | refine Ax Ah ?_ | refine Dj Ah ?_ | refine Bq Ah ?_ | refine Bk Ah ?_ | refine Bw Ah ?_ | refine Bh Ah ?_ | refine Bc Ah ?_ | refine Au Ah ?_ | refine g_nilCheck Ah ?_ | refine Cp Ah ?_ | refine Ar Ah ?_) <;> refine Ad ?_) | ((first | refine Ay Ah Ab hS ?_ | refine Cu Ah Ab hS ?_ | refine Ao Ah Ab hS ?_ | refine As Ah Ab hS ?_ | refine g_make Ah Ab hS ?_); clear hS; intro b w hS; refine Ad ?_) | ((first | refine Br Ah Ab hS ?_ | refine Ap Ah Ab hS ?_ | refine Aq Ah Ab hS ?_); clear hS; intro w hS; refine Ad ?_)) | ((fail_if_success (with_reducible refine cons_in ?_)); first | gi_step | (with_reducible refine wpIn_scope_wide ?_) | (with_reducible refine wpIn_label ?_) | rw [Exit.noGoto_normal] | rw [Exit.noGoto_ret] | rw [Exit.noGoto_exit]))
        refine bodyPost_ret (results_none rfl _ _ _) rfl ?_
        exact ⟨⟨_, rfl⟩, L2, hRd4, .inr hx2⟩
end Go.Proofs.Ytcjncidahjneaaa

namespace Go.Proofs.Ytcjncidahjneaaa
open Go.ChangeShapes Go.WideShapes Go.ChangeAt Go.RowKit
attribute [local irreducible] wpList wpListIn Oper.quietAt wpM
open Go.Maps
theorem vpre_len {l pre : List Pt} (h1 : ∀ y ∈ pre, lastP l y.1 = some y) (h2 : (pre.map (·.1)).Nodup) : pre.length ≤ l.length := by
  have := nodup_le (b := l.map (·.1)) h2 (fun a ha => by
    obtain ⟨y, hy, rfl⟩ := List.mem_map.1 ha
    exact List.mem_map.2 ⟨y, (lastP_num (h1 y hy)).2, rfl⟩)
  rwa [List.length_map, List.length_map] at this
set_option maxRecDepth 100000 in
set_option maxHeartbeats 8000000 in
theorem appendSeq_any {rd : Value → Option (DataW Unit × List MemPlace)} (hrd : RdSpec rd) (l : List Pt) (hl : l.length ≤ 1000) (ho : okP l) (Bmm B n : Nat) (D : DataW Unit) (w0 : World) {t : TypeId} {fr : Nat × Nat} (hm : blk w0 Bmm = some (.cells #[.map (some B)] t fr)) (hown : MP.mapAt rd w0 B n D) (hD : MapOf l D) :
    Calls Try.prog 78 #[.slice none 0 0, .func (.func 67) #[] #[.pointer (some ⟨Bmm, 0, none⟩)]] w0 fun e w' => ∃ sv pre, e = .returned sv ∧ OwnL putC 129 70 w0.heap.size w' sv pre ∧ (∀ y ∈ pre, lastP l y.1 = some y) ∧ (pre.map (·.1)).Nodup ∧ vAll l pre ∧ Below w0.heap.size w0 w' := by
  have hS := St.start w0
  have hit := fun W0 h1 h2 => values1_iter hrd l ho Bmm B n D W0 (t := t) (fr := fr) h1 h2 hD
  refine calls_of_marksR Try.func78 rfl ?_
  simp only [Try.ntmps78, List.size_toArray, List.length_cons, List.length_nil, Nat.reduceAdd, Nat.reduceSub, Array.replicate_succ, Array.replicate_zero, List.push_toArray, List.append_toArray, List.nil_append, List.cons_append]
  repeat' (first | ((with_reducible refine Ac ?_); first | ((first | refine Ai Aa ?_ | refine Al Aa ?_ | refine Af Aa ?_ | refine Av Aa Ab hS ?_ | refine Ba Aa Ab hS ?_ | refine Ar Aa ?_) <;> refine Ad ?_) | ((first | refine Ay Aa Ab hS ?_ | refine Cu Aa Ab hS ?_ | refine Ao Aa Ab hS ?_ | refine As Aa Ab hS ?_); clear hS; intro b w hS; refine Ad ?_) | ((first | refine Br Aa Ab hS ?_ | refine Ap Aa Ab hS ?_ | refine Aq Aa Ab hS ?_); clear hS; intro w hS; refine Ad ?_)) | ((fail_if_success (with_reducible refine Ac ?_)); first | go_step | go_step3 | rw [Exit.noGoto_normal] | rw [Exit.noGoto_ret] | rw [Exit.noGoto_exit]))
  obtain ⟨bS, hbS⟩ : ∃ x, x = b := ⟨_, rfl⟩
  rw [← hbS] at hS ⊢
  clear hbS
  have hBlt := (MP.map_obj hown).1
  have hlow := hS.low 0 rfl
  refine wp_range_boxL (arg := fun x : Pt => #[.agg (hdV x.1 x.2)]) (nxt := vNext l) (fin := vAll l) (R := [Bmm, B]) (gf := 67) (lb := #[.pointer (some ⟨Bmm, 0, none⟩)]) (by rfl) (by intro args w; kernel_rfl) (hit w0 hm hown) hS.below (fun _ => rfl)
    (fun pre L => (∀ y ∈ pre, lastP l y.1 = some y) ∧ (pre.map (·.1)).Nodup ∧ ∃ sv Lr, OwL putC 129 70 pre sv Lr ∧ L = (bS, (#[sv] : Array Value), 47) :: Lr)
    (fun _ _ => False) [(bS, #[.slice none 0 0], 47)] ?I0 ?H0 ?R0 (fun x => hdV x.1 x.2) 70 ?act1 ?assign ?body ?done ?stop
  case I0 => exact ⟨by simp, by simp, .slice none 0 0, [], .inl ⟨rfl, rfl, rfl⟩, rfl⟩
  case H0 => exact hS.holds
  case R0 =>
    intro x hx
    have hsz := hS.below.size
    have hBm := blk_lt hm
    simp only [List.mem_cons, List.not_mem_nil, or_false] at hx
    rcases hx with rfl | rfl
    · exact ⟨by omega, by simp; omega⟩
    · exact ⟨by omega, by simp; omega⟩
  case assign =>
    intro l0 k x L W hI hn hIn K hK
    have hx := ho x (lastP_num hn.1).2
    have s1 : csz (hdV x.1 x.2) = 129 := by rw [hdV_size, hx.1]
    have s2 : csz (hdV 0 (zs 128)) = 129 := by rw [hdV_size, zs_len]
    have hSL := hS
    have hS := hIn.round
    simp only [List.zip_toArray, List.zip_cons_cons, List.zip_nil_right, List.foldl_toArray', List.foldl_cons, List.foldl_nil, List.setIfInBounds_toArray, List.set_cons_zero, List.set_cons_succ]
    repeat' (first | ((with_reducible refine cons_in ?_); first | ((first | refine Ai Am ?_ | refine Al Am ?_ | refine Af Am ?_ | refine Av Am own_in hS ?_ | refine Ba Am own_in hS ?_ | refine Ag Am ?_ | refine Ae Am ?_ | refine Be Am ?_ | refine g_cap Am ?_ | refine Bl Am ?_ | refine Bd Am ?_ | refine Cj Am ?_ | refine Ca Am ?_ | refine Cz Am ?_ | refine Cq Am ?_ | refine Ak Am ?_ | refine Aj Am ?_ | refine Aw Am (fun hc => ?_) (fun hc => ?_) | refine Cg Am ?_ | refine Bz Am ?_ | refine Ck Am ?_ | refine Cd Am ?_ | refine Az Am ?_ | refine g_field1 Am ?_ | refine g_fieldR Am ?_ | refine Bx Am ?_ | refine Bu Am ?_ | refine Ax Am ?_ | refine Dj Am ?_ | refine Bq Am ?_ | refine Bk Am ?_ | refine Bw Am ?_ | refine Bh Am ?_ | refine Bc Am ?_ | refine Au Am ?_) <;> refine Ad ?_) | ((first | refine Ay Am own_in hS ?_ | refine Cu Am own_in hS ?_ | refine Ao Am own_in hS ?_ | refine As Am own_in hS ?_ | refine g_make Am own_in hS ?_); clear hS; intro b w hS; refine Ad ?_) | ((first | refine Br Am own_in hS ?_ | refine Ap Am own_in hS ?_); clear hS; intro w hS; refine Ad ?_) | (refine Ap Am own_in hS ?_ (hv := hdV_ones _ _); clear hS; intro w hS; refine Ad ?_)) | ((fail_if_success (with_reducible refine cons_in ?_)); first | gi_step | (with_reducible refine wpIn_scope_wide ?_) | (with_reducible refine wpIn_label ?_) | rw [Exit.noGoto_normal] | rw [Exit.noGoto_ret] | rw [Exit.noGoto_exit]))
    exact hK _ _ hS
  case body =>
    rintro l0 k x L b W ⟨h1, h2, sv, Lr, hR, rfl⟩ hIn hN
    have hx := ho x (lastP_num hN.1).2
    have hpo : okP k := okP_sub ho fun y hy => (lastP_num (h1 y hy)).2
    have hkl := vpre_len h1 h2
    have s1 : csz (hdV x.1 x.2) = 129 := by rw [hdV_size, hx.1]
    have s3 : (hdV x.1 x.2).size = 129 := by rw [← csz_is]; exact s1
    have hSL := hS
    replace hS := hIn.round
    obtain ⟨p, c, hp⟩ := hR.slice
    subst hp
    repeat' (first | ((with_reducible refine cons_in ?_); first | ((first | refine Ai Am ?_ | refine Al Am ?_ | refine Af Am ?_ | refine Av Am own_in hS ?_ | refine Ba Am own_in hS ?_ | refine Ag Am ?_ | refine Ae Am ?_ | refine Be Am ?_ | refine g_cap Am ?_ | refine Bl Am ?_ | refine Bd Am ?_ | refine Cj Am ?_ | refine Ca Am ?_ | refine Cz Am ?_ | refine Cq Am ?_ | refine Ak Am ?_ | refine Aj Am ?_ | refine Aw Am (fun hc => ?_) (fun hc => ?_) | refine Cg Am ?_ | refine Bz Am ?_ | refine Ck Am ?_ | refine Cd Am ?_ | refine Az Am ?_ | refine g_field1 Am ?_ | refine g_fieldR Am ?_ | refine Bx Am ?_ | refine Bu Am ?_ | refine Ax Am ?_ | refine Dj Am ?_ | refine Bq Am ?_ | refine Bk Am ?_ | refine Bw Am ?_ | refine Bh Am ?_ | refine Bc Am ?_ | refine Au Am ?_) <;> refine Ad ?_) | ((first | refine Ay Am own_in hS ?_ | refine Cu Am own_in hS ?_ | refine Ao Am own_in hS ?_ | refine As Am own_in hS ?_ | refine g_make Am own_in hS ?_); clear hS; intro b w hS; refine Ad ?_) | ((first | refine Br Am own_in hS ?_ | refine Ap Am own_in hS ?_); clear hS; intro w hS; refine Ad ?_)) | ((fail_if_success (with_reducible refine cons_in ?_)); first | gi_step | (with_reducible refine wpIn_scope_wide ?_) | (with_reducible refine wpIn_label ?_) | rw [Exit.noGoto_normal] | rw [Exit.noGoto_ret] | rw [Exit.noGoto_exit]))
    replace hS := own_in.perm hS (List.Perm.cons _ (List.perm_append_comm (l₁ := [_, _]) (l₂ := Lr)))
    refine s_appL (f := putC) (x0 := x) Am own_in hS hR (by rfl) (by rfl) (by rfl) (by rfl) (by infer_instance) (fun a ha => putC_len (hpo a ha).1) (putC_len hx.1) putC_one (by unfold maxLen; omega) ?_
    clear hS hR
    intro sv2 Lr2 w2 hR hS
    replace hS := own_in.perm hS (List.perm_append_comm (l₁ := Lr2) (l₂ := [_, _]))
    simp only [List.cons_append, List.nil_append] at hS
    obtain ⟨p2, c2, hpv2⟩ := hR.slice
    subst hpv2
    refine Ad ?_
    repeat' (first | ((with_reducible refine cons_in ?_); first | ((first | refine Ai Am ?_ | refine Al Am ?_ | refine Af Am ?_ | refine Av Am own_in hS ?_ | refine Ba Am own_in hS ?_ | refine Ag Am ?_ | refine Ae Am ?_ | refine Be Am ?_ | refine g_cap Am ?_ | refine Bl Am ?_ | refine Bd Am ?_ | refine Cj Am ?_ | refine Ca Am ?_ | refine Cz Am ?_ | refine Cq Am ?_ | refine Ak Am ?_ | refine Aj Am ?_ | refine Aw Am (fun hc => ?_) (fun hc => ?_) | refine Cg Am ?_ | refine Bz Am ?_ | refine Ck Am ?_ | refine Cd Am ?_ | refine Az Am ?_ | refine g_field1 Am ?_ | refine g_fieldR Am ?_ | refine Bx Am ?_ | refine Bu Am ?_ | refine Ax Am ?_ | refine Dj Am ?_ | refine Bq Am ?_ | refine Bk Am ?_ | refine Bw Am ?_ | refine Bh Am ?_ | refine Bc Am ?_ | refine Au Am ?_) <;> refine Ad ?_) | ((first | refine Ay Am own_in hS ?_ | refine Cu Am own_in hS ?_ | refine Ao Am own_in hS ?_ | refine As Am own_in hS ?_ | refine g_make Am own_in hS ?_); clear hS; intro b w hS; refine Ad ?_) | ((first | refine Br Am own_in hS ?_ | refine Ap Am own_in hS ?_); clear hS; intro w hS; refine Ad ?_)) | ((fail_if_success (with_reducible refine cons_in ?_)); first | gi_step | (with_reducible refine wpIn_scope_wide ?_) | (with_reducible refine wpIn_label ?_) | rw [Exit.noGoto_normal] | rw [Exit.noGoto_ret] | rw [Exit.noGoto_exit]))
    refine ⟨_, hS.tail, ?_, ?_, _, Lr2, hR, rfl⟩
    · intro y hy
      rcases List.mem_append.1 hy with hy | hy
      · exact h1 y hy
      · simp at hy; subst hy; exact hN.1
    · rw [List.map_append, List.nodup_append]
      exact ⟨h2, by simp, fun a ha z hz => by
        simp at hz; subst hz
        obtain ⟨y, hy, rfl⟩ := List.mem_map.1 ha
        exact hN.2 y hy⟩
  case stop => exact fun D c' L W h => h.elim
  case done =>
    rintro D pre L W hfin ⟨h1, h2, sv, Lr, hR, rfl⟩ hIn hD hD0
    have hDw : w0.heap.size ≤ D := Nat.le_trans hS.below.size hD0
    replace hS : StD w0 D W _ := ⟨hS.range hIn, hD⟩
    obtain ⟨p, c, hp⟩ := hR.slice
    subst hp
    repeat' (first | ((with_reducible refine Ac ?_); first | ((first | refine Ai Aa ?_ | refine Al Aa ?_ | refine Af Aa ?_ | refine Av Aa own_stD hS ?_ | refine Ba Aa own_stD hS ?_ | refine Ar Aa ?_) <;> refine Ad ?_) | ((first | refine Ay Aa own_stD hS ?_ | refine Cu Aa own_stD hS ?_ | refine Ao Aa own_stD hS ?_ | refine As Aa own_stD hS ?_); clear hS; intro b w hS; refine Ad ?_) | ((first | refine Br Aa own_stD hS ?_ | refine Ap Aa own_stD hS ?_ | refine Aq Aa own_stD hS ?_); clear hS; intro w hS; refine Ad ?_)) | ((fail_if_success (with_reducible refine Ac ?_)); first | go_step | go_step3 | rw [Exit.noGoto_normal] | rw [Exit.noGoto_ret] | rw [Exit.noGoto_exit]))
    refine postMR (.inl rfl) rfl hS.2 ?_
    have hS3 := hS.shut hDw
    go_ret
    exact ⟨_, pre, rfl, hR.own hS3 (fun x hx => List.mem_cons_of_mem _ hx), h1, h2, hfin, hS3.below⟩
end Go.Proofs.Ytcjncidahjneaaa
