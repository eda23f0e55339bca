/-
  Laws that the claims of this seat use, of several texts in one: IterO, IterP, IterB, RangeP, PostM, Sh11, Sh12, Sh13. No condition of their own.
-/
import Derived.Test.YtcjncidahjneaaaJF0

namespace Go.Proofs.Ytcjncidahjneaaa
open Go.RowKit
/-- How a round's body may be left: it goes on, or by a jump. -/
def roundEndO (I : List (Nat × Obj) → Prop) (Ix : Code → List (Nat × Obj) → Prop) (L0 : List (Nat × Obj)) (W0 : World) : Exit → Act → World → Prop
  | .normal, _, W => ∃ L, Rd L0 W0 L W ∧ I L
  | .ret, _, W => ∃ L, Rd L0 W0 L W ∧ Ix .ret L
  | .exit id, _, W => ∃ L, Rd L0 W0 L W ∧ Ix (.exit id) L
  | .goto t, _, W => ∃ L, Rd L0 W0 L W ∧ Ix (.goto t) L
  | .panic _, _, _ => False
  | .outgrown, _, _ => False
theorem rd_of_full {E0 E : List (Nat × Obj)} {L0 L : List (Nat × Obj)} {w W1 W : World} (hb : Below w.heap.size w W1) (hk : E.map (·.1) = E0.map (·.1)) (hE : ∀ x ∈ E0, w.heap.size ≤ x.1) (h : Rd (E0 ++ L0) W1 (E ++ L) W) : Rd L0 w L W := by
  have hnd := h.holds.2
  rw [List.map_append, List.nodup_append] at hnd
  have hs := hb.size
  refine ⟨⟨fun x hx => h.holds.1 x (List.mem_append_right _ hx), hnd.2.1⟩, ⟨h.kept.os.trans hb.os, h.kept.tape.trans hb.tape, h.kept.output.trans hb.output, Nat.le_trans hs h.kept.size, fun k hk2 hn => ?_⟩, fun x hx => ?_⟩
  · refine (h.kept.block k (by omega) (fun hm => ?_)).trans (hb.block k hk2)
    rw [List.map_append, List.mem_append] at hm
    rcases hm with hm | hm
    · obtain ⟨y, hy, rfl⟩ := List.mem_map.1 hm
      have := hE y hy; omega
    · exact hn hm
  · rcases h.fresh x (List.mem_append_right _ hx) with h1 | h1
    · rw [List.map_append, List.mem_append] at h1
      rcases h1 with h1 | h1
      · rw [← hk] at h1
        exact (hnd.2.2 _ h1 _ (List.mem_map.2 ⟨x, hx, rfl⟩) rfl).elim
      · exact .inl h1
    · exact .inr (by omega)
/-- **The loop 'for .. := range g { .. }' over an iterator that has its contract.** -/
theorem wp_rangeO {P : Program} {g : Operand} {ps : Array Tmp} {assign body : Code} {Q : Exit → Act → World → Prop} {a : Act} {w : World}
    {gf : Nat} {lb : Array Value} (hg : a.eval g = .func (.func gf) #[] lb) (eg : ∀ args w, (callFunc gf args).run P w = .ok (.enter gf args) w)
    {els : Nat → Array Value} {N : Option Nat} {R : List Nat} {W0 : World} (hit : IterAt P gf lb els N R W0) (hb0 : Below W0.heap.size W0 w) (hps : ∀ k, (els k).size = ps.size)
    (I : Nat → List (Nat × Obj) → Prop) (Ix : Code → List (Nat × Obj) → Prop) (M : Nat) (hM : N = none → ∀ k L, I k L → k < M)
    (L0 : List (Nat × Obj)) (h0 : I 0 L0) (hH : Holds w (L0)) (hR : ∀ b ∈ R, b < w.heap.size ∧ b ∉ L0.map (·.1)) (a₁ : Nat → Act)
    (hassign : ∀ (l k : Nat) (W : World) (K : Act → World → Prop), K (a₁ k) W →
      assign.wpIn (Fence.wide.inRound l) 0 P (Exit.then K (fun _ _ _ => False)) { tmps := (ps.zip (els k)).foldl (fun t (p, v) => t.setIfInBounds p v) a.tmps, defers := [] } W)
    (hbody : ∀ (l k : Nat) (L : List (Nat × Obj)) (W : World), I k L → Rd L0 w L W → (∀ n, N = some n → k < n) → body.wpIn (Fence.wide.inRound l) 0 P (roundEndO (I (k + 1)) Ix L W) (a₁ k) W)
    (hdone : ∀ (D n : Nat) (L : List (Nat × Obj)) (W : World), N = some n → I n L → Rd L0 w L W → W.heap[D]? = some (.deferred (some [])) → w.heap.size ≤ D → D ∉ L.map (·.1) → Q .normal { a with defers := { target := .collected D, args := #[] } :: a.defers } W)
    (hstop : ∀ (D : Nat) (c : Code) (L : List (Nat × Obj)) (W : World), Ix c L → Rd L0 w L W → W.heap[D]? = some (.deferred (some [])) → w.heap.size ≤ D → D ∉ L.map (·.1) → c.wp P Q { a with defers := { target := .collected D, args := #[] } :: a.defers } W) :
    (Code.rangeFunc g ps assign body).wp P Q a w := by
  refine (wpIn_wide (n := 0)).1 (wpIn_rangeFunc ?_)
  intro fn hfn
  obtain ⟨rec, hrec⟩ : ∃ rec : LoopState → Option Code → Loop, rec = fun st pe => { state := st, pending := pe, fn, tmps := a.tmps, params := ps, assign, body, defers := w.heap.size } := ⟨_, rfl⟩
  obtain ⟨W1, hW1⟩ : ∃ W1, (w.alloc (.deferred (some []))).alloc (.loop (rec .ready none)) = W1 := ⟨_, rfl⟩
  have hL1 : W1.heap[w.heap.size + 1]? = some (.loop (rec .ready none)) := by
    rw [← hW1]; have := World.alloc_heap_new (w.alloc (.deferred (some []))) (.loop (rec .ready none)); rwa [World.size_alloc] at this
  have hK1 : W1.heap[w.heap.size]? = some (.deferred (some [])) := by
    rw [← hW1]; exact (Below.heap_alloc _ _ _ (by simp)).trans (World.alloc_heap_new w _)
  have hbW : Below w.heap.size w W1 := by rw [← hW1]; exact ((Below.refl _ w).alloc (Nat.le_refl _) _).alloc (by simp) _
  have hb1 : Below W0.heap.size W0 W1 := hb0.trans (hbW.mono hb0.size)
  have hHk : Holds W1 (L0) := hH.kept (B := []) (Kept.of_below hbW) (fun _ _ => List.not_mem_nil)
  have hn1 : ∀ m, w.heap.size ≤ m → m ∉ L0.map (·.1) := fun m hm0 hm => by
    obtain ⟨x, hx, he⟩ := List.mem_map.1 hm
    have := hH.lt hx; omega
  have hF0 : Holds W1 ([(w.heap.size + 1, .loop (rec .ready none)), (w.heap.size, .deferred (some []))] ++ L0) := by
    refine ⟨fun x hx => ?_, ?_⟩
    · simp only [List.cons_append, List.nil_append, List.mem_cons] at hx
      rcases hx with rfl | rfl | hx
      · exact hL1
      · exact hK1
      · exact hHk.1 x hx
    · have := hH.2
      simp only [List.cons_append, List.nil_append, List.map_cons, List.nodup_cons, List.mem_cons, not_or]
      exact ⟨⟨by omega, hn1 _ (by omega)⟩, hn1 _ (Nat.le_refl _), this⟩
  have hE0 : ∀ x ∈ [(w.heap.size + 1, Obj.loop (rec .ready none)), (w.heap.size, .deferred (some []))], w.heap.size ≤ x.1 := by
    intro x hx
    simp only [List.mem_cons, List.not_mem_nil, or_false] at hx
    rcases hx with rfl | rfl
    · exact Nat.le_succ _
    · exact Nat.le_refl _
  refine ⟨w.heap.size + 1, [{ target := .collected w.heap.size, args := #[] }], W1, { target := .fn (.func gf) lb, args := #[.func (.yield (w.heap.size + 1)) #[] #[]] }, W1, gf,
    #[.func (.yield (w.heap.size + 1)) #[] #[]] ++ lb, W1, ?_, ?_, fun _ _ => trivial, ?_, (fun h => by cases h), ?_⟩
  · rw [← hW1, hrec]; exact run_enterLoop_outer _ _ _ _ _
  · simp only [resolve, hg]
    simp [go_sem]
  · simp [invoke, go_sem, eg]
  · refine callsIn_wide.2 ?_
    refine (hit (w.heap.size + 1)
      (fun k L' => ∃ L, L' = [(w.heap.size + 1, .loop (rec .ready none)), (w.heap.size, .deferred (some []))] ++ L ∧ I k L)
      (fun L' => ∃ L c, L' = [(w.heap.size + 1, .loop (rec .done (some c))), (w.heap.size, .deferred (some []))] ++ L ∧ Ix c L)
      M W1 ([(w.heap.size + 1, .loop (rec .ready none)), (w.heap.size, .deferred (some []))] ++ L0) hb1 ?_ ?_ ⟨L0, rfl, h0⟩ hF0 ?_).mono ?_
    · intro b hb
      obtain ⟨h1, h2⟩ := hR b hb
      simp only [List.cons_append, List.nil_append, List.map_cons, List.mem_cons, not_or]
      exact ⟨by omega, by omega, h2⟩
    · rintro hN k L' ⟨L, _, hI⟩; exact hM hN k L hI
    · -- ONE ROUND
      rintro k L' W ⟨L, rfl, hI⟩ hRd hkn
      have hl : W.heap[w.heap.size + 1]? = some (.loop (rec .ready none)) := hRd.holds.1 _ (List.mem_cons_self ..)
      have hy := run_yield (P := P) (args := els k) hl (by rw [hrec]; exact hps k)
      rw [hrec] at hy
      refine ⟨fn, _, assign, body, hy, roundIn_of_wpIn hfn (hassign _ k W _ ⟨_, run_beginRound hl (by rw [hrec]), ?_⟩)⟩
      have hRd2 := Rd.put (L := (w.heap.size, .deferred (some [])) :: L) hRd (.loop { rec .ready none with state := .busy })
      have hs2 := Rd.put (L := (w.heap.size, .deferred (some [])) :: L) (Rd.refl hRd.holds) (.loop { rec .ready none with state := .busy })
      generalize W.putObj (w.heap.size + 1) (.loop { rec .ready none with state := .busy }) = W2 at *
      have hIn : Rd L0 w L W2 := rd_of_full (E0 := [(w.heap.size + 1, .loop (rec .ready none)), (w.heap.size, .deferred (some []))]) (E := [(w.heap.size + 1, .loop { rec .ready none with state := .busy }), (w.heap.size, .deferred (some []))]) hbW rfl hE0 hRd2
      refine wpIn_mono (hbody _ k L W2 hI hIn hkn) ?_
      have fin : ∀ (jump : Option Code) (L2 : List (Nat × Obj)) (W3 : World), Rd L W2 L2 W3 →
          ∃ W4, (Instr.endRound (w.heap.size + 1) jump).run P W3 = .ok (.bool jump.isNone) W4 ∧
            Rd ([(w.heap.size + 1, .loop (rec .ready none)), (w.heap.size, .deferred (some []))] ++ L) W ([(w.heap.size + 1, .loop (rec (if jump.isNone then .ready else .done) jump)), (w.heap.size, .deferred (some []))] ++ L2) W4 := fun jump L2 W3 h3 => by
        have hf := Rd.frame (E := [(w.heap.size + 1, .loop { rec .ready none with state := .busy }), (w.heap.size, .deferred (some []))]) h3 hRd2.holds
        have hl3 : W3.heap[w.heap.size + 1]? = some (.loop { rec .ready none with state := .busy }) := hf.holds.1 _ (List.mem_cons_self ..)
        have hr := run_endRound (P := P) jump hl3
        refine ⟨_, hr, ?_⟩
        have h5 := Rd.put (L := (w.heap.size, .deferred (some [])) :: L2) (hs2.trans hf) (.loop (rec (if jump.isNone then .ready else .done) jump))
        rw [hrec] at h5 ⊢
        exact h5
      rintro e a3 W3 hp
      cases e with
      | normal =>
        obtain ⟨L2, h3, hi3⟩ := hp
        obtain ⟨W4, hr, h4⟩ := fin none L2 W3 h3
        exact ⟨_, _, hr, _, h4, .inl ⟨rfl, L2, rfl, hi3⟩⟩
      | ret =>
        obtain ⟨L2, h3, hi3⟩ := hp
        obtain ⟨W4, hr, h4⟩ := fin (some .ret) L2 W3 h3
        exact ⟨_, _, hr, _, h4, .inr ⟨rfl, L2, .ret, rfl, hi3⟩⟩
      | exit id =>
        obtain ⟨L2, h3, hi3⟩ := hp
        obtain ⟨W4, hr, h4⟩ := fin (some (.exit id)) L2 W3 h3
        exact ⟨_, _, hr, _, h4, .inr ⟨rfl, L2, .exit id, rfl, hi3⟩⟩
      | goto t =>
        obtain ⟨L2, h3, hi3⟩ := hp
        obtain ⟨W4, hr, h4⟩ := fin (some (.goto t)) L2 W3 h3
        exact ⟨_, _, hr, _, h4, .inr ⟨rfl, L2, .goto t, rfl, hi3⟩⟩
      | panic ch => exact hp.elim
      | outgrown => exact hp.elim
    · -- BEHIND THE ITERATOR
      rintro e W2 ⟨⟨v, rfl⟩, L', hRd, (⟨n, hN, L, rfl, hI⟩ | ⟨L, c, rfl, hI⟩)⟩
      · have hl : W2.heap[w.heap.size + 1]? = some (.loop (rec .ready none)) := hRd.holds.1 _ (List.mem_cons_self ..)
        have hr := run_endLoop (P := P) hl (by rw [hrec]; simp)
        have hR2 := Rd.put (L := (w.heap.size, .deferred (some [])) :: L) hRd (.loop (rec .exhausted (none)))
        rw [show ({ rec .ready none with state := .exhausted } : Loop) = rec .exhausted (none) by rw [hrec], show (rec .ready none).pending = none by rw [hrec]] at hr
        refine ⟨none, _, hr, ?_⟩
        have hnd := hR2.holds.2
        simp only [List.map_cons, List.nodup_cons] at hnd
        exact hdone w.heap.size n L _ hN hI (rd_of_full (E0 := [(w.heap.size + 1, .loop (rec .ready none)), (w.heap.size, .deferred (some []))]) (E := [(w.heap.size + 1, .loop (rec .exhausted (none))), (w.heap.size, .deferred (some []))]) hbW rfl hE0 hR2) (hR2.holds.1 _ (List.mem_cons_of_mem _ (List.mem_cons_self ..))) (Nat.le_refl _) hnd.2.1
      · have hl : W2.heap[w.heap.size + 1]? = some (.loop (rec .done (some c))) := hRd.holds.1 _ (List.mem_cons_self ..)
        have hr := run_endLoop (P := P) hl (by rw [hrec]; simp)
        have hR2 := Rd.put (L := (w.heap.size, .deferred (some [])) :: L) hRd (.loop (rec .exhausted (some c)))
        rw [show ({ rec .done (some c) with state := .exhausted } : Loop) = rec .exhausted (some c) by rw [hrec], show (rec .done (some c)).pending = some c by rw [hrec]] at hr
        refine ⟨some c, _, hr, ?_⟩
        have hnd := hR2.holds.2
        simp only [List.map_cons, List.nodup_cons] at hnd
        exact (wpIn_wide (n := 0)).2 (hstop w.heap.size c L _ hI (rd_of_full (E0 := [(w.heap.size + 1, .loop (rec .ready none)), (w.heap.size, .deferred (some []))]) (E := [(w.heap.size + 1, .loop (rec .exhausted (some c))), (w.heap.size, .deferred (some []))]) hbW rfl hE0 hR2) (hR2.holds.1 _ (List.mem_cons_of_mem _ (List.mem_cons_self ..))) (Nat.le_refl _) hnd.2.1)
theorem Rd.newObj {L0 L : List (Nat × Obj)} {W W1 : World} (h : Rd L0 W L W1) {D : Nat} (hb : W.heap.size ≤ D) (hn : D ∉ L.map (·.1)) (o : Obj) : Rd L0 W L (W1.putObj D o) := by
  refine ⟨⟨fun x hx => ?_, h.holds.2⟩, ⟨h.kept.os, h.kept.tape, h.kept.output, by have := h.kept.size; simpa using this, fun k hk hn2 => ?_⟩, h.fresh⟩
  · exact (World.putObj_heap_other (fun e => hn (by rw [← e]; exact List.mem_map.2 ⟨x, hx, rfl⟩))).trans (h.holds.1 x hx)
  · exact (World.putObj_heap_other (by omega)).trans (h.kept.block k hk hn2)
theorem Holds.newer {W : World} {L : List (Nat × Obj)} (h : Holds W L) {b : Nat} (hb : W.heap.size ≤ b) : b ∉ L.map (·.1) := fun hm => by
  obtain ⟨x, hx, he⟩ := List.mem_map.1 hm
  have := h.lt hx
  omega
end Go.Proofs.Ytcjncidahjneaaa

namespace Go.Proofs.Ytcjncidahjneaaa
open Go.RowKit
attribute [local irreducible] wpList wpListIn
section
variable {P : Program} {ops : Array Oper} {o : Oper} {rest : List Oper} {a : Act} {w : World} {v : Value}
theorem r_slice3 {t : TypeId} {x lo hi mx : Operand} {b off n c m q n' c' : Nat} {k1 k2 k3 : IntKind} {l h u : Int} (hop : o.op = .slice t x (some lo) (some hi) (some mx)) (hx : evO a x = some (.slice (some ⟨b, off, none⟩) n c)) (hm : ElT P t m) (hl : evO a lo = some (.int k1 l)) (hh : evO a hi = some (.int k2 h)) (hu : evO a mx = some (.int k3 u))
    (h0 : 0 ≤ l ∧ l ≤ h ∧ h ≤ u ∧ u ≤ (c : Int) ∧ l < u) (hq : off + l.toNat * m = q) (hn : h.toNat - l.toNat = n') (hc : u.toNat - l.toNat = c') : (execOp a.eval o).run P w = .ok (.value (.slice (some ⟨b, q, none⟩) n' c')) w := by
  obtain ⟨e, hu2, hs⟩ := elT_iff hm.is
  unfold execOp; rw [hop]
  have b1 := run_sliceBound (P := P) (w := w) (k := k3) (i := u) (y := c) (c := .slice3Acap) (by omega)
  have b2 := run_sliceBound (P := P) (w := w) (k := k2) (i := h) (y := u.toNat) (c := .slice3B) (by omega)
  have b3 := run_sliceBound (P := P) (w := w) (k := k1) (i := l) (y := h.toNat) (c := .slice3C) (by omega)
  have hne : ¬ u.toNat = l.toNat := by omega
  simp only [Option.map_some, Bb hx, Bb hl, Bb hh, Bb hu, Instr.sliceAt, Instr.slice, Instr.sliceBounds, Sem.run_bind, run_underlying hu2, Result.andThen_ok, if_true, Option.isSome_some, b1, b2, b3, run_sizeOf hs, Sem.run_pure, if_neg hne, hn, hc]
  subst hq
  simp [addr_add]
theorem run_min2 (ts : Array TypeId) (t : TypeId) (k k' : IntKind) (x y : Int) : (Builtin.min_ ts t #[.int k x, .int k' y]).run P w = .ok (.int k (min x y)) w := by
  have e : (if y < x then y else x) = min x y := by
    rw [Int.min_def]
    split <;> split <;> omega
  simp [Builtin.min_, Builtin.min2, e]
theorem r_min {x y : Operand} {ts : Array TypeId} {k k' : IntKind} {m n q : Int} (hop : o.op = .call { callee := .builtin .min, args := #[x, y], argTypes := ts }) (hx : evO a x = some (.int k m)) (hy : evO a y = some (.int k' n)) (hq : min m n = q) : (execOp a.eval o).run P w = .ok (.value (.int k q)) w := by
  unfold execOp; rw [hop]
  subst hq
  simp [Bb hx, Bb hy, resolve, invoke, builtin, run_min2]
theorem r_arrAt {t e m n c : Nat} {x : Operand} {p : Option Addr} (hop : o.op = .sliceToArrayPointer t x) (hx : evO a x = some (.slice p n c)) (hu : P.underlying t = some (.array m e)) (hmn : m ≤ n) : (execOp a.eval o).run P w = .ok (.value (.pointer p)) w := by
  unfold execOp; rw [hop]
  have hlt : ¬ n < m := by omega
  simp [Bb hx, Instr.arrayAt, Sem.run_bind, run_underlying hu, hlt]
end
theorem YieldAt.inRound {P : Program} {l lp : Nat} {args : Array Value} {w : World} {R : Ending → World → Prop} (h : YieldAt Fence.wide 0 P l args w R) : YieldAt (Fence.wide.inRound lp) 0 P l args w R := h
/-- A yield that is called in a round of another loop. -/
theorem s_yieldR {P : Program} {ops : Array Oper} {Q : Exit → Act → World → Prop} {o : Oper} {rest : List Oper} {a : Act} {w : World} {x : Operand} {xs : Array Operand} {ts : Array TypeId} {l lp : Nat} {vs : List Value} {args : Array Value} {R : Ending → World → Prop}
    (hw : Region.wanted o (yielded ops a.tmps) = true) (hop : o.op = .call { callee := .value x, args := xs, argTypes := ts }) (hx : evO a x = some (.func (.yield l) #[] #[])) (hxs : evs a xs.toList = some vs) (hA : vs.toArray = args) (hY : YieldAt Fence.wide 0 P l args w R)
    (hk : ∀ e w', R e w' → ∃ v, e = .returned v ∧ wpListIn (Fence.wide.inRound lp) 0 P ops Q rest (a.put o.dst v) w') : wpListIn (Fence.wide.inRound lp) 0 P ops Q (o :: rest) a w := by
  obtain ⟨fn, tmps, assign, body, hy, hRo⟩ := YieldAt.inRound (lp := lp) hY
  have hr : (execOp a.eval o).run P w = .ok (.round l fn tmps assign body) w := by
    unfold execOp; rw [hop]
    have e1 : xs.map a.eval = args := by
      have := evs_eval hxs
      rw [← hA]
      apply Array.ext'
      simp [this]
    have e2 : #[] ++ xs.map a.eval = args := by rw [e1]; apply Array.ext'; simp
    simp only [resolve, Bb hx, Deferred.ofValue, Sem.run_bind, Sem.run_pure, Result.andThen_ok, invoke, e2, hy]
  unfold wpListIn
  rw [if_pos hw]
  unfold Oper.wpIn
  refine ⟨fun _ _ => trivial, ?_⟩
  rw [Oper.semAt_plain _ _ _ (by rw [hop]; intro c hc; cases hc), hr, Oper.uponIn_round]
  refine ⟨fun h => (by cases h), ?_⟩
  refine hRo.mono ?_
  intro e w' hR
  obtain ⟨v, rfl, h⟩ := hk e w' hR
  exact h
end Go.Proofs.Ytcjncidahjneaaa

namespace Go.Proofs.Ytcjncidahjneaaa
open Go.RowKit
/-- **The loop 'for .. := range g { .. }' over an iterator that has its contract; the round's variables may lie in blocks of their own.** -/
theorem wp_range2 {P : Program} {g : Operand} {ps : Array Tmp} {assign body : Code} {Q : Exit → Act → World → Prop} {a : Act} {w : World}
    {gf : Nat} {lb : Array Value} (hg : a.eval g = .func (.func gf) #[] lb) (eg : ∀ args w, (callFunc gf args).run P w = .ok (.enter gf args) w)
    {els : Nat → Array Value} {N : Option Nat} {R : List Nat} {W0 : World} (hit : IterAt P gf lb els N R W0) (hb0 : Below W0.heap.size W0 w) (hps : ∀ k, (els k).size = ps.size)
    (I : Nat → List (Nat × Array Value × TypeId) → Prop) (Ix : Code → List (Nat × Array Value × TypeId) → Prop) (M : Nat) (hM : N = none → ∀ k L, I k L → k < M)
    (L0 : List (Nat × Array Value × TypeId)) (h0 : I 0 L0) (hH : Holds w (objs L0)) (hR : ∀ b ∈ R, b < w.heap.size ∧ b ∉ L0.map (·.1)) (A : Nat → List (Nat × Array Value × TypeId) → List (Nat × Array Value × TypeId) → Act → Prop)
    (hassign : ∀ (l k : Nat) (L : List (Nat × Array Value × TypeId)) (W : World), I k L → In L0 w L W → ∀ K : Act → World → Prop, (∀ a1 L' W', In L W L' W' → A k L L' a1 → K a1 W') →
      assign.wpIn (Fence.wide.inRound l) 0 P (Exit.then K (fun _ _ _ => False)) { tmps := (ps.zip (els k)).foldl (fun t (p, v) => t.setIfInBounds p v) a.tmps, defers := [] } W)
    (hbody : ∀ (l k : Nat) (L L' : List (Nat × Array Value × TypeId)) (a1 : Act) (W : World), I k L → A k L L' a1 → In L0 w L' W → (∀ n, N = some n → k < n) → body.wpIn (Fence.wide.inRound l) 0 P (roundEnd (I (k + 1)) Ix L' W) a1 W)
    (hdone : ∀ (D n : Nat) (L : List (Nat × Array Value × TypeId)) (W : World), N = some n → I n L → In L0 w L W → W.heap[D]? = some (.deferred (some [])) → w.heap.size ≤ D → Q .normal { a with defers := { target := .collected D, args := #[] } :: a.defers } W)
    (hstop : ∀ (D : Nat) (c : Code) (L : List (Nat × Array Value × TypeId)) (W : World), Ix c L → In L0 w L W → W.heap[D]? = some (.deferred (some [])) → w.heap.size ≤ D → c.wp P Q { a with defers := { target := .collected D, args := #[] } :: a.defers } W) :
    (Code.rangeFunc g ps assign body).wp P Q a w := by
  refine (wpIn_wide (n := 0)).1 (wpIn_rangeFunc ?_)
  intro fn hfn
  obtain ⟨rec, hrec⟩ : ∃ rec : LoopState → Option Code → Loop, rec = fun st pe => { state := st, pending := pe, fn, tmps := a.tmps, params := ps, assign, body, defers := w.heap.size } := ⟨_, rfl⟩
  obtain ⟨W1, hW1⟩ : ∃ W1, (w.alloc (.deferred (some []))).alloc (.loop (rec .ready none)) = W1 := ⟨_, rfl⟩
  have hL1 : W1.heap[w.heap.size + 1]? = some (.loop (rec .ready none)) := by
    rw [← hW1]; have := World.alloc_heap_new (w.alloc (.deferred (some []))) (.loop (rec .ready none)); rwa [World.size_alloc] at this
  have hK1 : W1.heap[w.heap.size]? = some (.deferred (some [])) := by
    rw [← hW1]; exact (Below.heap_alloc _ _ _ (by simp)).trans (World.alloc_heap_new w _)
  have hbW : Below w.heap.size w W1 := by rw [← hW1]; exact ((Below.refl _ w).alloc (Nat.le_refl _) _).alloc (by simp) _
  have hb1 : Below W0.heap.size W0 W1 := hb0.trans (hbW.mono hb0.size)
  have hHk : Holds W1 (objs L0) := hH.kept (B := []) (Kept.of_below hbW) (fun _ _ => List.not_mem_nil)
  have hn1 : ∀ m, w.heap.size ≤ m → m ∉ L0.map (·.1) := fun m hm0 hm => by
    rw [← objs_keys] at hm
    obtain ⟨x, hx, he⟩ := List.mem_map.1 hm
    have := hH.lt hx; omega
  have hF0 : Holds W1 ([(w.heap.size + 1, .loop (rec .ready none)), (w.heap.size, .deferred (some []))] ++ objs L0) := by
    refine ⟨fun x hx => ?_, ?_⟩
    · simp only [List.cons_append, List.nil_append, List.mem_cons] at hx
      rcases hx with rfl | rfl | hx
      · exact hL1
      · exact hK1
      · exact hHk.1 x hx
    · have := hH.2
      rw [objs_keys] at this
      simp only [List.cons_append, List.nil_append, List.map_cons, objs_keys, List.nodup_cons, List.mem_cons, not_or]
      exact ⟨⟨by omega, hn1 _ (by omega)⟩, hn1 _ (Nat.le_refl _), this⟩
  have hE0 : ∀ x ∈ [(w.heap.size + 1, Obj.loop (rec .ready none)), (w.heap.size, .deferred (some []))], w.heap.size ≤ x.1 := by
    intro x hx
    simp only [List.mem_cons, List.not_mem_nil, or_false] at hx
    rcases hx with rfl | rfl
    · exact Nat.le_succ _
    · exact Nat.le_refl _
  refine ⟨w.heap.size + 1, [{ target := .collected w.heap.size, args := #[] }], W1, { target := .fn (.func gf) lb, args := #[.func (.yield (w.heap.size + 1)) #[] #[]] }, W1, gf,
    #[.func (.yield (w.heap.size + 1)) #[] #[]] ++ lb, W1, ?_, ?_, fun _ _ => trivial, ?_, (fun h => by cases h), ?_⟩
  · rw [← hW1, hrec]; exact run_enterLoop_outer _ _ _ _ _
  · simp only [resolve, hg]
    simp [go_sem]
  · simp [invoke, go_sem, eg]
  · refine callsIn_wide.2 ?_
    refine (hit (w.heap.size + 1)
      (fun k L' => ∃ L, L' = [(w.heap.size + 1, .loop (rec .ready none)), (w.heap.size, .deferred (some []))] ++ objs L ∧ I k L)
      (fun L' => ∃ L c, L' = [(w.heap.size + 1, .loop (rec .done (some c))), (w.heap.size, .deferred (some []))] ++ objs L ∧ Ix c L)
      M W1 ([(w.heap.size + 1, .loop (rec .ready none)), (w.heap.size, .deferred (some []))] ++ objs L0) hb1 ?_ ?_ ⟨L0, rfl, h0⟩ hF0 ?_).mono ?_
    · intro b hb
      obtain ⟨h1, h2⟩ := hR b hb
      simp only [List.cons_append, List.nil_append, List.map_cons, objs_keys, List.mem_cons, not_or]
      exact ⟨by omega, by omega, h2⟩
    · rintro hN k L' ⟨L, _, hI⟩; exact hM hN k L hI
    · -- ONE ROUND
      rintro k L' W ⟨L, rfl, hI⟩ hRd hkn
      have hl : W.heap[w.heap.size + 1]? = some (.loop (rec .ready none)) := hRd.holds.1 _ (List.mem_cons_self ..)
      have hy := run_yield (P := P) (args := els k) hl (by rw [hrec]; exact hps k)
      rw [hrec] at hy
      have hIn0 : In L0 w L W := in_of_full (E0 := [(w.heap.size + 1, .loop (rec .ready none)), (w.heap.size, .deferred (some []))]) (E := [(w.heap.size + 1, .loop (rec .ready none)), (w.heap.size, .deferred (some []))]) hbW rfl hE0 hRd
      refine ⟨fn, _, assign, body, hy, roundIn_of_wpIn hfn (hassign _ k L W hI hIn0 _ fun a1 L' W' hA hAA => ?_)⟩
      have hfA := Rd.frame (E := [(w.heap.size + 1, .loop (rec .ready none)), (w.heap.size, .deferred (some []))]) hA.rd hRd.holds
      have hl' : W'.heap[w.heap.size + 1]? = some (.loop (rec .ready none)) := hfA.holds.1 _ (List.mem_cons_self ..)
      refine ⟨_, run_beginRound hl' (by rw [hrec]), ?_⟩
      have hRd2 := Rd.put (L := (w.heap.size, .deferred (some [])) :: objs L') (hRd.trans hfA) (.loop { rec .ready none with state := .busy })
      have hs2 := Rd.put (L := (w.heap.size, .deferred (some [])) :: objs L') hfA (.loop { rec .ready none with state := .busy })
      generalize W'.putObj (w.heap.size + 1) (.loop { rec .ready none with state := .busy }) = W2 at *
      have hIn : In L0 w L' W2 := in_of_full (E0 := [(w.heap.size + 1, .loop (rec .ready none)), (w.heap.size, .deferred (some []))]) (E := [(w.heap.size + 1, .loop { rec .ready none with state := .busy }), (w.heap.size, .deferred (some []))]) hbW rfl hE0 hRd2
      refine wpIn_mono (hbody _ k L L' a1 W2 hI hAA hIn hkn) ?_
      have fin : ∀ (jump : Option Code) (L2 : List (Nat × Array Value × TypeId)) (W3 : World), In L' W2 L2 W3 →
          ∃ W4, (Instr.endRound (w.heap.size + 1) jump).run P W3 = .ok (.bool jump.isNone) W4 ∧
            Rd ([(w.heap.size + 1, .loop (rec .ready none)), (w.heap.size, .deferred (some []))] ++ objs L) W ([(w.heap.size + 1, .loop (rec (if jump.isNone then .ready else .done) jump)), (w.heap.size, .deferred (some []))] ++ objs L2) W4 := fun jump L2 W3 h3 => by
        have hf := Rd.frame (E := [(w.heap.size + 1, .loop { rec .ready none with state := .busy }), (w.heap.size, .deferred (some []))]) h3.rd hRd2.holds
        have hl3 : W3.heap[w.heap.size + 1]? = some (.loop { rec .ready none with state := .busy }) := hf.holds.1 _ (List.mem_cons_self ..)
        have hr := run_endRound (P := P) jump hl3
        refine ⟨_, hr, ?_⟩
        have h5 := Rd.put (L := (w.heap.size, .deferred (some [])) :: objs L2) (hs2.trans hf) (.loop (rec (if jump.isNone then .ready else .done) jump))
        rw [hrec] at h5 ⊢
        exact h5
      rintro e a3 W3 hp
      cases e with
      | normal =>
        obtain ⟨L2, h3, hi3⟩ := hp
        obtain ⟨W4, hr, h4⟩ := fin none L2 W3 h3
        exact ⟨_, _, hr, _, h4, .inl ⟨rfl, L2, rfl, hi3⟩⟩
      | ret =>
        obtain ⟨L2, h3, hi3⟩ := hp
        obtain ⟨W4, hr, h4⟩ := fin (some .ret) L2 W3 h3
        exact ⟨_, _, hr, _, h4, .inr ⟨rfl, L2, .ret, rfl, hi3⟩⟩
      | exit id =>
        obtain ⟨L2, h3, hi3⟩ := hp
        obtain ⟨W4, hr, h4⟩ := fin (some (.exit id)) L2 W3 h3
        exact ⟨_, _, hr, _, h4, .inr ⟨rfl, L2, .exit id, rfl, hi3⟩⟩
      | goto t =>
        obtain ⟨L2, h3, hi3⟩ := hp
        obtain ⟨W4, hr, h4⟩ := fin (some (.goto t)) L2 W3 h3
        exact ⟨_, _, hr, _, h4, .inr ⟨rfl, L2, .goto t, rfl, hi3⟩⟩
      | panic ch => exact hp.elim
      | outgrown => exact hp.elim
    · -- BEHIND THE ITERATOR
      rintro e W2 ⟨⟨v, rfl⟩, L', hRd, (⟨n, hN, L, rfl, hI⟩ | ⟨L, c, rfl, hI⟩)⟩
      · have hl : W2.heap[w.heap.size + 1]? = some (.loop (rec .ready none)) := hRd.holds.1 _ (List.mem_cons_self ..)
        have hr := run_endLoop (P := P) hl (by rw [hrec]; simp)
        have hR2 := Rd.put (L := (w.heap.size, .deferred (some [])) :: objs L) hRd (.loop (rec .exhausted (none)))
        rw [show ({ rec .ready none with state := .exhausted } : Loop) = rec .exhausted (none) by rw [hrec], show (rec .ready none).pending = none by rw [hrec]] at hr
        refine ⟨none, _, hr, ?_⟩
        exact hdone w.heap.size n L _ hN hI (in_of_full (E0 := [(w.heap.size + 1, .loop (rec .ready none)), (w.heap.size, .deferred (some []))]) (E := [(w.heap.size + 1, .loop (rec .exhausted (none))), (w.heap.size, .deferred (some []))]) hbW rfl hE0 hR2) (hR2.holds.1 _ (List.mem_cons_of_mem _ (List.mem_cons_self ..))) (Nat.le_refl _)
      · have hl : W2.heap[w.heap.size + 1]? = some (.loop (rec .done (some c))) := hRd.holds.1 _ (List.mem_cons_self ..)
        have hr := run_endLoop (P := P) hl (by rw [hrec]; simp)
        have hR2 := Rd.put (L := (w.heap.size, .deferred (some [])) :: objs L) hRd (.loop (rec .exhausted (some c)))
        rw [show ({ rec .done (some c) with state := .exhausted } : Loop) = rec .exhausted (some c) by rw [hrec], show (rec .done (some c)).pending = some c by rw [hrec]] at hr
        refine ⟨some c, _, hr, ?_⟩
        exact (wpIn_wide (n := 0)).2 (hstop w.heap.size c L _ hI (in_of_full (E0 := [(w.heap.size + 1, .loop (rec .ready none)), (w.heap.size, .deferred (some []))]) (E := [(w.heap.size + 1, .loop (rec .exhausted (some c))), (w.heap.size, .deferred (some []))]) hbW rfl hE0 hR2) (hR2.holds.1 _ (List.mem_cons_of_mem _ (List.mem_cons_self ..))) (Nat.le_refl _))
theorem wp_range_box {P : Program} {g : Operand} {ps : Array Tmp} {assign body : Code} {Q : Exit → Act → World → Prop} {a : Act} {w : World}
    {gf : Nat} {lb : Array Value} (hg : a.eval g = .func (.func gf) #[] lb) (eg : ∀ args w, (callFunc gf args).run P w = .ok (.enter gf args) w)
    {els : Nat → Array Value} {N : Option Nat} {R : List Nat} {W0 : World} (hit : IterAt P gf lb els N R W0) (hb0 : Below W0.heap.size W0 w) (hps : ∀ k, (els k).size = ps.size)
    (I : Nat → List (Nat × Array Value × TypeId) → Prop) (Ix : Code → List (Nat × Array Value × TypeId) → Prop) (M : Nat) (hM : N = none → ∀ k L, I k L → k < M)
    (L0 : List (Nat × Array Value × TypeId)) (h0 : I 0 L0) (hH : Holds w (objs L0)) (hR : ∀ b ∈ R, b < w.heap.size ∧ b ∉ L0.map (·.1)) (bx : Nat → Array Value) (bt : TypeId) (act1 : Nat → Nat → Act)
    (hassign : ∀ (l k : Nat) (L : List (Nat × Array Value × TypeId)) (W : World), I k L → In L0 w L W → ∀ K : Act → World → Prop, (∀ b W', In L W ((b, bx k, bt) :: L) W' → K (act1 k b) W') →
      assign.wpIn (Fence.wide.inRound l) 0 P (Exit.then K (fun _ _ _ => False)) { tmps := (ps.zip (els k)).foldl (fun t (p, v) => t.setIfInBounds p v) a.tmps, defers := [] } W)
    (hbody : ∀ (l k : Nat) (L : List (Nat × Array Value × TypeId)) (b : Nat) (W : World), I k L → In L0 w ((b, bx k, bt) :: L) W → (∀ n, N = some n → k < n) → body.wpIn (Fence.wide.inRound l) 0 P (roundEnd (I (k + 1)) Ix ((b, bx k, bt) :: L) W) (act1 k b) W)
    (hdone : ∀ (D n : Nat) (L : List (Nat × Array Value × TypeId)) (W : World), N = some n → I n L → In L0 w L W → W.heap[D]? = some (.deferred (some [])) → w.heap.size ≤ D → Q .normal { a with defers := { target := .collected D, args := #[] } :: a.defers } W)
    (hstop : ∀ (D : Nat) (c : Code) (L : List (Nat × Array Value × TypeId)) (W : World), Ix c L → In L0 w L W → W.heap[D]? = some (.deferred (some [])) → w.heap.size ≤ D → c.wp P Q { a with defers := { target := .collected D, args := #[] } :: a.defers } W) :
    (Code.rangeFunc g ps assign body).wp P Q a w := by
  refine wp_range2 hg eg hit hb0 hps I Ix M hM L0 h0 hH hR (fun k L L' a => ∃ b, L' = (b, bx k, bt) :: L ∧ a = act1 k b) (fun l k L W hI hIn K hK => hassign l k L W hI hIn K fun b W' hW => hK _ _ _ hW ⟨b, rfl, rfl⟩) ?_ hdone hstop
  rintro l k L L' a1 W hI ⟨b, rfl, rfl⟩ hIn hN
  exact hbody l k L b W hI hIn hN
end Go.Proofs.Ytcjncidahjneaaa

namespace Go.Proofs.Ytcjncidahjneaaa
open Go.RowKit
theorem wp_range_plain {P : Program} {g : Operand} {ps : Array Tmp} {assign body : Code} {Q : Exit → Act → World → Prop} {a : Act} {w : World}
    {gf : Nat} {lb : Array Value} (hg : a.eval g = .func (.func gf) #[] lb) (eg : ∀ args w, (callFunc gf args).run P w = .ok (.enter gf args) w)
    {els : Nat → Array Value} {N : Option Nat} {R : List Nat} {W0 : World} (hit : IterAt P gf lb els N R W0) (hb0 : Below W0.heap.size W0 w) (hps : ∀ k, (els k).size = ps.size)
    (I : Nat → List Blk → Prop) (Ix : Code → List Blk → Prop) (M : Nat) (hM : N = none → ∀ k L, I k L → k < M)
    (L0 : List Blk) (h0 : I 0 L0) (hH : Holds w (objs L0)) (hR : ∀ b ∈ R, b < w.heap.size ∧ b ∉ L0.map (·.1)) (act1 : Nat → Act)
    (hassign : ∀ (l k : Nat) (L : List Blk) (W : World), I k L → In L0 w L W → ∀ K : Act → World → Prop, (∀ W', In L W L W' → K (act1 k) W') →
      assign.wpIn (Fence.wide.inRound l) 0 P (Exit.then K (fun _ _ _ => False)) { tmps := (ps.zip (els k)).foldl (fun t (p, v) => t.setIfInBounds p v) a.tmps, defers := [] } W)
    (hbody : ∀ (l k : Nat) (L : List Blk) (W : World), I k L → In L0 w L W → (∀ n, N = some n → k < n) → body.wpIn (Fence.wide.inRound l) 0 P (roundEnd (I (k + 1)) Ix L W) (act1 k) W)
    (hdone : ∀ (D n : Nat) (L : List Blk) (W : World), N = some n → I n L → In L0 w L W → W.heap[D]? = some (.deferred (some [])) → w.heap.size ≤ D → Q .normal { a with defers := { target := .collected D, args := #[] } :: a.defers } W)
    (hstop : ∀ (D : Nat) (c : Code) (L : List Blk) (W : World), Ix c L → In L0 w L W → W.heap[D]? = some (.deferred (some [])) → w.heap.size ≤ D → c.wp P Q { a with defers := { target := .collected D, args := #[] } :: a.defers } W) :
    (Code.rangeFunc g ps assign body).wp P Q a w := by
  refine wp_range2 hg eg hit hb0 hps I Ix M hM L0 h0 hH hR (fun k L L' a => L' = L ∧ a = act1 k) (fun l k L W hI hIn K hK => hassign l k L W hI hIn K fun W' hW => hK _ _ _ hW ⟨rfl, rfl⟩) ?_ hdone hstop
  rintro l k L L' a1 W hI ⟨rfl, rfl⟩ hIn hN
  exact hbody l k L' W hI hIn hN
/-- What came in is as it was, wherever a round stands. -/
theorem In.bytes {w0 w W : World} {L0 L : List Blk} (h : St w0 w L0) (h2 : In L0 w L W) {v : Value} {l : List UInt8} (hv : BytesAt w0 v l) : BytesAt W v l := hv.below (h.range h2).below
end Go.Proofs.Ytcjncidahjneaaa

namespace Go.Proofs.Ytcjncidahjneaaa
open Go.ChangeShapes Go.WideShapes Go.ChangeAt Go.RowKit
theorem postMR {P : Program} {fn : Func} {R : Ending → World → Prop} {a : Act} {w : World} {e : Exit} {D : Nat} (he : e = .ret ∨ e = .normal) (hd : a.defers = [{ target := .collected D, args := #[] }]) (hk : w.heap[D]? = some (.deferred (some [])))
    (h : bodyPost P fn R .ret { a with defers := [] } (w.putObj D (.deferred none))) : bodyPostM Fence.wide 0 P fn R e a w := by
  obtain ⟨_, v, hr, hR⟩ := h
  have key : LeavesInM Fence.wide 0 P fn a.tmps R a.defers .returning w := by
    rw [hd]
    exact ⟨by simp, .inl ⟨D, _, rfl, run_takeDeferred hk, v, hr, hR⟩⟩
  rcases he with rfl | rfl
  · exact key
  · exact key
theorem calls_of_marksR {P : Program} {f : FuncId} {fn : Func} {c : Code} {args : Array Value} {w : World} {R : Ending → World → Prop} (hf : P.funcs[f]? = some fn) (hb : fn.body = some c)
    (h : c.wp P (bodyPostM Fence.wide 0 P fn R) { tmps := args ++ Array.replicate (fn.ntmps - args.size) undef, defers := [] } w) : Calls P f args w R :=
  (callsIn_wide (n := 0)).1 (callsIn_of_wp_marks hf hb trivial (wpIn_wide.2 h))
end Go.Proofs.Ytcjncidahjneaaa

namespace Go.Proofs.Ytcjncidahjneaaa
open Go.ChangeShapes Go.WideShapes Go.ChangeAt Go.RowKit
attribute [local irreducible] wpList wpListIn Oper.quietAt wpM
set_option maxRecDepth 100000 in
set_option maxHeartbeats 2000000 in
theorem chunk1_iter (tb off c m g1 g2 : Nat) (hc : 64 * m ≤ c) (W0 : World) (h1 : blk W0 g1 = some (.cells #[.slice (some ⟨tb, off, none⟩) (64 * m) c] 22 (0, 0))) (h2 : blk W0 g2 = some (.cells #[.int .i64 64] 3 (0, 0))) (hm : m ≤ 100000000) :
    IterAt Try.prog 96 #[.pointer (some ⟨g1, 0, none⟩), .pointer (some ⟨g2, 0, none⟩)] (fun k => #[.slice (some ⟨tb, off + 64 * k, none⟩) 64 64]) (some m) [g1, g2] W0 := by
  intro l J Jx M W L0 hbW hR hM hJ0 hH hY
  have h1W : blk W g1 = some (.cells #[.slice (some ⟨tb, off, none⟩) (64 * m) c] 22 (0, 0)) := (hbW.block g1 (blk_lt h1)).trans h1
  have h2W : blk W g2 = some (.cells #[.int .i64 64] 3 (0, 0)) := (hbW.block g2 (blk_lt h2)).trans h2
  have hn1 : g1 ∉ L0.map (·.1) := hR g1 (List.mem_cons_self ..)
  have hn2 : g2 ∉ L0.map (·.1) := hR g2 (List.mem_cons_of_mem _ (List.mem_cons_self ..))
  refine (callsIn_wide (n := 1)).1 ?_
  refine callsIn_of_wp Try.func96 rfl trivial ?_ rfl
  simp only [Try.ntmps96, List.size_toArray, List.length_cons, List.length_nil, Nat.reduceAdd, Nat.reduceSub, Array.replicate_succ, Array.replicate_zero, List.push_toArray, List.append_toArray, List.nil_append, List.cons_append]
  repeat' (first | ((with_reducible refine cons_in ?_); first | ((first | refine Ai Ah ?_ | refine Al Ah ?_ | refine Af Ah ?_ | refine Av Ah own_in hS ?_ | refine Bs Ah (by first | exact h1W) ?_ | refine Bs Ah (by first | exact h2W) ?_ | refine Ba Ah own_in hS ?_ | refine Da Ah (by first | exact h1W) ?_ | refine Da Ah (by first | exact h2W) ?_ | refine Ag Ah ?_ | refine Ae Ah ?_ | refine Be Ah ?_ | refine g_cap Ah ?_ | refine Bl Ah ?_ | refine Bd Ah ?_ | refine Cj Ah ?_ | refine Ca Ah ?_ | refine Cz Ah ?_ | refine Cq Ah ?_ | refine Ak Ah ?_ | refine Aj Ah ?_ | refine Aw Ah (fun hc => ?_) (fun hc => ?_) | refine Cg Ah ?_ | refine Bz Ah ?_ | refine Ck Ah ?_ | refine Cd Ah ?_ | refine Az Ah ?_ | refine g_field1 Ah ?_ | refine g_fieldR Ah ?_ | refine Bx Ah ?_ | refine Bu Ah ?_ | refine Ax Ah ?_ | refine Dj Ah ?_ | refine Bq Ah ?_ | refine Bk Ah ?_ | refine Bw Ah ?_ | refine Bh Ah ?_ | refine Bc Ah ?_ | refine Au Ah ?_) <;> refine Ad ?_) | ((first | refine Ay Ah own_in hS ?_ | refine Cu Ah own_in hS ?_ | refine Ao Ah own_in hS ?_ | refine As Ah own_in hS ?_ | refine g_make Ah own_in hS ?_); clear hS; intro b w hS; refine Ad ?_) | ((first | refine Br Ah own_in hS ?_ | refine Ap Ah own_in hS ?_); clear hS; intro w hS; refine Ad ?_)) | ((fail_if_success (with_reducible refine cons_in ?_)); first | gi_step | (with_reducible refine wpIn_scope_wide ?_) | (with_reducible refine wpIn_label ?_) | rw [Exit.noGoto_normal] | rw [Exit.noGoto_ret] | rw [Exit.noGoto_exit]))
  gi_loopg [4, 5] m (fun r u4 u5 wr => ∃ k L, r + k = m ∧ u4 = .int .i64 (64 * (k : Int)) ∧ J k L ∧ Rd L0 W L wr)
  case atStart => exact ⟨0, L0, by omega, rfl, hJ0, .refl hH⟩
  case round =>
    obtain ⟨k, L, hk, rfl, hJ, hRd⟩ := hrel
    have h1r : blk wr g1 = some (.cells #[.slice (some ⟨tb, off, none⟩) (64 * m) c] 22 (0, 0)) := (hRd.far h1W hn1).1
    have h2r : blk wr g2 = some (.cells #[.int .i64 64] 3 (0, 0)) := (hRd.far h2W hn2).1
    by_cases hlt : k < m
    · repeat' (first | ((with_reducible refine cons_in ?_); first | ((first | refine Ai Ah ?_ | refine Al Ah ?_ | refine Af Ah ?_ | refine Av Ah own_in hS ?_ | refine Bs Ah (by first | exact h1r) ?_ | refine Bs Ah (by first | exact h2r) ?_ | refine Ba Ah own_in hS ?_ | refine Da Ah (by first | exact h1r) ?_ | refine Da Ah (by first | exact h2r) ?_ | refine Ag Ah ?_ | refine Ae Ah ?_ | refine Be Ah ?_ | refine g_cap Ah ?_ | refine Bl Ah ?_ | refine Bd Ah ?_ | refine Cj Ah ?_ | refine Ca Ah ?_ | refine Cz Ah ?_ | refine Cq Ah ?_ | refine Ak Ah ?_ | refine Aj Ah ?_ | refine Aw Ah (fun hc => ?_) (fun hc => ?_) | refine Cg Ah ?_ | refine Bz Ah ?_ | refine Ck Ah ?_ | refine Cd Ah ?_ | refine Az Ah ?_ | refine g_field1 Ah ?_ | refine g_fieldR Ah ?_ | refine Bx Ah ?_ | refine Bu Ah ?_ | refine Ax Ah ?_ | refine Dj Ah ?_ | refine Bq Ah ?_ | refine Bk Ah ?_ | refine Bw Ah ?_ | refine Bh Ah ?_ | refine Bc Ah ?_ | refine Au Ah ?_) <;> refine Ad ?_) | ((first | refine Ay Ah own_in hS ?_ | refine Cu Ah own_in hS ?_ | refine Ao Ah own_in hS ?_ | refine As Ah own_in hS ?_ | refine g_make Ah own_in hS ?_); clear hS; intro b w hS; refine Ad ?_) | ((first | refine Br Ah own_in hS ?_ | refine Ap Ah own_in hS ?_); clear hS; intro w hS; refine Ad ?_)) | ((fail_if_success (with_reducible refine cons_in ?_)); first | gi_step | (with_reducible refine wpIn_scope_wide ?_) | (with_reducible refine wpIn_label ?_) | rw [Exit.noGoto_normal] | rw [Exit.noGoto_ret] | rw [Exit.noGoto_exit]))
      refine wpIn_wide.2 ?_
      have hS := St.start wr
      have hlen : ((64 * m - (64 * (k : Int)).toNat : Nat) : Int) ≥ 64 := by omega
      refine Bv 7 (by kernel_rfl) (by kernel_rfl) ?_
      dsimp only [List.take, List.drop]
      iterate 7 (first | (refine Dc (fun _ => rfl) ?_; simp only [Act.put, List.setIfInBounds_toArray, List.set_cons_zero, List.set_cons_succ]) | (refine Cw (by rfl) (fun _ => rfl) _ (fun w => r_alloc (a := ⟨#[], []⟩) rfl (by infer_instance)) ?_; simp only [Act.put, List.setIfInBounds_toArray, List.set_cons_zero, List.set_cons_succ]) | (refine Cr rfl (fun _ => rfl) (fun K hK => ?_); apply Exists.intro; apply Exists.intro; apply Exists.intro; apply Exists.intro; refine ⟨fun pB w' hw' hF => ?_, hK _ _ ?_⟩; (focus (exact Cf (by rfl) (by rfl) (by infer_instance) (by rfl) (by repeat (first | exact (fun _ h => absurd h List.not_mem_nil) | refine List.forall_mem_cons.2 ⟨by first | rfl | (simp only [Value.cells]; first | rfl | omega), ?_⟩)) (by (try conv => lhs; simp only [List.flatMap_cons, List.flatMap_nil, Value.cells, List.append_nil, List.cons_append, List.nil_append]); first | done | rfl) (by decide) (by decide))); clear hK K; simp only [Act.put, List.setIfInBounds_toArray, List.set_cons_zero, List.set_cons_succ]) | (refine Dd (fun _ => rfl) (fun K hK => ?_); apply Exists.intro; refine ⟨fun pB w' hw' hF => ?_, hK _ _ ?_⟩; (focus (have hZ := (Ab).call hS hw'; first | exact (Cn (r_min (q := 64) (by rfl) (by rfl) (by rfl) (by omega))) | exact q_move | exact Dh | exact q_load1 Ab hZ | exact q_load1F (by first | exact ((hZ).far h1r).1) | exact q_load1F (by first | exact ((hZ).far h2r).1) | exact q_loadR Ab hZ | exact q_loadRF (by first | exact ((hZ).far h1r).1) | exact q_loadRF (by first | exact ((hZ).far h2r).1) | exact Ci | exact Cb | exact q_len | exact q_cap | exact Cy | exact q_add | exact q_sub | exact q_mul | exact q_quo | exact q_rem | exact q_cmp_t | exact q_cmp_f | exact De | exact Cx | exact Df | exact Cv | exact Ch | exact Di | exact Dg | exact Cm | exact Co | exact Bt | exact Cl | exact q_conv | exact q_pick | exact q_not | exact Db | exact Ct | exact Cc | exact Dk | exact Dl | exact Cs)); clear hK K; simp only [Act.put, List.setIfInBounds_toArray, List.set_cons_zero, List.set_cons_succ]))
      refine wpM_nil ?_
      intro pB w hcq hfq hnq
      replace hS := (Ab).news hS hcq _ (by first | decide | simp) hfq hnq
      first | simp only [List.map_nil, List.nil_append] at hS | simp only [List.map_cons, List.map_nil, List.cons_append, List.nil_append] at hS
      clear hcq hfq hnq
      try dsimp only
      have h1w := (hS.far h1r).1
      have h2w := (hS.far h2r).1
      have hRw : Rd L0 W L w := hRd.trans (.call hRd.holds hS.below)
      repeat' (first | ((with_reducible refine Ac ?_); first | ((first | refine Ai Aa ?_ | refine Al Aa ?_ | refine Af Aa ?_ | refine Av Aa Ab hS ?_ | refine Ba Aa Ab hS ?_ | refine Ag Aa ?_ | refine Ae Aa ?_ | refine Be Aa ?_ | refine g_cap Aa ?_ | refine Bl Aa ?_ | refine Bd Aa ?_ | refine Cj Aa ?_ | refine Ca Aa ?_ | refine Cz Aa ?_ | refine Cq Aa ?_ | refine Ak Aa ?_ | refine Aj Aa ?_ | refine Aw Aa (fun hc => ?_) (fun hc => ?_) | refine Cg Aa ?_ | refine Bz Aa ?_ | refine Ck Aa ?_ | refine Cd Aa ?_ | refine Az Aa ?_ | refine g_field1 Aa ?_ | refine g_fieldR Aa ?_ | refine Bx Aa ?_ | refine Bu Aa ?_ | refine Ax Aa ?_ | refine Dj Aa ?_ | refine Bq Aa ?_ | refine Bk Aa ?_ | refine Bw Aa ?_ | refine Bh Aa ?_ | refine Bc Aa ?_ | refine Au Aa ?_ | refine g_nilCheck Aa ?_ | refine Cp Aa ?_ | refine Ar Aa ?_) <;> refine Ad ?_) | ((first | refine Ay Aa Ab hS ?_ | refine Cu Aa Ab hS ?_ | refine Ao Aa Ab hS ?_ | refine As Aa Ab hS ?_ | refine g_make Aa Ab hS ?_); clear hS; intro b w hS; refine Ad ?_) | ((first | refine Br Aa Ab hS ?_ | refine Ap Aa Ab hS ?_ | refine Aq Aa Ab hS ?_); clear hS; intro w hS; refine Ad ?_)) | ((fail_if_success (with_reducible refine Ac ?_)); first | go_step | go_step3 | rw [Exit.noGoto_normal] | rw [Exit.noGoto_ret] | rw [Exit.noGoto_exit]))
      repeat' (first | ((with_reducible refine cons_in ?_); first | ((first | refine Ai Ah ?_ | refine Al Ah ?_ | refine Af Ah ?_ | refine Av Ah own_in hS ?_ | refine Bs Ah (by first | exact h1w) ?_ | refine Bs Ah (by first | exact h2w) ?_ | refine Ba Ah own_in hS ?_ | refine Da Ah (by first | exact h1w) ?_ | refine Da Ah (by first | exact h2w) ?_ | refine Ag Ah ?_ | refine Ae Ah ?_ | refine Be Ah ?_ | refine g_cap Ah ?_ | refine Bl Ah ?_ | refine Bd Ah ?_ | refine Cj Ah ?_ | refine Ca Ah ?_ | refine Cz Ah ?_ | refine Cq Ah ?_ | refine Ak Ah ?_ | refine Aj Ah ?_ | refine Aw Ah (fun hc => ?_) (fun hc => ?_) | refine Cg Ah ?_ | refine Bz Ah ?_ | refine Ck Ah ?_ | refine Cd Ah ?_ | refine Az Ah ?_ | refine g_field1 Ah ?_ | refine g_fieldR Ah ?_ | refine Bx Ah ?_ | refine Bu Ah ?_ | refine Ax Ah ?_ | refine Dj Ah ?_ | refine Bq Ah ?_ | refine Bk Ah ?_ | refine Bw Ah ?_ | refine Bh Ah ?_ | refine Bc Ah ?_ | refine Au Ah ?_) <;> refine Ad ?_) | ((first | refine Ay Ah own_in hS ?_ | refine Cu Ah own_in hS ?_ | refine Ao Ah own_in hS ?_ | refine As Ah own_in hS ?_ | refine g_make Ah own_in hS ?_); clear hS; intro b w hS; refine Ad ?_) | ((first | refine Br Ah own_in hS ?_ | refine Ap Ah own_in hS ?_); clear hS; intro w hS; refine Ad ?_) | (refine Stp.go Ah (by rfl) (by rfl) (r_slice3 (q := off + 64 * k) (n' := 64) (c' := 64) (by rfl) (by rfl) (by infer_instance) (by rfl) (by rfl) (by rfl) (by omega) (by omega) (by omega) (by omega)) ?_; refine Ad ?_)) | ((fail_if_success (with_reducible refine cons_in ?_)); first | gi_step | (with_reducible refine wpIn_scope_wide ?_) | (with_reducible refine wpIn_label ?_) | rw [Exit.noGoto_normal] | rw [Exit.noGoto_ret] | rw [Exit.noGoto_exit]))
      (refine s_yield (by rfl) (by rfl) (by rfl) (by rfl) (by rfl) (hY k L w hJ hRw (fun n h => by cases h; omega)) ?_)
      rintro e W3 ⟨L2, hRd2, (⟨rfl, hJ2⟩ | ⟨rfl, hx⟩)⟩
      · refine ⟨_, rfl, ?_⟩
        refine Ad ?_
        have hT := hRw.trans hRd2
        have h1q := (hT.far h1W hn1).1
        have h2q := (hT.far h2W hn2).1
        repeat' (first | ((with_reducible refine cons_in ?_); first | ((first | refine Ai Ah ?_ | refine Al Ah ?_ | refine Af Ah ?_ | refine Av Ah own_in hS ?_ | refine Bs Ah (by first | exact h1q) ?_ | refine Bs Ah (by first | exact h2q) ?_ | refine Ba Ah own_in hS ?_ | refine Da Ah (by first | exact h1q) ?_ | refine Da Ah (by first | exact h2q) ?_ | refine Ag Ah ?_ | refine Ae Ah ?_ | refine Be Ah ?_ | refine g_cap Ah ?_ | refine Bl Ah ?_ | refine Bd Ah ?_ | refine Cj Ah ?_ | refine Ca Ah ?_ | refine Cz Ah ?_ | refine Cq Ah ?_ | refine Ak Ah ?_ | refine Aj Ah ?_ | refine Aw Ah (fun hc => ?_) (fun hc => ?_) | refine Cg Ah ?_ | refine Bz Ah ?_ | refine Ck Ah ?_ | refine Cd Ah ?_ | refine Az Ah ?_ | refine g_field1 Ah ?_ | refine g_fieldR Ah ?_ | refine Bx Ah ?_ | refine Bu Ah ?_ | refine Ax Ah ?_ | refine Dj Ah ?_ | refine Bq Ah ?_ | refine Bk Ah ?_ | refine Bw Ah ?_ | refine Bh Ah ?_ | refine Bc Ah ?_ | refine Au Ah ?_) <;> refine Ad ?_) | ((first | refine Ay Ah own_in hS ?_ | refine Cu Ah own_in hS ?_ | refine Ao Ah own_in hS ?_ | refine As Ah own_in hS ?_ | refine g_make Ah own_in hS ?_); clear hS; intro b w hS; refine Ad ?_) | ((first | refine Br Ah own_in hS ?_ | refine Ap Ah own_in hS ?_); clear hS; intro w hS; refine Ad ?_)) | ((fail_if_success (with_reducible refine cons_in ?_)); first | gi_step | (with_reducible refine wpIn_scope_wide ?_) | (with_reducible refine wpIn_label ?_) | rw [Exit.noGoto_normal] | rw [Exit.noGoto_ret] | rw [Exit.noGoto_exit]))
        gi_roundg (gk - 1)
        case rel => exact ⟨k + 1, L2, by omega, by push_cast; simp [Int.mul_add], hJ2, hT⟩
        case measure => omega
      · refine ⟨_, rfl, ?_⟩
        refine Ad ?_
        have hT := hRw.trans hRd2
        have h1q := (hT.far h1W hn1).1
        have h2q := (hT.far h2W hn2).1
        repeat' (first | ((with_reducible refine cons_in ?_); first | ((first | refine Ai Ah ?_ | refine Al Ah ?_ | refine Af Ah ?_ | refine Av Ah own_in hS ?_ | refine Bs Ah (by first | exact h1q) ?_ | refine Bs Ah (by first | exact h2q) ?_ | refine Ba Ah own_in hS ?_ | refine Da Ah (by first | exact h1q) ?_ | refine Da Ah (by first | exact h2q) ?_ | refine Ag Ah ?_ | refine Ae Ah ?_ | refine Be Ah ?_ | refine g_cap Ah ?_ | refine Bl Ah ?_ | refine Bd Ah ?_ | refine Cj Ah ?_ | refine Ca Ah ?_ | refine Cz Ah ?_ | refine Cq Ah ?_ | refine Ak Ah ?_ | refine Aj Ah ?_ | refine Aw Ah (fun hc => ?_) (fun hc => ?_) | refine Cg Ah ?_ | refine Bz Ah ?_ | refine Ck Ah ?_ | refine Cd Ah ?_ | refine Az Ah ?_ | refine g_field1 Ah ?_ | refine g_fieldR Ah ?_ | refine Bx Ah ?_ | refine Bu Ah ?_ | refine Ax Ah ?_ | refine Dj Ah ?_ | refine Bq Ah ?_ | refine Bk Ah ?_ | refine Bw Ah ?_ | refine Bh Ah ?_ | refine Bc Ah ?_ | refine Au Ah ?_) <;> refine Ad ?_) | ((first | refine Ay Ah own_in hS ?_ | refine Cu Ah own_in hS ?_ | refine Ao Ah own_in hS ?_ | refine As Ah own_in hS ?_ | refine g_make Ah own_in hS ?_); clear hS; intro b w hS; refine Ad ?_) | ((first | refine Br Ah own_in hS ?_ | refine Ap Ah own_in hS ?_); clear hS; intro w hS; refine Ad ?_)) | ((fail_if_success (with_reducible refine cons_in ?_)); first | gi_step | (with_reducible refine wpIn_scope_wide ?_) | (with_reducible refine wpIn_label ?_) | rw [Exit.noGoto_normal] | rw [Exit.noGoto_ret] | rw [Exit.noGoto_exit]))
        refine bodyPost_ret (results_none rfl _ _ _) rfl ?_
        exact ⟨⟨_, rfl⟩, L2, hT, .inr hx⟩
    · obtain rfl : k = m := by omega
      repeat' (first | ((with_reducible refine cons_in ?_); first | ((first | refine Ai Ah ?_ | refine Al Ah ?_ | refine Af Ah ?_ | refine Av Ah own_in hS ?_ | refine Bs Ah (by first | exact h1r) ?_ | refine Bs Ah (by first | exact h2r) ?_ | refine Ba Ah own_in hS ?_ | refine Da Ah (by first | exact h1r) ?_ | refine Da Ah (by first | exact h2r) ?_ | refine Ag Ah ?_ | refine Ae Ah ?_ | refine Be Ah ?_ | refine g_cap Ah ?_ | refine Bl Ah ?_ | refine Bd Ah ?_ | refine Cj Ah ?_ | refine Ca Ah ?_ | refine Cz Ah ?_ | refine Cq Ah ?_ | refine Ak Ah ?_ | refine Aj Ah ?_ | refine Aw Ah (fun hc => ?_) (fun hc => ?_) | refine Cg Ah ?_ | refine Bz Ah ?_ | refine Ck Ah ?_ | refine Cd Ah ?_ | refine Az Ah ?_ | refine g_field1 Ah ?_ | refine g_fieldR Ah ?_ | refine Bx Ah ?_ | refine Bu Ah ?_ | refine Ax Ah ?_ | refine Dj Ah ?_ | refine Bq Ah ?_ | refine Bk Ah ?_ | refine Bw Ah ?_ | refine Bh Ah ?_ | refine Bc Ah ?_ | refine Au Ah ?_) <;> refine Ad ?_) | ((first | refine Ay Ah own_in hS ?_ | refine Cu Ah own_in hS ?_ | refine Ao Ah own_in hS ?_ | refine As Ah own_in hS ?_ | refine g_make Ah own_in hS ?_); clear hS; intro b w hS; refine Ad ?_) | ((first | refine Br Ah own_in hS ?_ | refine Ap Ah own_in hS ?_); clear hS; intro w hS; refine Ad ?_)) | ((fail_if_success (with_reducible refine cons_in ?_)); first | gi_step | (with_reducible refine wpIn_scope_wide ?_) | (with_reducible refine wpIn_label ?_) | rw [Exit.noGoto_normal] | rw [Exit.noGoto_ret] | rw [Exit.noGoto_exit]))
      refine bodyPost_end (results_none rfl _ _ _) rfl ?_
      exact ⟨⟨_, rfl⟩, L, hRd, .inl ⟨k, rfl, hJ⟩⟩
end Go.Proofs.Ytcjncidahjneaaa

namespace Go.Proofs.Ytcjncidahjneaaa
open Go.ChangeShapes Go.WideShapes Go.ChangeAt Go.RowKit
attribute [local irreducible] wpList wpListIn Oper.quietAt wpM
set_option maxRecDepth 100000 in
set_option maxHeartbeats 1000000 in
theorem chunk_any (sv : Value) (hsv : sv.oneCell' = true) (w0 : World) :
    Calls Try.prog 82 #[sv, .int .i64 64] w0 fun e w' => ∃ q1 q2, e = .returned (.func (.func 96) #[] #[.pointer (some ⟨q1, 0, none⟩), .pointer (some ⟨q2, 0, none⟩)]) ∧ w0.heap.size ≤ q1 ∧ w0.heap.size ≤ q2 ∧ blk w' q1 = some (.cells #[sv] 22 (0, 0)) ∧ blk w' q2 = some (.cells #[.int .i64 64] 3 (0, 0)) ∧ Below w0.heap.size w0 w' := by
  have hS := St.start w0
  have hc : sv.cells = #[sv] := by cases sv <;> first | rfl | cases hsv
  go_enter Try.func82, Try.ntmps82
  repeat' (first | ((with_reducible refine Ac ?_); first | (refine Cu Aa Ab hS ?_ (hc := hc); clear hS; intro b w hS; refine Ad ?_) | ((first | refine Ai Aa ?_ | refine Af Aa ?_ | refine Av Aa Ab hS ?_ | refine Ak Aa ?_ | refine Aj Aa ?_ | refine Aw Aa (fun hc => ?_) (fun hc => ?_) | refine Ax Aa ?_ | refine Dj Aa ?_) <;> refine Ad ?_) | ((first | refine Cu Aa Ab hS ?_); clear hS; intro b w hS; refine Ad ?_)) | ((fail_if_success (with_reducible refine Ac ?_)); first | go_step | go_step3 | rw [Exit.noGoto_normal] | rw [Exit.noGoto_ret] | rw [Exit.noGoto_exit]))
  go_ret
  exact ⟨_, _, rfl, (hS.2.1 _ (List.mem_cons_of_mem _ (List.mem_cons_self ..))).1, (hS.2.1 _ (List.mem_cons_self ..)).1, hS.blk 1 rfl, hS.blk 0 rfl, hS.below⟩
set_option maxRecDepth 100000 in
set_option maxHeartbeats 1000000 in
theorem pieces_any (sv : Value) (hsv : sv.oneCell' = true) (w0 : World) :
    Calls Try.prog 70 #[sv] w0 fun e w' => ∃ g, e = .returned (.func (.func 81) #[] #[.pointer (some ⟨g, 0, none⟩)]) ∧ w0.heap.size ≤ g ∧ blk w' g = some (.cells #[sv] 22 (0, 0)) ∧ Below w0.heap.size w0 w' := by
  have hS := St.start w0
  have hc : sv.cells = #[sv] := by cases sv <;> first | rfl | cases hsv
  go_enter Try.func70, Try.ntmps70
  repeat' (first | ((with_reducible refine Ac ?_); first | (refine Cu Aa Ab hS ?_ (hc := hc); clear hS; intro b w hS; refine Ad ?_) | ((first | refine Ai Aa ?_ | refine Af Aa ?_ | refine Dj Aa ?_) <;> refine Ad ?_) | ((first | refine Cu Aa Ab hS ?_); clear hS; intro b w hS; refine Ad ?_)) | ((fail_if_success (with_reducible refine Ac ?_)); first | go_step | go_step3 | rw [Exit.noGoto_normal] | rw [Exit.noGoto_ret] | rw [Exit.noGoto_exit]))
  go_ret
  exact ⟨_, rfl, (hS.2.1 _ (List.mem_cons_self ..)).1, hS.blk 0 rfl, hS.below⟩
set_option maxRecDepth 100000 in
set_option maxHeartbeats 2000000 in
theorem pieces1_iter (l : List UInt8) (hne : l ≠ []) (hl : l.length ≤ 1000000) (m g : Nat) (A : List UInt8) (hA : l ++ padL l.length = A) (hm : A.length = 64 * m) (sv : Value) (W0 : World) (hg : blk W0 g = some (.cells #[sv] 22 (0, 0))) (hv : BytesAt W0 sv l) :
    IterAt Try.prog 81 #[.pointer (some ⟨g, 0, none⟩)] (fun k => #[.agg (bvs ((A.drop (64 * k)).take 64))]) (some m) [] W0 := by
  intro lp J Jx M W L0 hbW hR hM hJ0 hH hY
  have hgW : blk W g = some (.cells #[sv] 22 (0, 0)) := (hbW.block g (blk_lt hg)).trans hg
  have hvW := hv.below hbW
  clear hv hg hR
  obtain ⟨p, c, rfl, hc, _, hcell⟩ := id hvW
  obtain ⟨tb, ti, cs, ty, fr, rfl, htb, hx⟩ := hcell hne
  refine calls_of_marksR Try.func81 rfl ?_
  simp only [Try.ntmps81, List.size_toArray, List.length_cons, List.length_nil, Nat.reduceAdd, Nat.reduceSub, Array.replicate_succ, Array.replicate_zero, List.push_toArray, List.append_toArray, List.nil_append, List.cons_append]
  have hS := St.start W
  repeat' (first | ((with_reducible refine Ac ?_); first | ((first | refine Ai Aa ?_ | refine Al Aa ?_ | refine Af Aa ?_ | refine Av Aa Ab hS ?_ | refine Bs Aa (by first | exact ((hS).far hgW).1) ?_ | refine Ba Aa Ab hS ?_ | refine Da Aa (by first | exact ((hS).far hgW).1) ?_ | refine Be Aa ?_ | refine Bw Aa ?_ | refine Ar Aa ?_) <;> refine Ad ?_) | ((first | refine Cu Aa Ab hS ?_ | refine Ao Aa Ab hS ?_ | refine As Aa Ab hS ?_); clear hS; intro b w hS; refine Ad ?_)) | ((fail_if_success (with_reducible refine Ac ?_)); first | go_step | go_step3 | rw [Exit.noGoto_normal] | rw [Exit.noGoto_ret] | rw [Exit.noGoto_exit]))
  rename_i KK hKK
  have hrest : ∀ (w : World) (gp cp gb gc cc q1 q2 : Nat) (sp : List Value), 64 * m ≤ cc → St W w [(b, #[.func (.yield lp) #[] #[]], 141)] → blk w gc = some (.cells (A.map bv ++ sp).toArray 5 (0, 0)) → blk w q1 = some (.cells #[.slice (some ⟨gc, 0, none⟩) (64 * m) cc] 22 (0, 0)) → blk w q2 = some (.cells #[.int .i64 64] 3 (0, 0)) → W.heap.size ≤ gc → W.heap.size ≤ q1 → W.heap.size ≤ q2 →
      KK { tmps := #[.func (.yield lp) #[] #[], .pointer (some ⟨g, 0, none⟩), .pointer (some ⟨b, 0, none⟩), undef, .slice (some ⟨tb, ti, none⟩) l.length c, .slice (some ⟨tb, ti, none⟩) l.length c, .int .i64 (l.length : Int), .slice (some ⟨gp, 0, none⟩) (padL l.length).length cp, .slice (some ⟨gb, 0, none⟩) 2 2, .slice (some ⟨gc, 0, none⟩) (64 * m) cc, .func (.func 96) #[] #[.pointer (some ⟨q1, 0, none⟩), .pointer (some ⟨q2, 0, none⟩)], undef, undef, undef, undef, undef, undef, undef], defers := [] } w := by
    clear hS
    intro w gp cp gb gc cc q1 q2 sp hcc hS hbc hb1 hb2 n1 n2 n3
    refine hKK _ _ ?_
    repeat' (first | ((with_reducible refine Ac ?_); first | ((first | refine Ai Aa ?_ | refine Al Aa ?_ | refine Af Aa ?_ | refine Av Aa Ab hS ?_ | refine Ba Aa Ab hS ?_ | refine Be Aa ?_ | refine Bw Aa ?_ | refine Ar Aa ?_) <;> refine Ad ?_) | ((first | refine Cu Aa Ab hS ?_ | refine Ao Aa Ab hS ?_ | refine As Aa Ab hS ?_); clear hS; intro b w hS; refine Ad ?_)) | ((fail_if_success (with_reducible refine Ac ?_)); first | go_step | go_step3 | rw [Exit.noGoto_normal] | rw [Exit.noGoto_ret] | rw [Exit.noGoto_exit]))
    have hHw : Holds w L0 := hH.kept (B := []) (Kept.of_below hS.below) (fun _ _ => List.not_mem_nil)
    have hfr : ∀ x, W.heap.size ≤ x → x ∉ L0.map (·.1) := fun x hx => Holds.newer hH hx
    have hit := chunk1_iter gc 0 cc m q1 q2 hcc w hb1 hb2 (by have := padL_len l.length; rw [← hA, List.length_append] at hm; omega)
    have hRd0 : Rd L0 W L0 w := .call hH hS.below
    refine wp_rangeO (els := fun k => #[.slice (some ⟨gc, 0 + 64 * k, none⟩) 64 64]) (N := some m) (R := [q1, q2]) (gf := 96) (lb := #[.pointer (some ⟨q1, 0, none⟩), .pointer (some ⟨q2, 0, none⟩)]) (by rfl) (by intro args w; kernel_rfl) hit (Below.refl _ _) (fun _ => rfl)
      (fun k L => J k L) (fun c L => c = .exit 0 ∧ Jx L) 0 (fun h => by cases h) L0 hJ0 hHw ?R (fun k => { tmps := #[.func (.yield lp) #[] #[], .pointer (some ⟨g, 0, none⟩), .pointer (some ⟨b, 0, none⟩), .slice (some ⟨gc, 0 + 64 * k, none⟩) 64 64, .slice (some ⟨tb, ti, none⟩) l.length c, .slice (some ⟨tb, ti, none⟩) l.length c, .int .i64 (l.length : Int), .slice (some ⟨gp, 0, none⟩) (padL l.length).length cp, .slice (some ⟨gb, 0, none⟩) 2 2, .slice (some ⟨gc, 0, none⟩) (64 * m) cc, .func (.func 96) #[] #[.pointer (some ⟨q1, 0, none⟩), .pointer (some ⟨q2, 0, none⟩)], .slice (some ⟨gc, 0 + 64 * k, none⟩) 64 64, undef, undef, undef, undef, undef, undef], defers := [] }) ?assign ?body ?done ?stop
    case R =>
      intro x hx
      simp only [List.mem_cons, List.not_mem_nil, or_false] at hx
      rcases hx with rfl | rfl
      · exact ⟨blk_lt hb1, hfr _ n2⟩
      · exact ⟨blk_lt hb2, hfr _ n3⟩
    case assign =>
      intro l0 k W1 K hK
      have hSt := St.start W1
      have hS := In.start hSt.holds
      simp only [List.zip_toArray, List.zip_cons_cons, List.zip_nil_right, List.foldl_toArray', List.foldl_cons, List.foldl_nil, List.setIfInBounds_toArray, List.set_cons_zero, List.set_cons_succ]
      repeat' (first | ((with_reducible refine cons_in ?_); first | ((first | refine Ai Am ?_ | refine Al Am ?_ | refine Af Am ?_ | refine Av Am own_in hS ?_ | refine Ba Am own_in hS ?_ | refine Ag Am ?_ | refine Ae Am ?_ | refine Be Am ?_ | refine g_cap Am ?_ | refine Bl Am ?_ | refine Bd Am ?_ | refine Cj Am ?_ | refine Ca Am ?_ | refine Cz Am ?_ | refine Cq Am ?_ | refine Ak Am ?_ | refine Aj Am ?_ | refine Aw Am (fun hc => ?_) (fun hc => ?_) | refine Cg Am ?_ | refine Bz Am ?_ | refine Ck Am ?_ | refine Cd Am ?_ | refine Az Am ?_ | refine g_field1 Am ?_ | refine g_fieldR Am ?_ | refine Bx Am ?_ | refine Bu Am ?_ | refine Ax Am ?_ | refine Dj Am ?_ | refine Bq Am ?_ | refine Bk Am ?_ | refine Bw Am ?_ | refine Bh Am ?_ | refine Bc Am ?_ | refine Au Am ?_) <;> refine Ad ?_) | ((first | refine Ay Am own_in hS ?_ | refine Cu Am own_in hS ?_ | refine Ao Am own_in hS ?_ | refine As Am own_in hS ?_ | refine g_make Am own_in hS ?_); clear hS; intro b w hS; refine Ad ?_) | ((first | refine Br Am own_in hS ?_ | refine Ap Am own_in hS ?_); clear hS; intro w hS; refine Ad ?_)) | ((fail_if_success (with_reducible refine cons_in ?_)); first | gi_step | (with_reducible refine wpIn_scope_wide ?_) | (with_reducible refine wpIn_label ?_) | rw [Exit.noGoto_normal] | rw [Exit.noGoto_ret] | rw [Exit.noGoto_exit]))
      exact hK
    case body =>
      intro l0 k L W1 hI hRd hkn
      have hkm : k < m := hkn m rfl
      have hSt := St.start W1
      have hbb := (hRd.far (hS.blk 0 rfl) (hfr _ (hS.2.1 _ (List.mem_cons_self ..)).1)).1
      have hbc1 := (hRd.far hbc (hfr _ n1)).1
      have hl64 : ((A.drop (64 * k)).take 64).length = 64 := by rw [List.length_take, List.length_drop]; omega
      obtain ⟨z1, z2⟩ := cut_of_cells (cs := (A.map bv ++ sp).toArray) (o := 0 + 64 * k) (n := 64) (l := (A.drop (64 * k)).take 64) hl64 (by omega) (by
        intro i x hi
        have hi2 : i < 64 := by have := (List.getElem?_eq_some_iff.1 hi).1; omega
        rw [List.getElem?_take, if_pos hi2, List.getElem?_drop] at hi
        rw [List.getElem?_toArray, List.getElem?_append_left (by rw [List.length_map]; omega), List.getElem?_map, show 0 + 64 * k + i = 64 * k + i by omega, hi]
        rfl)
      have hY' := hY k L
      dsimp only at hY'
      obtain ⟨p, hp⟩ : ∃ p, (A.drop (64 * k)).take 64 = p := ⟨_, rfl⟩
      rw [hp] at z2 hl64 hY'
      clear hS
      have hS := In.start hSt.holds
      repeat' (first | ((with_reducible refine cons_in ?_); first | ((first | refine Ai Am ?_ | refine Al Am ?_ | refine Af Am ?_ | refine Av Am own_in hS ?_ | refine Ba Am own_in hS ?_ | refine Ag Am ?_ | refine Ae Am ?_ | refine Be Am ?_ | refine g_cap Am ?_ | refine Bl Am ?_ | refine Bd Am ?_ | refine Cj Am ?_ | refine Ca Am ?_ | refine Cz Am ?_ | refine Cq Am ?_ | refine Ak Am ?_ | refine Aj Am ?_ | refine Aw Am (fun hc => ?_) (fun hc => ?_) | refine Cg Am ?_ | refine Bz Am ?_ | refine Ck Am ?_ | refine Cd Am ?_ | refine Az Am ?_ | refine g_field1 Am ?_ | refine g_fieldR Am ?_ | refine Bx Am ?_ | refine Bu Am ?_ | refine Ax Am ?_ | refine Dj Am ?_ | refine Bq Am ?_ | refine Bk Am ?_ | refine Bw Am ?_ | refine Bh Am ?_ | refine Bc Am ?_ | refine Au Am ?_) <;> refine Ad ?_) | ((first | refine Ay Am own_in hS ?_ | refine Cu Am own_in hS ?_ | refine Ao Am own_in hS ?_ | refine As Am own_in hS ?_ | refine g_make Am own_in hS ?_); clear hS; intro b w hS; refine Ad ?_) | ((first | refine Br Am own_in hS ?_ | refine Ap Am own_in hS ?_); clear hS; intro w hS; refine Ad ?_)) | ((fail_if_success (with_reducible refine cons_in ?_)); first | gi_step | (with_reducible refine wpIn_scope_wide ?_) | (with_reducible refine wpIn_label ?_) | rw [Exit.noGoto_normal] | rw [Exit.noGoto_ret] | rw [Exit.noGoto_exit]))
      refine region_monoR_lit 4 (by kernel_rfl) (by kernel_rfl) (by kernel_rfl) ?_
      dsimp only [List.take, List.drop]
      iterate 4 (first | (refine Dc (fun _ => rfl) ?_; simp only [Act.put, List.setIfInBounds_toArray, List.set_cons_zero, List.set_cons_succ]) | (refine Cw (by rfl) (fun _ => rfl) _ (fun w => r_alloc (a := ⟨#[], []⟩) rfl (by infer_instance)) ?_; simp only [Act.put, List.setIfInBounds_toArray, List.set_cons_zero, List.set_cons_succ]) | (refine Dd (fun _ => rfl) (fun K hK => ?_); apply Exists.intro; refine ⟨fun pB w' hw' hF => ?_, hK _ _ ?_⟩; (focus (have hZ := (own_in).call hS hw'; first | exact (Cn (r_arrAt (m := 64) (by rfl) (by rfl) (by exact Try.underlying108) (by omega))) | exact q_move | exact Dh | exact q_load1 own_in hZ (hv := by first | rfl | exact Bi | (rw [Array.getElem?_toList]; exact z2)) | exact q_load1F (by first | exact ((St.range hSt hZ).far hbb).1) (hv := by first | rfl | exact Bi | (rw [Array.getElem?_toList]; exact z2)) | exact q_load1F (by first | exact ((St.range hSt hZ).far hbc1).1) (hv := by first | rfl | exact Bi | (rw [Array.getElem?_toList]; exact z2)) | exact q_loadR own_in hZ (hv := by first | exact Bo _ _ (by (try simp only [Bn, Bg, Bm, List.length_append, List.length_set, zs_len, List.length_take, List.length_drop, List.length_cons, List.length_nil]); first | done | rfl | omega) | (exact z2) | rfl) | exact q_loadRF (by first | exact ((St.range hSt hZ).far hbb).1) (hv := by first | exact Bo _ _ (by (try simp only [Bn, Bg, Bm, List.length_append, List.length_set, zs_len, List.length_take, List.length_drop, List.length_cons, List.length_nil]); first | done | rfl | omega) | (exact z2) | rfl) | exact q_loadRF (by first | exact ((St.range hSt hZ).far hbc1).1) (hv := by first | exact Bo _ _ (by (try simp only [Bn, Bg, Bm, List.length_append, List.length_set, zs_len, List.length_take, List.length_drop, List.length_cons, List.length_nil]); first | done | rfl | omega) | (exact z2) | rfl) | exact Ci | exact Cb | exact q_len | exact q_cap | exact Cy | exact q_add | exact q_sub | exact q_mul | exact q_quo | exact q_rem | exact q_cmp_t | exact q_cmp_f | exact De | exact Cx | exact Df | exact Cv | exact Ch | exact Di (hv' := by first | rfl | exact Bi | (rw [Array.getElem?_toList]; exact z2)) | exact Dg | exact Cm | exact Co | exact Bt | exact Cl | exact q_conv | exact q_pick | exact q_not | exact Db | exact Ct | exact Cc)); clear hK K; simp only [Act.put, List.setIfInBounds_toArray, List.set_cons_zero, List.set_cons_succ]))
      refine wpM_nil ?_
      intro pB w hcq hfq hnq
      replace hS := (own_in).news hS hcq _ (by decide) hfq hnq
      first | simp only [List.map_nil, List.nil_append] at hS | simp only [List.map_cons, List.map_nil, List.cons_append, List.nil_append] at hS
      clear hcq hfq hnq
      try dsimp only
      have hB1 := (hSt.range hS).below
      have hRw : Rd L0 W L w := (hRd0.trans hRd).trans (.call hRd.holds hB1)
      refine s_yieldR (by rfl) (by rfl) (by rfl) (by rfl) (by rfl) (hY' w hI hRw (fun n h => by cases h; omega)) ?_
      rintro e W3 ⟨L2, hRd2, (⟨rfl, hJ2⟩ | ⟨rfl, hx⟩)⟩
      · refine ⟨_, rfl, ?_⟩
        refine Ad ?_
        repeat' (first | ((with_reducible refine cons_in ?_); first | ((first | refine Ai Am ?_ | refine Al Am ?_ | refine Af Am ?_ | refine Av Am own_in hS ?_ | refine Ba Am own_in hS ?_ | refine Ag Am ?_ | refine Ae Am ?_ | refine Be Am ?_ | refine g_cap Am ?_ | refine Bl Am ?_ | refine Bd Am ?_ | refine Cj Am ?_ | refine Ca Am ?_ | refine Cz Am ?_ | refine Cq Am ?_ | refine Ak Am ?_ | refine Aj Am ?_ | refine Aw Am (fun hc => ?_) (fun hc => ?_) | refine Cg Am ?_ | refine Bz Am ?_ | refine Ck Am ?_ | refine Cd Am ?_ | refine Az Am ?_ | refine g_field1 Am ?_ | refine g_fieldR Am ?_ | refine Bx Am ?_ | refine Bu Am ?_ | refine Ax Am ?_ | refine Dj Am ?_ | refine Bq Am ?_ | refine Bk Am ?_ | refine Bw Am ?_ | refine Bh Am ?_ | refine Bc Am ?_ | refine Au Am ?_) <;> refine Ad ?_) | ((first | refine Ay Am own_in hS ?_ | refine Cu Am own_in hS ?_ | refine Ao Am own_in hS ?_ | refine As Am own_in hS ?_ | refine g_make Am own_in hS ?_); clear hS; intro b w hS; refine Ad ?_) | ((first | refine Br Am own_in hS ?_ | refine Ap Am own_in hS ?_); clear hS; intro w hS; refine Ad ?_)) | ((fail_if_success (with_reducible refine cons_in ?_)); first | gi_step | (with_reducible refine wpIn_scope_wide ?_) | (with_reducible refine wpIn_label ?_) | rw [Exit.noGoto_normal] | rw [Exit.noGoto_ret] | rw [Exit.noGoto_exit]))
        exact ⟨L2, (Rd.call hRd.holds hB1).trans hRd2, hJ2⟩
      · refine ⟨_, rfl, ?_⟩
        refine Ad ?_
        repeat' (first | ((with_reducible refine cons_in ?_); first | ((first | refine Ai Am ?_ | refine Al Am ?_ | refine Af Am ?_ | refine Av Am own_in hS ?_ | refine Ba Am own_in hS ?_ | refine Ag Am ?_ | refine Ae Am ?_ | refine Be Am ?_ | refine g_cap Am ?_ | refine Bl Am ?_ | refine Bd Am ?_ | refine Cj Am ?_ | refine Ca Am ?_ | refine Cz Am ?_ | refine Cq Am ?_ | refine Ak Am ?_ | refine Aj Am ?_ | refine Aw Am (fun hc => ?_) (fun hc => ?_) | refine Cg Am ?_ | refine Bz Am ?_ | refine Ck Am ?_ | refine Cd Am ?_ | refine Az Am ?_ | refine g_field1 Am ?_ | refine g_fieldR Am ?_ | refine Bx Am ?_ | refine Bu Am ?_ | refine Ax Am ?_ | refine Dj Am ?_ | refine Bq Am ?_ | refine Bk Am ?_ | refine Bw Am ?_ | refine Bh Am ?_ | refine Bc Am ?_ | refine Au Am ?_) <;> refine Ad ?_) | ((first | refine Ay Am own_in hS ?_ | refine Cu Am own_in hS ?_ | refine Ao Am own_in hS ?_ | refine As Am own_in hS ?_ | refine g_make Am own_in hS ?_); clear hS; intro b w hS; refine Ad ?_) | ((first | refine Br Am own_in hS ?_ | refine Ap Am own_in hS ?_); clear hS; intro w hS; refine Ad ?_)) | ((fail_if_success (with_reducible refine cons_in ?_)); first | gi_step | (with_reducible refine wpIn_scope_wide ?_) | (with_reducible refine wpIn_label ?_) | rw [Exit.noGoto_normal] | rw [Exit.noGoto_ret] | rw [Exit.noGoto_exit]))
        exact ⟨L2, (Rd.call hRd.holds hB1).trans hRd2, rfl, hx⟩
    case done =>
      intro D n L W1 hN hI hRd hD hDw hDn
      obtain rfl : m = n := Option.some.inj hN
      have hDW : W.heap.size ≤ D := Nat.le_trans hS.below.size hDw
      clear hS
      repeat' (first | ((with_reducible refine Ac ?_); first | ((first | refine Ai Aa ?_ | refine Al Aa ?_ | refine Af Aa ?_ | refine Av Aa own_stD hS ?_ | refine Ba Aa own_stD hS ?_ | refine Be Aa ?_ | refine Bw Aa ?_) <;> refine Ad ?_) | ((first | refine Cu Aa own_stD hS ?_ | refine Ao Aa own_stD hS ?_ | refine As Aa own_stD hS ?_); clear hS; intro b w hS; refine Ad ?_)) | ((fail_if_success (with_reducible refine Ac ?_)); first | go_step | go_step3 | rw [Exit.noGoto_normal] | rw [Exit.noGoto_ret] | rw [Exit.noGoto_exit]))
      refine postMR (.inr rfl) rfl hD ?_
      refine bodyPost_ret (results_none rfl _ _ _) rfl ?_
      exact ⟨⟨_, rfl⟩, L, (hRd0.trans hRd).newObj hDW hDn _, .inl ⟨m, rfl, hI⟩⟩
    case stop =>
      rintro D cd L W1 ⟨rfl, hx⟩ hRd hD hDw hDn
      have hDW : W.heap.size ≤ D := Nat.le_trans hS.below.size hDw
      clear hS
      repeat' (first | ((with_reducible refine Ac ?_); first | ((first | refine Ai Aa ?_ | refine Al Aa ?_ | refine Af Aa ?_ | refine Av Aa own_stD hS ?_ | refine Ba Aa own_stD hS ?_ | refine Be Aa ?_ | refine Bw Aa ?_) <;> refine Ad ?_) | ((first | refine Cu Aa own_stD hS ?_ | refine Ao Aa own_stD hS ?_ | refine As Aa own_stD hS ?_); clear hS; intro b w hS; refine Ad ?_)) | ((fail_if_success (with_reducible refine Ac ?_)); first | go_step | go_step3 | rw [Exit.noGoto_normal] | rw [Exit.noGoto_ret] | rw [Exit.noGoto_exit]))
      refine postMR (.inr rfl) rfl hD ?_
      refine bodyPost_ret (results_none rfl _ _ _) rfl ?_
      exact ⟨⟨_, rfl⟩, L, (hRd0.trans hRd).newObj hDW hDn _, .inr hx⟩
  clear hKK
  have hfl : [l, padL l.length].flatten = A := by rw [← hA]; simp
  have hpne : padL l.length ≠ [] := by intro e; have := padL_len l.length; rw [e] at this; simp at this; omega
  have hAl : A.length ≤ 1000100 := by rw [← hA, List.length_append, padL_len]; omega
  refine any_start [0, 1, 2, 3, 4, 5, 6] (by kernel_rfl) (by kernel_rfl) ?_
  intro w hcq
  replace hS := hS.cls hcq
  clear hcq
  refine any_turn2 0 1 (by kernel_rfl) (by rfl) (by rfl) ?_ ?_
  · repeat' (first | ((with_reducible refine Ac ?_); first | ((first | refine Ai Aa ?_ | refine Av Aa Ab hS ?_ | refine Bs Aa (by first | exact ((hS).far hgW).1) ?_) <;> refine Ad ?_)) | ((fail_if_success (with_reducible refine Ac ?_)); first | go_step | go_step3 | rw [Exit.noGoto_normal] | rw [Exit.noGoto_ret] | rw [Exit.noGoto_exit]))
    refine any_turn 1 (by kernel_rfl) (by rfl) ?_
    repeat' (first | ((with_reducible refine Ac ?_); first | ((first | refine Ai Aa ?_ | refine Av Aa Ab hS ?_ | refine Bs Aa (by first | exact ((hS).far hgW).1) ?_) <;> refine Ad ?_)) | ((fail_if_success (with_reducible refine Ac ?_)); first | go_step | go_step3 | rw [Exit.noGoto_normal] | rw [Exit.noGoto_ret] | rw [Exit.noGoto_exit]))
    refine any_turn 2 (by kernel_rfl) (by rfl) ?_
    repeat' (first | ((with_reducible refine Ac ?_); first | ((first | refine Ai Aa ?_ | refine Be Aa ?_) <;> refine Ad ?_)) | ((fail_if_success (with_reducible refine Ac ?_)); first | go_step | go_step3 | rw [Exit.noGoto_normal] | rw [Exit.noGoto_ret] | rw [Exit.noGoto_exit]))
    refine any_turn 3 (by kernel_rfl) (by rfl) ?_
    refine s_call Aa (by rfl) (by rfl) (by rfl) (by rfl) (by rfl) (by infer_instance) (pad_any l.length (by omega) _) ?_
    rintro e w1 ⟨gp, cp, sp1, rfl, k1, k2, k3, k4, k5, k6⟩
    refine ⟨_, rfl, ?_⟩
    refine Ad ?_
    replace hS := Ab.new hS k6 k4 k5
    repeat' (first | ((with_reducible refine Ac ?_); first | ((first | refine Ai Aa ?_) <;> refine Ad ?_)) | ((fail_if_success (with_reducible refine Ac ?_)); first | go_step | go_step3 | rw [Exit.noGoto_normal] | rw [Exit.noGoto_ret] | rw [Exit.noGoto_exit]))
    refine any_turn 4 (by kernel_rfl) (by rfl) ?_
    repeat' (first | ((with_reducible refine Ac ?_); first | ((first | refine Ai Aa ?_ | refine Ar Aa ?_) <;> refine Ad ?_) | ((first | refine Ao Aa Ab hS ?_ | refine As Aa Ab hS ?_); clear hS; intro b w hS; refine Ad ?_)) | ((fail_if_success (with_reducible refine Ac ?_)); first | go_step | go_step3 | rw [Exit.noGoto_normal] | rw [Exit.noGoto_ret] | rw [Exit.noGoto_exit]))
    refine any_turn 5 (by kernel_rfl) (by rfl) ?_
    have hbp := bytesAt_mid (pre := []) (off := 0) (hS.blk 1 rfl) rfl rfl rfl k1
    have hC := concat_n [.slice (some ⟨tb, ti, none⟩) l.length c, .slice (some ⟨gp, 0, none⟩) (padL l.length).length cp] [l, padL l.length] (by simp) (by rw [hfl]; omega) _ 0 2 _ _ _ _ (PartsAt.cons (hvW.below hS.below) hne (PartsAt.cons hbp hpne (PartsAt.nil _))) (hS.blk 0 rfl) (fun i v h => by rw [Nat.zero_add, List.getElem?_toArray]; exact h) (by show 2 ≤ 1000000000; omega)
    rw [hfl, hm] at hC
    refine s_call Aa (by rfl) (by rfl) (by rfl) (by rfl) (by rfl) (by infer_instance) hC ?_
    rintro e w2 ⟨gc, cc, sp, rfl, ⟨j1, j2, j3⟩, j4, j5, j6⟩
    refine ⟨_, rfl, ?_⟩
    refine Ad ?_
    replace hS := Ab.new hS j6 j4 j5
    repeat' (first | ((with_reducible refine Ac ?_); first | ((first | refine Ai Aa ?_) <;> refine Ad ?_)) | ((fail_if_success (with_reducible refine Ac ?_)); first | go_step | go_step3 | rw [Exit.noGoto_normal] | rw [Exit.noGoto_ret] | rw [Exit.noGoto_exit]))
    refine any_turn 6 (by kernel_rfl) (by rfl) ?_
    refine s_call Aa (by rfl) (by rfl) (by rfl) (by rfl) (by rfl) (by infer_instance) (chunk_any _ rfl _) ?_
    rintro e w3 ⟨q1, q2, rfl, i1, i2, i3, i4, i5⟩
    refine ⟨_, rfl, ?_⟩
    refine Ad ?_
    have z1 := Nat.le_trans hS.below.size i1
    have z2 := Nat.le_trans hS.below.size i2
    replace hS := hS.call i5
    repeat' (first | ((with_reducible refine Ac ?_); first | ((first | refine Ai Aa ?_) <;> refine Ad ?_)) | ((fail_if_success (with_reducible refine Ac ?_)); first | go_step | go_step3 | rw [Exit.noGoto_normal] | rw [Exit.noGoto_ret] | rw [Exit.noGoto_exit]))
    refine any_done (by kernel_rfl) ?_
    repeat' (first | ((with_reducible refine Ac ?_); first | ((first | refine Ai Aa ?_ | refine Al Aa ?_ | refine Af Aa ?_ | refine Av Aa Ab hS ?_ | refine Ba Aa Ab hS ?_ | refine Be Aa ?_ | refine Bw Aa ?_ | refine Ar Aa ?_) <;> refine Ad ?_) | ((first | refine Cu Aa Ab hS ?_ | refine Ao Aa Ab hS ?_ | refine As Aa Ab hS ?_); clear hS; intro b w hS; refine Ad ?_)) | ((fail_if_success (with_reducible refine Ac ?_)); first | go_step | go_step3 | rw [Exit.noGoto_normal] | rw [Exit.noGoto_ret] | rw [Exit.noGoto_exit]))
    exact hrest _ _ _ _ _ _ _ _ sp j1 (((hS.erase 0).erase 0).erase 0) (hS.blk 0 rfl) i3 i4 (hS.2.1 _ (List.mem_cons_self ..)).1 z1 z2
  · repeat' (first | ((with_reducible refine Ac ?_); first | ((first | refine Ai Aa ?_ | refine Av Aa Ab hS ?_ | refine Bs Aa (by first | exact ((hS).far hgW).1) ?_) <;> refine Ad ?_)) | ((fail_if_success (with_reducible refine Ac ?_)); first | go_step | go_step3 | rw [Exit.noGoto_normal] | rw [Exit.noGoto_ret] | rw [Exit.noGoto_exit]))
    refine any_turn2 0 2 (by kernel_rfl) (by rfl) (by rfl) ?_ ?_
    · repeat' (first | ((with_reducible refine Ac ?_); first | ((first | refine Ai Aa ?_ | refine Av Aa Ab hS ?_ | refine Bs Aa (by first | exact ((hS).far hgW).1) ?_) <;> refine Ad ?_)) | ((fail_if_success (with_reducible refine Ac ?_)); first | go_step | go_step3 | rw [Exit.noGoto_normal] | rw [Exit.noGoto_ret] | rw [Exit.noGoto_exit]))
      refine any_turn 2 (by kernel_rfl) (by rfl) ?_
      repeat' (first | ((with_reducible refine Ac ?_); first | ((first | refine Ai Aa ?_ | refine Be Aa ?_) <;> refine Ad ?_)) | ((fail_if_success (with_reducible refine Ac ?_)); first | go_step | go_step3 | rw [Exit.noGoto_normal] | rw [Exit.noGoto_ret] | rw [Exit.noGoto_exit]))
      refine any_turn 3 (by kernel_rfl) (by rfl) ?_
      refine s_call Aa (by rfl) (by rfl) (by rfl) (by rfl) (by rfl) (by infer_instance) (pad_any l.length (by omega) _) ?_
      rintro e w1 ⟨gp, cp, sp1, rfl, k1, k2, k3, k4, k5, k6⟩
      refine ⟨_, rfl, ?_⟩
      refine Ad ?_
      replace hS := Ab.new hS k6 k4 k5
      repeat' (first | ((with_reducible refine Ac ?_); first | ((first | refine Ai Aa ?_) <;> refine Ad ?_)) | ((fail_if_success (with_reducible refine Ac ?_)); first | go_step | go_step3 | rw [Exit.noGoto_normal] | rw [Exit.noGoto_ret] | rw [Exit.noGoto_exit]))
      refine any_turn 4 (by kernel_rfl) (by rfl) ?_
      repeat' (first | ((with_reducible refine Ac ?_); first | ((first | refine Ai Aa ?_ | refine Ar Aa ?_) <;> refine Ad ?_) | ((first | refine Ao Aa Ab hS ?_ | refine As Aa Ab hS ?_); clear hS; intro b w hS; refine Ad ?_)) | ((fail_if_success (with_reducible refine Ac ?_)); first | go_step | go_step3 | rw [Exit.noGoto_normal] | rw [Exit.noGoto_ret] | rw [Exit.noGoto_exit]))
      refine any_turn 5 (by kernel_rfl) (by rfl) ?_
      have hbp := bytesAt_mid (pre := []) (off := 0) (hS.blk 1 rfl) rfl rfl rfl k1
      have hC := concat_n [.slice (some ⟨tb, ti, none⟩) l.length c, .slice (some ⟨gp, 0, none⟩) (padL l.length).length cp] [l, padL l.length] (by simp) (by rw [hfl]; omega) _ 0 2 _ _ _ _ (PartsAt.cons (hvW.below hS.below) hne (PartsAt.cons hbp hpne (PartsAt.nil _))) (hS.blk 0 rfl) (fun i v h => by rw [Nat.zero_add, List.getElem?_toArray]; exact h) (by show 2 ≤ 1000000000; omega)
      rw [hfl, hm] at hC
      refine s_call Aa (by rfl) (by rfl) (by rfl) (by rfl) (by rfl) (by infer_instance) hC ?_
      rintro e w2 ⟨gc, cc, sp, rfl, ⟨j1, j2, j3⟩, j4, j5, j6⟩
      refine ⟨_, rfl, ?_⟩
      refine Ad ?_
      replace hS := Ab.new hS j6 j4 j5
      repeat' (first | ((with_reducible refine Ac ?_); first | ((first | refine Ai Aa ?_) <;> refine Ad ?_)) | ((fail_if_success (with_reducible refine Ac ?_)); first | go_step | go_step3 | rw [Exit.noGoto_normal] | rw [Exit.noGoto_ret] | rw [Exit.noGoto_exit]))
      refine any_turn 6 (by kernel_rfl) (by rfl) ?_
      refine s_call Aa (by rfl) (by rfl) (by rfl) (by rfl) (by rfl) (by infer_instance) (chunk_any _ rfl _) ?_
      rintro e w3 ⟨q1, q2, rfl, i1, i2, i3, i4, i5⟩
      refine ⟨_, rfl, ?_⟩
      refine Ad ?_
      have z1 := Nat.le_trans hS.below.size i1
      have z2 := Nat.le_trans hS.below.size i2
      replace hS := hS.call i5
      repeat' (first | ((with_reducible refine Ac ?_); first | ((first | refine Ai Aa ?_) <;> refine Ad ?_)) | ((fail_if_success (with_reducible refine Ac ?_)); first | go_step | go_step3 | rw [Exit.noGoto_normal] | rw [Exit.noGoto_ret] | rw [Exit.noGoto_exit]))
      refine any_done (by kernel_rfl) ?_
      repeat' (first | ((with_reducible refine Ac ?_); first | ((first | refine Ai Aa ?_ | refine Al Aa ?_ | refine Af Aa ?_ | refine Av Aa Ab hS ?_ | refine Ba Aa Ab hS ?_ | refine Be Aa ?_ | refine Bw Aa ?_ | refine Ar Aa ?_) <;> refine Ad ?_) | ((first | refine Cu Aa Ab hS ?_ | refine Ao Aa Ab hS ?_ | refine As Aa Ab hS ?_); clear hS; intro b w hS; refine Ad ?_)) | ((fail_if_success (with_reducible refine Ac ?_)); first | go_step | go_step3 | rw [Exit.noGoto_normal] | rw [Exit.noGoto_ret] | rw [Exit.noGoto_exit]))
      exact hrest _ _ _ _ _ _ _ _ sp j1 (((hS.erase 0).erase 0).erase 0) (hS.blk 0 rfl) i3 i4 (hS.2.1 _ (List.mem_cons_self ..)).1 z1 z2
    · repeat' (first | ((with_reducible refine Ac ?_); first | ((first | refine Ai Aa ?_ | refine Be Aa ?_) <;> refine Ad ?_)) | ((fail_if_success (with_reducible refine Ac ?_)); first | go_step | go_step3 | rw [Exit.noGoto_normal] | rw [Exit.noGoto_ret] | rw [Exit.noGoto_exit]))
      refine any_turn2 0 3 (by kernel_rfl) (by rfl) (by rfl) ?_ ?_
      · repeat' (first | ((with_reducible refine Ac ?_); first | ((first | refine Ai Aa ?_ | refine Av Aa Ab hS ?_ | refine Bs Aa (by first | exact ((hS).far hgW).1) ?_) <;> refine Ad ?_)) | ((fail_if_success (with_reducible refine Ac ?_)); first | go_step | go_step3 | rw [Exit.noGoto_normal] | rw [Exit.noGoto_ret] | rw [Exit.noGoto_exit]))
        refine any_turn 3 (by kernel_rfl) (by rfl) ?_
        refine s_call Aa (by rfl) (by rfl) (by rfl) (by rfl) (by rfl) (by infer_instance) (pad_any l.length (by omega) _) ?_
        rintro e w1 ⟨gp, cp, sp1, rfl, k1, k2, k3, k4, k5, k6⟩
        refine ⟨_, rfl, ?_⟩
        refine Ad ?_
        replace hS := Ab.new hS k6 k4 k5
        repeat' (first | ((with_reducible refine Ac ?_); first | ((first | refine Ai Aa ?_) <;> refine Ad ?_)) | ((fail_if_success (with_reducible refine Ac ?_)); first | go_step | go_step3 | rw [Exit.noGoto_normal] | rw [Exit.noGoto_ret] | rw [Exit.noGoto_exit]))
        refine any_turn 4 (by kernel_rfl) (by rfl) ?_
        repeat' (first | ((with_reducible refine Ac ?_); first | ((first | refine Ai Aa ?_ | refine Ar Aa ?_) <;> refine Ad ?_) | ((first | refine Ao Aa Ab hS ?_ | refine As Aa Ab hS ?_); clear hS; intro b w hS; refine Ad ?_)) | ((fail_if_success (with_reducible refine Ac ?_)); first | go_step | go_step3 | rw [Exit.noGoto_normal] | rw [Exit.noGoto_ret] | rw [Exit.noGoto_exit]))
        refine any_turn 5 (by kernel_rfl) (by rfl) ?_
        have hbp := bytesAt_mid (pre := []) (off := 0) (hS.blk 1 rfl) rfl rfl rfl k1
        have hC := concat_n [.slice (some ⟨tb, ti, none⟩) l.length c, .slice (some ⟨gp, 0, none⟩) (padL l.length).length cp] [l, padL l.length] (by simp) (by rw [hfl]; omega) _ 0 2 _ _ _ _ (PartsAt.cons (hvW.below hS.below) hne (PartsAt.cons hbp hpne (PartsAt.nil _))) (hS.blk 0 rfl) (fun i v h => by rw [Nat.zero_add, List.getElem?_toArray]; exact h) (by show 2 ≤ 1000000000; omega)
        rw [hfl, hm] at hC
        refine s_call Aa (by rfl) (by rfl) (by rfl) (by rfl) (by rfl) (by infer_instance) hC ?_
        rintro e w2 ⟨gc, cc, sp, rfl, ⟨j1, j2, j3⟩, j4, j5, j6⟩
        refine ⟨_, rfl, ?_⟩
        refine Ad ?_
        replace hS := Ab.new hS j6 j4 j5
        repeat' (first | ((with_reducible refine Ac ?_); first | ((first | refine Ai Aa ?_) <;> refine Ad ?_)) | ((fail_if_success (with_reducible refine Ac ?_)); first | go_step | go_step3 | rw [Exit.noGoto_normal] | rw [Exit.noGoto_ret] | rw [Exit.noGoto_exit]))
        refine any_turn 6 (by kernel_rfl) (by rfl) ?_
        refine s_call Aa (by rfl) (by rfl) (by rfl) (by rfl) (by rfl) (by infer_instance) (chunk_any _ rfl _) ?_
        rintro e w3 ⟨q1, q2, rfl, i1, i2, i3, i4, i5⟩
        refine ⟨_, rfl, ?_⟩
        refine Ad ?_
        have z1 := Nat.le_trans hS.below.size i1
        have z2 := Nat.le_trans hS.below.size i2
        replace hS := hS.call i5
        repeat' (first | ((with_reducible refine Ac ?_); first | ((first | refine Ai Aa ?_) <;> refine Ad ?_)) | ((fail_if_success (with_reducible refine Ac ?_)); first | go_step | go_step3 | rw [Exit.noGoto_normal] | rw [Exit.noGoto_ret] | rw [Exit.noGoto_exit]))
        refine any_done (by kernel_rfl) ?_
        repeat' (first | ((with_reducible refine Ac ?_); first | ((first | refine Ai Aa ?_ | refine Al Aa ?_ | refine Af Aa ?_ | refine Av Aa Ab hS ?_ | refine Ba Aa Ab hS ?_ | refine Be Aa ?_ | refine Bw Aa ?_ | refine Ar Aa ?_) <;> refine Ad ?_) | ((first | refine Cu Aa Ab hS ?_ | refine Ao Aa Ab hS ?_ | refine As Aa Ab hS ?_); clear hS; intro b w hS; refine Ad ?_)) | ((fail_if_success (with_reducible refine Ac ?_)); first | go_step | go_step3 | rw [Exit.noGoto_normal] | rw [Exit.noGoto_ret] | rw [Exit.noGoto_exit]))
        exact hrest _ _ _ _ _ _ _ _ sp j1 (((hS.erase 0).erase 0).erase 0) (hS.blk 0 rfl) i3 i4 (hS.2.1 _ (List.mem_cons_self ..)).1 z1 z2
      · skip
        refine s_call Aa (by rfl) (by rfl) (by rfl) (by rfl) (by rfl) (by infer_instance) (pad_any l.length (by omega) _) ?_
        rintro e w1 ⟨gp, cp, sp1, rfl, k1, k2, k3, k4, k5, k6⟩
        refine ⟨_, rfl, ?_⟩
        refine Ad ?_
        replace hS := Ab.new hS k6 k4 k5
        repeat' (first | ((with_reducible refine Ac ?_); first | ((first | refine Ai Aa ?_ | refine Al Aa ?_ | refine Af Aa ?_ | refine Av Aa Ab hS ?_ | refine Ba Aa Ab hS ?_ | refine Be Aa ?_ | refine Bw Aa ?_ | refine Ar Aa ?_) <;> refine Ad ?_) | ((first | refine Cu Aa Ab hS ?_ | refine Ao Aa Ab hS ?_ | refine As Aa Ab hS ?_); clear hS; intro b w hS; refine Ad ?_)) | ((fail_if_success (with_reducible refine Ac ?_)); first | go_step | go_step3 | rw [Exit.noGoto_normal] | rw [Exit.noGoto_ret] | rw [Exit.noGoto_exit]))
        refine any_turn 0 (by kernel_rfl) (by rfl) ?_
        repeat' (first | ((with_reducible refine Ac ?_); first | ((first | refine Ai Aa ?_ | refine Av Aa Ab hS ?_ | refine Bs Aa (by first | exact ((hS).far hgW).1) ?_) <;> refine Ad ?_)) | ((fail_if_success (with_reducible refine Ac ?_)); first | go_step | go_step3 | rw [Exit.noGoto_normal] | rw [Exit.noGoto_ret] | rw [Exit.noGoto_exit]))
        refine any_turn 4 (by kernel_rfl) (by rfl) ?_
        repeat' (first | ((with_reducible refine Ac ?_); first | ((first | refine Ai Aa ?_ | refine Ar Aa ?_) <;> refine Ad ?_) | ((first | refine Ao Aa Ab hS ?_ | refine As Aa Ab hS ?_); clear hS; intro b w hS; refine Ad ?_)) | ((fail_if_success (with_reducible refine Ac ?_)); first | go_step | go_step3 | rw [Exit.noGoto_normal] | rw [Exit.noGoto_ret] | rw [Exit.noGoto_exit]))
        refine any_turn 5 (by kernel_rfl) (by rfl) ?_
        have hbp := bytesAt_mid (pre := []) (off := 0) (hS.blk 1 rfl) rfl rfl rfl k1
        have hC := concat_n [.slice (some ⟨tb, ti, none⟩) l.length c, .slice (some ⟨gp, 0, none⟩) (padL l.length).length cp] [l, padL l.length] (by simp) (by rw [hfl]; omega) _ 0 2 _ _ _ _ (PartsAt.cons (hvW.below hS.below) hne (PartsAt.cons hbp hpne (PartsAt.nil _))) (hS.blk 0 rfl) (fun i v h => by rw [Nat.zero_add, List.getElem?_toArray]; exact h) (by show 2 ≤ 1000000000; omega)
        rw [hfl, hm] at hC
        refine s_call Aa (by rfl) (by rfl) (by rfl) (by rfl) (by rfl) (by infer_instance) hC ?_
        rintro e w2 ⟨gc, cc, sp, rfl, ⟨j1, j2, j3⟩, j4, j5, j6⟩
        refine ⟨_, rfl, ?_⟩
        refine Ad ?_
        replace hS := Ab.new hS j6 j4 j5
        repeat' (first | ((with_reducible refine Ac ?_); first | ((first | refine Ai Aa ?_) <;> refine Ad ?_)) | ((fail_if_success (with_reducible refine Ac ?_)); first | go_step | go_step3 | rw [Exit.noGoto_normal] | rw [Exit.noGoto_ret] | rw [Exit.noGoto_exit]))
        refine any_turn 6 (by kernel_rfl) (by rfl) ?_
        refine s_call Aa (by rfl) (by rfl) (by rfl) (by rfl) (by rfl) (by infer_instance) (chunk_any _ rfl _) ?_
        rintro e w3 ⟨q1, q2, rfl, i1, i2, i3, i4, i5⟩
        refine ⟨_, rfl, ?_⟩
        refine Ad ?_
        have z1 := Nat.le_trans hS.below.size i1
        have z2 := Nat.le_trans hS.below.size i2
        replace hS := hS.call i5
        repeat' (first | ((with_reducible refine Ac ?_); first | ((first | refine Ai Aa ?_) <;> refine Ad ?_)) | ((fail_if_success (with_reducible refine Ac ?_)); first | go_step | go_step3 | rw [Exit.noGoto_normal] | rw [Exit.noGoto_ret] | rw [Exit.noGoto_exit]))
        refine any_done (by kernel_rfl) ?_
        repeat' (first | ((with_reducible refine Ac ?_); first | ((first | refine Ai Aa ?_ | refine Al Aa ?_ | refine Af Aa ?_ | refine Av Aa Ab hS ?_ | refine Ba Aa Ab hS ?_ | refine Be Aa ?_ | refine Bw Aa ?_ | refine Ar Aa ?_) <;> refine Ad ?_) | ((first | refine Cu Aa Ab hS ?_ | refine Ao Aa Ab hS ?_ | refine As Aa Ab hS ?_); clear hS; intro b w hS; refine Ad ?_)) | ((fail_if_success (with_reducible refine Ac ?_)); first | go_step | go_step3 | rw [Exit.noGoto_normal] | rw [Exit.noGoto_ret] | rw [Exit.noGoto_exit]))
        exact hrest _ _ _ _ _ _ _ _ sp j1 (((hS.erase 0).erase 0).erase 0) (hS.blk 0 rfl) i3 i4 (hS.2.1 _ (List.mem_cons_self ..)).1 z1 z2
end Go.Proofs.Ytcjncidahjneaaa

namespace Go.Proofs.Ytcjncidahjneaaa
open Go.ChangeShapes Go.WideShapes Go.ChangeAt Go.RowKit
attribute [local irreducible] wpList wpListIn Oper.quietAt wpM
theorem flat4 (f : W32 → List UInt8) (hf : ∀ x, (f x).length = 4) : ∀ (xs : List W32) (i : Nat), i < xs.length → (xs.flatMap f).take (4 * (i + 1)) = (xs.flatMap f).take (4 * i) ++ f (xs.getD i 0)
  | [], i, h => by simp at h
  | x :: xs, 0, _ => by
    rw [List.flatMap_cons, Nat.mul_zero, List.take_zero, List.take_left' (by rw [hf])]
    rfl
  | x :: xs, i + 1, h => by
    have ih := flat4 f hf xs i (by simpa using h)
    rw [List.flatMap_cons, show 4 * (i + 1 + 1) = (f x).length + 4 * (i + 1) by rw [hf]; omega, List.take_length_add_append, ih, show 4 * (i + 1) = (f x).length + 4 * i by rw [hf]; omega, List.take_length_add_append, List.append_assoc]
    rfl
theorem outL_next (h : S8) {i : Nat} (hi : i < 8) : (outL h).take (4 * (i + 1)) = (outL h).take (4 * i) ++ beB (h.toL.getD i 0).toNat 4 := flat4 _ (fun _x => beB_len _ _) h.toL i hi
theorem IterAt.congr {P : Program} {gf : Nat} {lb : Array Value} {els els' : Nat → Array Value} {N : Option Nat} {R : List Nat} {W0 : World} (h : IterAt P gf lb els N R W0) (he : ∀ k, (∀ n, N = some n → k < n) → els' k = els k) : IterAt P gf lb els' N R W0 := by
  intro l J Jx M W L0 a b c d e hY
  exact h l J Jx M W L0 a b c d e (fun k L W1 hJ hR hk => by rw [← he k hk]; exact hY k L W1 hJ hR hk)
/-- The pieces, whole ones behind the last too. -/
def pcs (A : List UInt8) (m k : Nat) : List UInt8 := if k < m then (A.drop (64 * k)).take 64 else zs 64
theorem pcs_lt {A : List UInt8} {m k : Nat} (h : k < m) : pcs A m k = (A.drop (64 * k)).take 64 := if_pos h
theorem pcs_len {A : List UInt8} {m : Nat} (hA : A.length = 64 * m) (k : Nat) : (pcs A m k).length = 64 := by
  unfold pcs
  split
  · rw [List.length_take, List.length_drop]; omega
  · exact zs_len 64
attribute [local irreducible] schedL takeL hashL pcs
set_option maxRecDepth 100000 in
set_option maxHeartbeats 4000000 in
theorem of_any (vs : List Value) (ls : List (List UInt8)) (hne : ls ≠ []) (hl : ls.flatten.length ≤ 1000000) (bb off c : Nat) (cs : Array Value) (ty : TypeId) (fr : Nat × Nat) (w0 : World) (hv : PartsAt w0 vs ls) (hbb : blk w0 bb = some (.cells cs ty fr)) (hcs : ∀ i v, vs[i]? = some v → cs[off + i]? = some v) (hl9 : ls.length ≤ 1000000000) :
    Calls Try.prog 56 #[.slice (some ⟨bb, off, none⟩) ls.length c] w0 fun e w' => e = .returned (.agg (bvs (shaL ls.flatten))) ∧ Below w0.heap.size w0 w' := by
  obtain ⟨l, hll⟩ : ∃ l, ls.flatten = l := ⟨_, rfl⟩
  have hcon := fun w bb off c cs ty fr hv hbb hcs => concat_n vs ls hne (by omega) bb off c cs ty fr w hv hbb hcs hl9
  rw [hll] at hl hcon ⊢
  have hlne : l ≠ [] := by
    rintro rfl
    have h1 := List.length_pos_iff.2 hne
    have h2 := List.getElem?_eq_getElem (l := ls) (i := 0) h1
    have h3 := List.getElem?_eq_getElem (l := vs) (i := 0) (by rw [hv.1]; exact h1)
    have h4 := (hv.2 0 _ _ h3 h2).2
    have h5 := List.flatten_eq_nil_iff.1 hll _ (List.getElem_mem h1)
    exact h4 h5
  have hT : shaL l = outL (hashL (l ++ padL l.length) ((l ++ padL l.length).length / 64)) := rfl
  have hw := whole l
  obtain ⟨A, hA⟩ : ∃ A, l ++ padL l.length = A := ⟨_, rfl⟩
  rw [hA] at hT hw
  obtain ⟨m, hm⟩ : ∃ m, A.length / 64 = m := ⟨_, rfl⟩
  rw [hm] at hT hw
  have s8 := csz_zw 8
  have sb := csz_toL begL
  have hS := St.start w0
  refine calls_of_marksR Try.func56 rfl ?_
  simp only [Try.ntmps56, List.size_toArray, List.length_cons, List.length_nil, Nat.reduceAdd, Nat.reduceSub, Array.replicate_succ, Array.replicate_zero, List.push_toArray, List.append_toArray, List.nil_append, List.cons_append]
  repeat' (first | ((with_reducible refine Ac ?_); first | ((first | refine Ai Aa ?_ | refine Al Aa ?_ | refine Af Aa ?_ | refine Ba Aa Ab hS ?_ | refine Bd Aa ?_ | refine Ca Aa ?_ | refine Ak Aa ?_ | refine Aj Aa ?_ | refine Aw Aa (fun hc => ?_) (fun hc => ?_) | refine Bq Aa ?_ | refine Bh Aa ?_ | refine Bc Aa ?_ | refine Au Aa ?_) <;> refine Ad ?_) | ((first | refine Ay Aa Ab hS ?_); clear hS; intro b w hS; refine Ad ?_) | ((first | refine Ap Aa Ab hS ?_ | refine Aq Aa Ab hS ?_); clear hS; intro w hS; refine Ad ?_) | (refine Ce Aa Ab hS (begin_any _) ?_; clear hS; intro w hS; refine Ad ?_) | (refine Ap Aa Ab hS ?_ (hv := ones_wvs _); clear hS; intro w hS; refine Ad ?_)) | ((fail_if_success (with_reducible refine Ac ?_)); first | go_step | go_step3 | rw [Exit.noGoto_normal] | rw [Exit.noGoto_ret] | rw [Exit.noGoto_exit]))
  refine s_call Aa (by rfl) (by rfl) (by rfl) (by rfl) (by rfl) (by infer_instance) (hcon _ bb off c cs ty fr (hv.below hS.below) (hS.far hbb).1 hcs) ?_
  rintro e w1 ⟨g, c1, sp, rfl, ⟨k1, k2, k3⟩, k4, k5, k6⟩
  refine ⟨_, rfl, ?_⟩
  refine Ad ?_
  replace hS := Ab.new hS k6 k4 k5
  clear hcon
  repeat' (first | ((with_reducible refine Ac ?_); first | ((first | refine Ai Aa ?_ | refine Al Aa ?_ | refine Af Aa ?_ | refine Ba Aa Ab hS ?_ | refine Bd Aa ?_ | refine Ca Aa ?_ | refine Ak Aa ?_ | refine Aj Aa ?_ | refine Aw Aa (fun hc => ?_) (fun hc => ?_) | refine Bq Aa ?_ | refine Bh Aa ?_ | refine Bc Aa ?_ | refine Au Aa ?_) <;> refine Ad ?_) | ((first | refine Ay Aa Ab hS ?_); clear hS; intro b w hS; refine Ad ?_) | ((first | refine Ap Aa Ab hS ?_ | refine Aq Aa Ab hS ?_); clear hS; intro w hS; refine Ad ?_)) | ((fail_if_success (with_reducible refine Ac ?_)); first | go_step | go_step3 | rw [Exit.noGoto_normal] | rw [Exit.noGoto_ret] | rw [Exit.noGoto_exit]))
  refine s_call Aa (by rfl) (by rfl) (by rfl) (by rfl) (by rfl) (by infer_instance) (pieces_any _ rfl _) ?_
  rintro e w2 ⟨g2, rfl, j1, j2, j3⟩
  refine ⟨_, rfl, ?_⟩
  refine Ad ?_
  replace hS := Ab.new hS j3 j1 j2
  repeat' (first | ((with_reducible refine Ac ?_); first | ((first | refine Ai Aa ?_ | refine Al Aa ?_ | refine Af Aa ?_ | refine Ba Aa Ab hS ?_ | refine Bd Aa ?_ | refine Ca Aa ?_ | refine Ak Aa ?_ | refine Aj Aa ?_ | refine Aw Aa (fun hc => ?_) (fun hc => ?_) | refine Bq Aa ?_ | refine Bh Aa ?_ | refine Bc Aa ?_ | refine Au Aa ?_) <;> refine Ad ?_) | ((first | refine Ay Aa Ab hS ?_); clear hS; intro b w hS; refine Ad ?_) | ((first | refine Ap Aa Ab hS ?_ | refine Aq Aa Ab hS ?_); clear hS; intro w hS; refine Ad ?_)) | ((fail_if_success (with_reducible refine Ac ?_)); first | go_step | go_step3 | rw [Exit.noGoto_normal] | rw [Exit.noGoto_ret] | rw [Exit.noGoto_exit]))
  have hit := pieces1_iter l hlne hl m g2 A hA hw _ w2 j2 (bytesAt_mid (pre := []) (off := 0) (hS.blk 1 rfl) rfl rfl rfl k1)
  replace hit := IterAt.congr (els' := fun k => #[.agg (bvs (pcs A m k))]) hit (fun k hk => by rw [pcs_lt (hk m rfl)])
  rename_i bR x1 x2 x3 KK hKK
  obtain ⟨hb, hhb⟩ : ∃ x, x = b := ⟨_, rfl⟩
  rw [← hhb] at hS ⊢
  clear hhb
  have h0 : hashL A 0 = begL := by unfold hashL; rfl
  have hSL := (hS.erase 0).erase 0
  clear hS
  refine wp_range_box (els := fun k => #[.agg (bvs (pcs A m k))]) (N := some m) (R := []) (gf := 81) (lb := #[.pointer (some ⟨g2, 0, none⟩)]) (by rfl) (by intro args w; kernel_rfl) hit (Below.refl _ _) (fun _ => rfl)
    (fun k L => k ≤ m ∧ L = [(hb, wvs (hashL A k).toL, 120), (bR, bvs (zs 32), 24)]) (fun _ _ => False) 0 (fun h => by cases h) [(hb, wvs begL.toL, 120), (bR, bvs (zs 32), 24)] ⟨by omega, by rw [h0]⟩ hSL.holds (fun _ h => absurd h List.not_mem_nil) (fun k => bvs (pcs A m k)) 108 (fun k x => { tmps := #[.slice (some ⟨bb, off, none⟩) ls.length c, undef, .pointer (some ⟨bR, 0, none⟩), .pointer (some ⟨hb, 0, none⟩), .pointer (some ⟨x, 0, none⟩), undef, undef, undef, .agg (wvs begL.toL), .slice (some ⟨bb, off, none⟩) ls.length c, .slice (some ⟨g, 0, none⟩) l.length c1, .func (.func 81) #[] #[.pointer (some ⟨g2, 0, none⟩)], .agg (bvs (pcs A m k)), undef, undef, undef, undef, undef, undef, undef, undef, undef, undef, undef, undef, undef, undef, undef, undef, undef, undef, undef, undef], defers := [] }) ?assign ?body ?done ?stop
  case assign =>
    rintro l0 k L W ⟨hk, rfl⟩ hIn K hK
    have hS := hIn.round
    have sz := Bg (zs 64)
    rw [zs_len] at sz
    have sp := Bg (pcs A m k)
    rw [pcs_len hw] at sp
    have hlp := pcs_len hw k
    obtain ⟨p, hp⟩ : ∃ p, pcs A m k = p := ⟨_, rfl⟩
    rw [hp] at sp hlp ⊢
    try rw [hp] at hK
    simp only [List.zip_toArray, List.zip_cons_cons, List.zip_nil_right, List.foldl_toArray', List.foldl_cons, List.foldl_nil, List.setIfInBounds_toArray, List.set_cons_zero, List.set_cons_succ]
    repeat' (first | ((with_reducible refine cons_in ?_); first | ((first | refine Ai Am ?_ | refine Al Am ?_ | refine Af Am ?_ | refine Av Am own_in hS ?_ | refine Ba Am own_in hS ?_ | refine Ag Am ?_ | refine Ae Am ?_ | refine Be Am ?_ | refine g_cap Am ?_ | refine Bl Am ?_ | refine Bd Am ?_ | refine Cj Am ?_ | refine Ca Am ?_ | refine Cz Am ?_ | refine Cq Am ?_ | refine Ak Am ?_ | refine Aj Am ?_ | refine Aw Am (fun hc => ?_) (fun hc => ?_) | refine Cg Am ?_ | refine Bz Am ?_ | refine Ck Am ?_ | refine Cd Am ?_ | refine Az Am ?_ | refine g_field1 Am ?_ | refine g_fieldR Am ?_ | refine Bx Am ?_ | refine Bu Am ?_ | refine Ax Am ?_ | refine Dj Am ?_ | refine Bq Am ?_ | refine Bk Am ?_ | refine Bw Am ?_ | refine Bh Am ?_ | refine Bc Am ?_ | refine Au Am ?_ | refine g_nilCheck Am ?_ | refine Cp Am ?_ | refine Ar Am ?_) <;> refine Ad ?_) | ((first | refine Ay Am own_in hS ?_ | refine Cu Am own_in hS ?_ | refine Ao Am own_in hS ?_ | refine As Am own_in hS ?_ | refine g_make Am own_in hS ?_); clear hS; intro b w hS; refine Ad ?_) | ((first | refine Br Am own_in hS ?_ | refine Ap Am own_in hS ?_ | refine Aq Am own_in hS ?_); clear hS; intro w hS; refine Ad ?_)) | ((fail_if_success (with_reducible refine cons_in ?_)); first | gi_step | (with_reducible refine wpIn_scope_wide ?_) | (with_reducible refine wpIn_label ?_) | rw [Exit.noGoto_normal] | rw [Exit.noGoto_ret] | rw [Exit.noGoto_exit]))
    exact hS
  case body =>
    rintro l0 k L bx W ⟨hk, rfl⟩ hIn hN
    have hlt := hN _ rfl
    have hSW := hSL.range hIn
    have hS := hIn.round
    have hl64 : ((A.drop (64 * k)).take 64).length = 64 := by rw [List.length_take, List.length_drop]; omega
    have hn := hashL_succ A k
    rw [pcs_lt hlt] at hS hSW ⊢
    obtain ⟨p, hp⟩ : ∃ p, (A.drop (64 * k)).take 64 = p := ⟨_, rfl⟩
    rw [hp] at hS hSW hl64 hn ⊢
    obtain ⟨h, hh⟩ : ∃ h, hashL A k = h := ⟨_, rfl⟩
    rw [hh] at hS hSW hn ⊢
    have hlS : (schedL p 64).length = 64 := schedL_len p 64
    have hsch := fun w => schedule_any p hl64 w
    obtain ⟨Ws, hW⟩ : ∃ W, schedL p 64 = W := ⟨_, rfl⟩
    rw [hW] at hlS hn hsch
    have htk := fun w => takeW_any h Ws hlS w
    obtain ⟨T, hT2⟩ : ∃ T, takeL h Ws = T := ⟨_, rfl⟩
    rw [hT2] at htk hn
    clear hT2 hW hp hh hit hIn
    have sS : csz (wvs T.toL) = 8 := csz_toL _
    have sH : csz (wvs h.toL) = 8 := csz_toL _
    have sP : csz (bvs p) = 64 := by rw [Bg, hl64]
    repeat' (first | ((with_reducible refine cons_in ?_); first | ((first | refine Ai Am ?_ | refine Al Am ?_ | refine Af Am ?_ | refine Av Am own_in hS ?_ | refine Ba Am own_in hS ?_ | refine Ag Am ?_ | refine Ae Am ?_ | refine Be Am ?_ | refine g_cap Am ?_ | refine Bl Am ?_ | refine Bd Am ?_ | refine Cj Am ?_ | refine Ca Am ?_ | refine Cz Am ?_ | refine Cq Am ?_ | refine Ak Am ?_ | refine Aj Am ?_ | refine Aw Am (fun hc => ?_) (fun hc => ?_) | refine Cg Am ?_ | refine Bz Am ?_ | refine Ck Am ?_ | refine Cd Am ?_ | refine Az Am ?_ | refine g_field1 Am ?_ | refine g_fieldR Am ?_ | refine Bx Am ?_ | refine Bu Am ?_ | refine Ax Am ?_ | refine Dj Am ?_ | refine Bq Am ?_ | refine Bk Am ?_ | refine Bw Am ?_ | refine Bh Am ?_ | refine Bc Am ?_ | refine Au Am ?_) <;> refine Ad ?_) | ((first | refine Ay Am own_in hS ?_ | refine Cu Am own_in hS ?_ | refine Ao Am own_in hS ?_ | refine As Am own_in hS ?_ | refine g_make Am own_in hS ?_); clear hS; intro b w hS; refine Ad ?_) | ((first | refine Br Am own_in hS ?_ | refine Ap Am own_in hS ?_); clear hS; intro w hS; refine Ad ?_)) | ((fail_if_success (with_reducible refine cons_in ?_)); first | gi_step | (with_reducible refine wpIn_scope_wide ?_) | (with_reducible refine wpIn_label ?_) | rw [Exit.noGoto_normal] | rw [Exit.noGoto_ret] | rw [Exit.noGoto_exit]))
    refine region_monoR_lit 4 (by kernel_rfl) (by kernel_rfl) (by kernel_rfl) ?_
    dsimp only [List.take, List.drop]
    iterate 4 (first | (refine Dc (fun _ => rfl) ?_; simp only [Act.put, List.setIfInBounds_toArray, List.set_cons_zero, List.set_cons_succ]) | (refine Cw (by rfl) (fun _ => rfl) _ (fun w => r_alloc (a := ⟨#[], []⟩) rfl (by infer_instance)) ?_; simp only [Act.put, List.setIfInBounds_toArray, List.set_cons_zero, List.set_cons_succ]) | (refine Dd (fun _ => rfl) (fun K hK => ?_); apply Exists.intro; refine ⟨fun pB w' hw' hF => ?_, hK _ _ ?_⟩; (focus (have hZ := (own_in).call hS hw'; first | exact (g_qcall (hsch _)) | exact (g_qcall (htk _)) | exact q_move | exact Dh | exact q_load1 own_in hZ | exact q_loadR own_in hZ | exact Ci | exact Cb | exact q_len | exact q_cap | exact Cy | exact q_add | exact q_sub | exact q_mul | exact q_quo | exact q_rem | exact q_cmp_t | exact q_cmp_f | exact De | exact Cx | exact Df | exact Cv | exact Ch | exact Di | exact Dg | exact Cm | exact Co | exact Bt | exact Cl | exact q_conv | exact q_pick | exact q_not | exact Db | exact Ct | exact Cc)); clear hK K; simp only [Act.put, List.setIfInBounds_toArray, List.set_cons_zero, List.set_cons_succ]))
    refine wpM_nil ?_
    intro pB w hcq hfq hnq
    replace hS := (own_in).news hS hcq _ (by decide) hfq hnq
    first | simp only [List.map_nil, List.nil_append] at hS | simp only [List.map_cons, List.map_nil, List.cons_append, List.nil_append] at hS
    clear hcq hfq hnq
    try dsimp only
    repeat' (first | ((with_reducible refine cons_in ?_); first | ((first | refine Ai Am ?_ | refine Al Am ?_ | refine Af Am ?_ | refine Av Am own_in hS ?_ | refine Ba Am own_in hS ?_ | refine Ag Am ?_ | refine Ae Am ?_ | refine Be Am ?_ | refine g_cap Am ?_ | refine Bl Am ?_ | refine Bd Am ?_ | refine Cj Am ?_ | refine Ca Am ?_ | refine Cz Am ?_ | refine Cq Am ?_ | refine Ak Am ?_ | refine Aj Am ?_ | refine Aw Am (fun hc => ?_) (fun hc => ?_) | refine Cg Am ?_ | refine Bz Am ?_ | refine Ck Am ?_ | refine Cd Am ?_ | refine Az Am ?_ | refine g_field1 Am ?_ | refine g_fieldR Am ?_ | refine Bx Am ?_ | refine Bu Am ?_ | refine Ax Am ?_ | refine Dj Am ?_ | refine Bq Am ?_ | refine Bk Am ?_ | refine Bw Am ?_ | refine Bh Am ?_ | refine Bc Am ?_ | refine Au Am ?_) <;> refine Ad ?_) | ((first | refine Ay Am own_in hS ?_ | refine Cu Am own_in hS ?_ | refine Ao Am own_in hS ?_ | refine As Am own_in hS ?_ | refine g_make Am own_in hS ?_); clear hS; intro b w hS; refine Ad ?_) | ((first | refine Br Am own_in hS ?_ | refine Ap Am own_in hS ?_); clear hS; intro w hS; refine Ad ?_) | (refine Ap Am own_in hS ?_ (hv := ones_wvs _); clear hS; intro w hS; refine Ad ?_)) | ((fail_if_success (with_reducible refine cons_in ?_)); first | gi_step | (with_reducible refine wpIn_scope_wide ?_) | (with_reducible refine wpIn_label ?_) | rw [Exit.noGoto_normal] | rw [Exit.noGoto_ret] | rw [Exit.noGoto_exit]))
    exact ⟨_, hS.tail, by omega, by rw [hn]⟩
  case stop => rintro D c L W hf; exact hf.elim
  case done =>
    rintro D N1 L W hm' ⟨hk, rfl⟩ hIn hD hD0
    obtain rfl := Option.some.inj hm'
    have hS : StD w0 D W _ := ⟨hSL.range hIn, hD⟩
    have hDw : w0.heap.size ≤ D := Nat.le_trans hSL.below.size hD0
    obtain ⟨r, hr⟩ : ∃ r, hashL A m = r := ⟨_, rfl⟩
    rw [hr] at hS hT
    have s9 := csz_toL r
    have hon := @outL_next r
    have hol := outL_len r
    obtain ⟨O, hO⟩ : ∃ O, outL r = O := ⟨_, rfl⟩
    rw [hO] at hon hol hT
    clear hit hIn
    repeat' (first | ((with_reducible refine Ac ?_); first | ((first | refine Ai Aa ?_ | refine Al Aa ?_ | refine Af Aa ?_ | refine Ba Aa own_stD hS ?_ | refine Bd Aa ?_ | refine Ca Aa ?_ | refine Ak Aa ?_ | refine Aj Aa ?_ | refine Aw Aa (fun hc => ?_) (fun hc => ?_) | refine Bq Aa ?_ | refine Bh Aa ?_ | refine Bc Aa ?_ | refine Au Aa ?_) <;> refine Ad ?_) | ((first | refine Ay Aa own_stD hS ?_); clear hS; intro b w hS; refine Ad ?_) | ((first | refine Ap Aa own_stD hS ?_ | refine Aq Aa own_stD hS ?_); clear hS; intro w hS; refine Ad ?_)) | ((fail_if_success (with_reducible refine Ac ?_)); first | go_step | go_step3 | rw [Exit.noGoto_normal] | rw [Exit.noGoto_ret] | rw [Exit.noGoto_exit]))
    rename_i KK hKK
    go_loopw [6, 7, 18] (fun u6 u7 u18 wr => ∃ i : Nat, i ≤ 8 ∧ u18 = .int .i64 (i : Int) ∧ StD w0 D wr [(b, bvs (O.take (4 * i) ++ zs (32 - 4 * i)), 24), (hb, wvs r.toL, 120), (bR, bvs (zs 32), 24)]) (fun _ _ u18 _ => 8 - (intOf u18).toNat)
    case atStart => exact ⟨0, by omega, rfl, hS⟩
    case round =>
      clear hS
      obtain ⟨i, hi, rfl, hS⟩ := hrel
      have s5 : csz (bvs (O.take (4 * i) ++ zs (32 - 4 * i))) = 32 := by rw [Bg, List.length_append, List.length_take, zs_len]; omega
      by_cases hlt : i < 8
      · have hx := wvs_get (l := r.toL) (k := i) hlt
        have hn2 := hon hlt
        obtain ⟨x, hxx⟩ : ∃ x, r.toL.getD i 0 = x := ⟨_, rfl⟩
        rw [hxx] at hx hn2
        have hlt4 : (O.take (4 * i)).length = 4 * i := by rw [List.length_take]; omega
        have hov : ovw (bvs (O.take (4 * i) ++ zs (32 - 4 * i))) (4 * i) (beB x.toNat 4) = bvs (O.take (4 * (i + 1)) ++ zs (32 - 4 * (i + 1))) := by
          rw [ovw_bvs, beB_len, List.take_left' hlt4, List.drop_append, List.drop_of_length_le (by rw [hlt4]; omega), List.nil_append, hlt4, Nat.add_sub_cancel_left, ← List.append_assoc, ← hn2]
          congr 2
          unfold zs
          rw [List.drop_replicate]
          congr 1
        have hxl := x.isLt
        repeat' (first | ((with_reducible refine Ac ?_); first | ((first | refine Ai Aa ?_ | refine Al Aa ?_ | refine Af Aa ?_ | refine Ba Aa own_stD hS ?_ (hv := by first | exact Bo _ _ (by (try simp only [Bn, Bg, Bm, List.length_append, List.length_set, zs_len, List.length_take, List.length_drop, List.length_cons, List.length_nil]); first | done | rfl | omega) | (exact hx) | rfl) | refine Bd Aa ?_ | refine Ca Aa ?_ | refine Ak Aa ?_ | refine Aj Aa ?_ | refine Aw Aa (fun hc => ?_) (fun hc => ?_) | refine Bq Aa ?_ | refine Bh Aa ?_ | refine Bc Aa ?_ | refine Au Aa ?_) <;> refine Ad ?_) | ((first | refine Ay Aa own_stD hS ?_); clear hS; intro b w hS; refine Ad ?_) | ((first | refine Ap Aa own_stD hS ?_ | refine Aq Aa own_stD hS ?_); clear hS; intro w hS; refine Ad ?_) | (refine Stp.go Aa (by rfl) (by rfl) (r_indexW (by rfl) (by rfl) (by rfl) (by rfl) (by rfl) (by rfl) (by omega) hx) ?_; refine Ad ?_)) | ((fail_if_success (with_reducible refine Ac ?_)); first | go_step | go_step3 | rw [Exit.noGoto_normal] | rw [Exit.noGoto_ret] | rw [Exit.noGoto_exit]))
        rw [show (4 * (i : Int) + 4).toNat - (4 * (i : Int)).toNat = 4 by omega, show (4 * (i : Int)).toNat = 4 * i by omega]
        refine s_callRow Aa own_stD hS (by rfl) (by rfl) (by rfl) (by rfl) (by rfl) (by infer_instance) (putBig_any b (4 * i) 4 (32 - 4 * i) _ 24 x.toNat _ (own_stD.blk 0 hS rfl) (by rw [s5]; omega) (by omega) (by unfold maxLen; omega)) (by exact at_ 0 rfl) hov (by (try conv => lhs; simp only [List.set_cons_zero, List.set_cons_succ, List.eraseIdx_cons_zero, List.eraseIdx_cons_succ]); first | done | rfl) ?_
        clear hS
        intro w hS
        refine Ad ?_
        repeat' (first | ((with_reducible refine Ac ?_); first | ((first | refine Ai Aa ?_ | refine Al Aa ?_ | refine Af Aa ?_ | refine Ba Aa own_stD hS ?_ | refine Bd Aa ?_ | refine Ca Aa ?_ | refine Ak Aa ?_ | refine Aj Aa ?_ | refine Aw Aa (fun hc => ?_) (fun hc => ?_) | refine Bq Aa ?_ | refine Bh Aa ?_ | refine Bc Aa ?_ | refine Au Aa ?_) <;> refine Ad ?_) | ((first | refine Ay Aa own_stD hS ?_); clear hS; intro b w hS; refine Ad ?_) | ((first | refine Ap Aa own_stD hS ?_ | refine Aq Aa own_stD hS ?_); clear hS; intro w hS; refine Ad ?_)) | ((fail_if_success (with_reducible refine Ac ?_)); first | go_step | go_step3 | rw [Exit.noGoto_normal] | rw [Exit.noGoto_ret] | rw [Exit.noGoto_exit]))
        go_roundw
        case rel => exact ⟨i + 1, by omega, by push_cast; rfl, hS⟩
        case measure => first | (simp [intOf]; done) | (simp [intOf]; omega)
      · obtain rfl : i = 8 := by omega
        replace hS : StD w0 D wr [(b, bvs O, 24), (hb, wvs r.toL, 120), (bR, bvs (zs 32), 24)] := by
          have e : O.take (4 * 8) ++ zs (32 - 4 * 8) = O := by rw [show 32 - 4 * 8 = 0 from rfl, zs0, List.append_nil, List.take_of_length_le (by omega)]
          rw [e] at hS; exact hS
        have s6 : csz (bvs O) = 32 := by rw [Bg, hol]
        have s7 : csz (bvs (zs 32)) = 32 := by rw [Bg, zs_len]
        repeat' (first | ((with_reducible refine Ac ?_); first | ((first | refine Ai Aa ?_ | refine Al Aa ?_ | refine Af Aa ?_ | refine Ba Aa own_stD hS ?_ | refine Bd Aa ?_ | refine Ca Aa ?_ | refine Ak Aa ?_ | refine Aj Aa ?_ | refine Aw Aa (fun hc => ?_) (fun hc => ?_) | refine Bq Aa ?_ | refine Bh Aa ?_ | refine Bc Aa ?_ | refine Au Aa ?_) <;> refine Ad ?_) | ((first | refine Ay Aa own_stD hS ?_); clear hS; intro b w hS; refine Ad ?_) | ((first | refine Ap Aa own_stD hS ?_ | refine Aq Aa own_stD hS ?_); clear hS; intro w hS; refine Ad ?_)) | ((fail_if_success (with_reducible refine Ac ?_)); first | go_step | go_step3 | rw [Exit.noGoto_normal] | rw [Exit.noGoto_ret] | rw [Exit.noGoto_exit]))
        refine postMR (.inl rfl) rfl hS.2 ?_
        have hS2 := hS.shut hDw
        exact post_cell (n := 32) Try.results56 (by kernel_rfl) (.inl rfl) _ _ _ _ rfl rfl (hS2.blk 2 rfl) (by rw [← csz_is]; exact s6) ⟨by rw [hT], hS2.below⟩
end Go.Proofs.Ytcjncidahjneaaa
