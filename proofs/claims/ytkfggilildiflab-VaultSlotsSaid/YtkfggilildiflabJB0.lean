/-
  Laws that the claims of this seat use, of several texts in one: MonoR, Gw, Ovw, Octets, DoubleP, Double, CopyB, Eng. No condition of their own.
-/
import Derived.Laws.CopyRow
import Derived.Laws.IdiomCopy
import Derived.Great.BuildSlice
import Derived.WalkSpells
import Derived.Lib.AppendZeros
import Derived.Test.YtkfggilildiflabJA2

namespace Go.Proofs.Ytkfggilildiflab
open Go.RowKit
/-- None of these operations defers a call. -/
def noDefer (l : List Oper) : Bool := l.all fun o => match o.op with | .defer _ => false | _ => true
theorem noDefer_at {l : List Oper} (h : noDefer l = true) {i : Nat} {o : Oper} (hi : l[i]? = some o) : ∀ c, o.op ≠ .defer c := fun c e => by
  have := List.all_eq_true.1 h o (List.mem_of_getElem? hi)
  simp [e] at this
section
variable {P : Program} {md : Region.Mode} {lp : Nat}
theorem ready_noneR {ops : Array Oper} {Q : Exit → Act → World → Prop} {listed : Array Bool} {a : Act} {w : World} (hr : Region.ready md ops listed = []) (hQ : Q .normal a w) : ∀ fuel, wpAnyIn (Fence.wide.inRound lp) 0 P md ops Q fuel listed a w
  | 0 => ⟨hr, hQ⟩
  | _ + 1 => ⟨fun _ => hQ, fun i hi => by rw [hr] at hi; cases hi⟩
theorem wpIn_of_at {o : Oper} {a : Act} {v : Value} {K : Act → World → Prop} {Q : Exit → Act → World → Prop} {w : World} {C : World → Prop} (hnd : ∀ c, o.op ≠ .defer c) (hC : C w) (h : o.quietAt P a C w v) (hK : ∀ w', C w' → K (a.put o.dst v) w') : o.wpIn (Fence.wide.inRound lp) 0 P a w K Q := by
  unfold Oper.quietAt at h
  unfold Oper.wpIn
  refine ⟨fun _ _ => trivial, ?_⟩
  rw [Oper.semAt_plain _ _ _ hnd]
  generalize (execOp a.eval o).run P w = r at *
  cases r with
  | halt x w' => exact h.elim
  | ok n w' =>
    cases n <;> simp only [Oper.quietUpon] at h <;> simp only [Oper.uponIn]
    case value u => obtain ⟨rfl, rfl⟩ := h; exact hK _ hC
    case skip => obtain ⟨rfl, rfl⟩ := h; exact hK _ hC
    case enter f args =>
      obtain ⟨rfl, h⟩ := h
      refine ⟨(fun hd => by cases hd), callsIn_wide.2 (h.mono fun e w'' he => ?_)⟩
      obtain ⟨rfl, hw⟩ := he
      exact hK _ hw
theorem any_tailR {Q : Exit → Act → World → Prop} {l T : List Oper} (hdn : downB md (l ++ T) = true) (hT : tailOK md (l ++ T).toArray l.length T = true) : ∀ (r : List Oper) (k fuel : Nat) (listed : Array Bool) (a : Act) (w : World), T.drop k = r → listed.size = (l ++ T).length → Closed md (l ++ T).toArray listed →
    (∀ j, j < l.length + k → listed.getD j false = true) → (∀ j, l.length + k ≤ j → j < (l ++ T).length → listed.getD j true = false) → left listed ≤ fuel → wpListIn (Fence.wide.inRound lp) 0 P (l ++ T).toArray Q r a w → wpAnyIn (Fence.wide.inRound lp) 0 P md (l ++ T).toArray Q fuel listed a w
  | [], k, fuel, listed, a, w, hr, hsz, hcl, hl, _, _, h => by
    have hk : T.length ≤ k := List.drop_eq_nil_iff.1 hr
    refine ready_noneR ?_ h fuel
    rw [List.eq_nil_iff_forall_not_mem]
    intro i hi
    obtain ⟨h0, o, ho, _⟩ := mem_ready.1 hi
    have hi' : i < (l ++ T).length := by simpa using (Array.getElem?_eq_some_iff.1 ho).1
    have h1 := hl i (by simp only [List.length_append] at hi'; omega)
    rw [getD_flip (by omega) true false, h1] at h0
    cases h0
  | o :: r, k, fuel, listed, a, w, hr, hsz, hcl, hl, hu, hf, h => by
    have hk : k < T.length := by
      rcases Nat.lt_or_ge k T.length with h' | h'
      · exact h'
      · rw [List.drop_of_length_le h'] at hr; cases hr
    have ho : T[k]? = some o := by
      have := congrArg (fun l => l[0]?) hr
      simpa using this
    have hgo : (l ++ T).toArray[l.length + k]? = some o := by
      simp only [List.getElem?_toArray]
      rw [List.getElem?_append_right (by omega), Nat.add_sub_cancel_left, ho]
    have hun : listed.getD (l.length + k) true = false := hu _ (Nat.le_refl _) (by simp; omega)
    cases fuel with
    | zero => have := left_pos hun; omega
    | succ fuel =>
      refine ⟨fun h0 => absurd h0 (some_ready hdn hsz (l.length + k) (by simp; omega) hun), fun i hi => ?_⟩
      have hik : i = l.length + k := by
        obtain ⟨h0, oi, hoi, _⟩ := mem_ready.1 hi
        have hi' : i < (l ++ T).length := by simpa using (Array.getElem?_eq_some_iff.1 hoi).1
        rcases Nat.lt_trichotomy i (l.length + k) with h' | h' | h'
        · rw [getD_flip (by omega) true false, hl i h'] at h0; cases h0
        · exact h'
        · have hoT : T[i - l.length]? = some oi := by
            simp only [List.getElem?_toArray] at hoi
            rwa [List.getElem?_append_right (by omega)] at hoi
          have := ready_waits hcl hi hoi (tailOK_spec hT hoT (i := l.length + k) (by omega))
          rw [getD_flip (by simp only [List.length_append] at hsz; omega) false true, hun] at this
          cases this
      subst hik
      have hw : wpOpIn (Fence.wide.inRound lp) 0 P (l ++ T).toArray Q (l.length + k) (wpListIn (Fence.wide.inRound lp) 0 P (l ++ T).toArray Q r) a w := by
        unfold wpOpIn
        rw [hgo]
        exact h
      have hd : T.drop (k + 1) = r := by
        have := congrArg List.tail hr
        simpa using this
      refine wpOpIn_mono (fun a' w' h' => any_tailR hdn hT r (k + 1) fuel _ a' w' hd (by simpa using hsz) (hcl.set hi) (fun j hj => ?_) (fun j hj hj2 => ?_) (by have := left_set hun; omega) h') hw
      · by_cases hjk : l.length + k = j
        · subst hjk
          have : l.length + k < listed.size := by simp only [List.length_append] at hsz; omega
          simp [Array.getD, this]
        · rw [getD_set_ne false hjk]; exact hl j (by omega)
      · rw [getD_set_ne true (by omega)]; exact hu j (by omega) hj2

theorem any_frontR {Q : Exit → Act → World → Prop} {l T : List Oper} {W : World} {a0 : Act} {L : List (Oper × Kind)} (hB : frontOK md l T = true) (hND : noDefer l = true) (hL : L.map (·.1) = l)
    (hstep : ∀ k x, L[k]? = some x → stepOK P md (l ++ T).toArray W x.1 (fun b => actT (L.take k) 0 a0 b) (factsT (L.take k) 0 []) x.2)
    (hQ : ∀ b w', New W L (fun _ => true) b w' → wpListIn (Fence.wide.inRound lp) 0 P (l ++ T).toArray Q T (actT L 0 a0 b) w') :
    ∀ (fuel : Nat) (listed : Array Bool) (b : Nat → Nat) (a : Act) (w : World), listed.size = (l ++ T).length → Closed md (l ++ T).toArray listed → (∀ j, l.length ≤ j → j < (l ++ T).length → listed.getD j true = false) → left listed ≤ fuel →
      Sees L a0 (fun j => listed.getD j false) b a → New W L (fun j => listed.getD j false) b w → wpAnyIn (Fence.wide.inRound lp) 0 P md (l ++ T).toArray Q fuel listed a w := by
  simp only [frontOK, Bool.and_eq_true] at hB
  obtain ⟨⟨⟨hsel, hdn⟩, hT⟩, hall⟩ := hB
  have hLl : L.length = l.length := by rw [← hL]; simp
  have hlo : ∀ {i : Nat} {x : Oper × Kind}, L[i]? = some x → l[i]? = some x.1 := fun {i x} h => by rw [← hL]; simp [h]
  have hpair : ∀ {i j : Nat} {x y : Oper × Kind} {t : Tmp}, L[i]? = some x → L[j]? = some y → y.1.dst = some t →
      ((i = j ∨ x.1.dst ≠ some t) ∧ (t ∈ x.1.looksAt (l ++ T).toArray → j < i ∧ direct md x.1 j = true)) := fun {i j x y t} hi hj hd => by
    have hil : i < l.length := by rw [← hLl]; exact (List.getElem?_eq_some_iff.1 hi).1
    have hjl : j < l.length := by rw [← hLl]; exact (List.getElem?_eq_some_iff.1 hj).1
    have h1 := List.all_eq_true.1 hall i (List.mem_range.2 hil)
    simp only [hlo hi] at h1
    have h2 := List.all_eq_true.1 h1 j (List.mem_range.2 hjl)
    simp only [hlo hj, hd, Bool.and_eq_true, Bool.or_eq_true, beq_iff_eq, bne_iff_ne, Bool.not_eq_true', decide_eq_true_eq] at h2
    refine ⟨h2.1, fun ht => h2.2.resolve_left ?_⟩
    simp [ht]
  have hA : Apart L := fun j k x y t hj hk hx hy => ((hpair hj hk hy).1).resolve_right fun h => h hx
  have hfin : ∀ (fuel : Nat) (listed : Array Bool) (b : Nat → Nat) (a : Act) (w : World), listed.size = (l ++ T).length → Closed md (l ++ T).toArray listed → (∀ j, l.length ≤ j → j < (l ++ T).length → listed.getD j true = false) → left listed ≤ fuel →
      Sees L a0 (fun j => listed.getD j false) b a → New W L (fun j => listed.getD j false) b w → (∀ j, j < l.length → listed.getD j false = true) → wpAnyIn (Fence.wide.inRound lp) 0 P md (l ++ T).toArray Q fuel listed a w := by
    intro fuel listed b a w hsz hcl hu hf hS hN hdone
    have ha : a = actT L 0 a0 b := by
      have h2 := Sees.text hA a0 b L.length (Nat.le_refl _)
      rw [List.take_length] at h2
      have ht : a.tmps = (actT L 0 a0 b).tmps := Array.ext_getElem? fun t => hS.same h2 t fun j x hj _ => by
        have hjl : j < L.length := (List.getElem?_eq_some_iff.1 hj).1
        exact ⟨hdone j (by omega), by simpa using hjl⟩
      have hd : a.defers = (actT L 0 a0 b).defers := hS.1.trans h2.1.symm
      cases a
      cases h : actT L 0 a0 b
      rw [h] at ht hd
      simp only at ht hd
      rw [ht, hd]
    subst ha
    have hN' : New W L (fun _ => true) b w := hN.step (Below.refl _ _) fun j o mk cs t hj _ => hdone j (by rw [← hLl]; exact (List.getElem?_eq_some_iff.1 hj).1)
    exact any_tailR hdn hT T 0 fuel listed _ w rfl hsz hcl (fun j hj => hdone j (by simpa using hj)) (fun j hj hj2 => hu j (by simpa using hj) hj2) hf (hQ b w hN')
  intro fuel
  induction fuel with
  | zero =>
    intro listed b a w hsz hcl hu hf hS hN
    refine hfin 0 listed b a w hsz hcl hu hf hS hN fun j hj => ?_
    cases hv : listed.getD j false with
    | true => rfl
    | false =>
      rw [getD_flip (by simp only [List.length_append] at hsz; omega) false true] at hv
      have := left_pos hv; omega
  | succ fuel ih =>
    intro listed b a w hsz hcl hu hf hS hN
    by_cases hdone : ∀ j, j < l.length → listed.getD j false = true
    · exact hfin (fuel + 1) listed b a w hsz hcl hu hf hS hN hdone
    · simp only [Classical.not_forall] at hdone
      obtain ⟨m, hm, hmu⟩ := hdone
      have hmu' : listed.getD m false = false := by simpa using hmu
      have hmt : listed.getD m true = false := by rw [getD_flip (by simp only [List.length_append] at hsz; omega) true false]; exact hmu'
      refine ⟨fun h0 => absurd h0 (some_ready hdn hsz m (by simp only [List.length_append]; omega) hmt), fun i hi => ?_⟩
      obtain ⟨hiu, oi, hoi, _⟩ := mem_ready.1 hi
      have hi' : i < (l ++ T).length := by simpa using (Array.getElem?_eq_some_iff.1 hoi).1
      have hil : i < l.length := by
        rcases Nat.lt_or_ge i l.length with h' | h'
        · exact h'
        · have hoT : T[i - l.length]? = some oi := by
            simp only [List.getElem?_toArray] at hoi
            rwa [List.getElem?_append_right h'] at hoi
          have := ready_waits hcl hi hoi (tailOK_spec hT hoT (i := m) (by omega))
          rw [hmu'] at this; cases this
      have hgx : L[i]? = some (L[i]'(by omega)) := List.getElem?_eq_getElem (by omega)
      generalize L[i]'(by omega) = x at hgx
      have hox : oi = x.1 := by
        simp only [List.getElem?_toArray] at hoi
        rw [List.getElem?_append_left hil, hlo hgx] at hoi
        exact (Option.some.inj hoi).symm
      subst hox
      have hsel' : ∀ cs b, x.1.op ≠ .select cs b := fun cs b => Region.noSelect_spec hsel i x.1 cs b (by simpa using hlo hgx)
      have htext := Sees.text hA a0 b i (by omega)
      have hiu' : listed.getD i false = false := by rw [getD_flip (by omega) false true]; exact hiu
      -- the frame in the text's order looks the same to this operation
      have hsame := eval_same (ops := (l ++ T).toArray) hsel' (a1 := a) (a2 := actT (L.take i) 0 a0 b) fun t ht => hS.same htext t fun j y hj hd => by
        have h1 := (hpair hgx hj hd).2 ht
        exact ⟨direct_listed hi hoi h1.2, by simpa using h1.1⟩
      have hF : FactsAt md x.1 (factsT (L.take i) 0 []) b w := fun f hf hd => by
        rcases mem_factsT _ _ _ hf with h1 | ⟨k, o, mk, hk, he⟩
        · cases h1
        · have hk' : L[k]? = some (o, .fresh mk f.2.1 f.2.2) := by
            rw [List.getElem?_take] at hk
            split at hk
            · exact hk
            · cases hk
          have : f.1 = k := by omega
          rw [this] at hd ⊢
          exact (hN.2.1 k o mk _ _ hk' (direct_listed hi hoi hd)).2
      have hst := hstep i x hgx
      have hset : ∀ j, j < L.length → (j == i || listed.getD j false) = (listed.setIfInBounds i true).getD j false := fun j hj => by
        by_cases hji : i = j
        · subst hji
          simp [Array.getD, show i < listed.size by omega]
        · rw [getD_set_ne false hji]; simp [Ne.symm hji]
      have hu' : ∀ j, l.length ≤ j → j < (l ++ T).length → (listed.setIfInBounds i true).getD j true = false := fun j hj hj2 => by
        rw [getD_set_ne true (by omega)]; exact hu j hj hj2
      have hf' : left (listed.setIfInBounds i true) ≤ fuel := by have := left_set hiu; omega
      have hgo : ∀ (b' : Nat → Nat) (w' : World), Sees L a0 (fun j => j == i || listed.getD j false) b' (a.put x.1.dst (x.2.val (b' i))) → New W L (fun j => j == i || listed.getD j false) b' w' →
          wpAnyIn (Fence.wide.inRound lp) 0 P md (l ++ T).toArray Q fuel (listed.setIfInBounds i true) (a.put x.1.dst (x.2.val (b' i))) w' := fun b' w' hS' hN' =>
        ih _ b' _ w' (by simpa using hsz) (hcl.set hi) hu' hf' (hS'.congr hset (fun _ _ _ => rfl)) (hN'.step (Below.refl _ _) fun j o mk cs t hj hl => by
          rw [hset j (List.getElem?_eq_some_iff.1 hj).1]; exact hl)
      obtain ⟨o, κ⟩ := x
      unfold wpOpIn
      rw [hoi]
      simp only
      cases κ with
      | fix v =>
        have hkeep : ∀ w', Below w.heap.size w w' → New W L (fun j => j == i || listed.getD j false) b w' := fun w' hb => hN.step hb fun j o' mk cs t hj hl => by
          by_cases hji : j = i
          · subst hji; rw [hgx] at hj; cases hj
          · simpa [hji] using hl
        have hS' := hS.put hA hgx
        rcases hst b w hN.1 hF with ⟨hw, hq⟩ | ⟨hw, hv⟩
        · rw [← hsame.2] at hw
          rw [if_pos hw]
          refine wpIn_of_at (C := Below w.heap.size w) (noDefer_at hND (hlo hgx)) (Below.refl _ _) (v := v) ?_ fun w' hb => hgo b w' hS' (hkeep w' hb)
          unfold Oper.quietAt at hq ⊢
          rw [hsame.1]
          exact hq
        · rw [← hsame.2] at hw
          rw [if_neg (by rw [hw]; decide)]
          have h1 := hgo b w hS' (hkeep w (Below.refl _ _))
          simp only [Kind.val, hv] at h1
          exact ⟨fun _ _ => trivial, h1⟩
      | fresh mk cs t =>
        have hN' := hN.lay hgx hiu'
        have hS1 : Sees L a0 (fun j => listed.getD j false) (fun j => if j = i then w.heap.size else b j) a := hS.congr (fun _ _ => rfl) fun j _ hl => by
          rw [if_neg]
          intro e
          subst e
          rw [hiu'] at hl; cases hl
        have hS' := hS1.put hA hgx
        obtain ⟨hw, hr⟩ := hst b w hN.1 hF
        rw [← hsame.2] at hw
        rw [if_pos hw]
        have h1 := hgo _ _ hS' hN'
        unfold Oper.wpIn
        refine ⟨fun _ _ => trivial, ?_⟩
        rw [Oper.semAt_plain _ _ _ (noDefer_at hND (hlo hgx)), hsame.1, hr, Oper.uponIn_value]
        simpa [Kind.val] using h1

/-- **The region: one walk in the text's order.** -/
theorem region_monoR {id : Nat} {Q : Exit → Act → World → Prop} {a : Act} {w : World} (l T : List Oper) (hm : P.follows .mixedOrders = true) (hB : frontOK .any l T = true) (hND : noDefer l = true)
    (h : wpM P .any (l ++ T).toArray w (fun a' F => ∀ b w', Cls w w' → (∀ x ∈ F, w.heap.size ≤ b x.1 ∧ blk w' (b x.1) = some (.cells x.2.1 x.2.2 (0, 0))) → (∀ x ∈ F, ∀ y ∈ F, x.1 ≠ y.1 → b x.1 ≠ b y.1) → wpListIn (Fence.wide.inRound lp) 0 P (l ++ T).toArray Q T (a' b) w') l 0 (fun _ => a) []) :
    (Code.region id (l ++ T).toArray true).wpIn (Fence.wide.inRound lp) 0 P Q a w := by
  obtain ⟨L, hL, hstep, hQ⟩ := wpM_out l 0 _ [] h
  refine wpIn_region_any hm (any_frontR hB hND hL hstep (fun b w' hN => hQ b w' hN.1 (fun x hx => ?_) (fun x hx y hy hne => ?_)) _ _ (fun _ => 0) a _ (by simp) (fun j o _ hl => by simp only [Array.getD] at hl; split at hl <;> simp at hl) (fun j _ hj => by simp only [List.length_append] at hj; simp [Array.getD]; omega) ?_ ?_ ?_)
  · rcases mem_factsT _ _ _ hx with h1 | ⟨k, o, mk, hk, he⟩
    · cases h1
    · have : x.1 = k := by omega
      rw [this]
      exact hN.2.1 k o mk _ _ hk rfl
  · rcases mem_factsT _ _ _ hx with h1 | ⟨k, o, mk, hk, he⟩
    · cases h1
    rcases mem_factsT _ _ _ hy with h1 | ⟨k', o', mk', hk', he'⟩
    · cases h1
    have e1 : x.1 = k := by omega
    have e2 : y.1 = k' := by omega
    rw [e1, e2] at hne ⊢
    exact hN.2.2 k k' _ _ _ _ _ _ _ _ hk hk' rfl rfl hne
  · unfold left
    exact Nat.le_trans List.countP_le_length (by simp)
  · refine (Sees.start L a (fun _ => 0)).congr (fun j _ => ?_) (fun _ _ _ => rfl)
    simp only [Array.getD]
    split <;> simp
  · refine ⟨⟨rfl, rfl, rfl, Nat.le_refl _, fun _ _ => rfl⟩, fun j o mk cs t hj hl => ?_, fun i j x y mx cx tx my cy ty hi hj h1 _ => ?_⟩
    · simp only [Array.getD] at hl
      split at hl <;> simp at hl
    · simp only [Array.getD] at h1
      split at h1 <;> simp at h1

theorem region_monoR_lit {id : Nat} {Q : Exit → Act → World → Prop} {a : Act} {w : World} {l : List Oper} (n : Nat) (hm : P.follows .mixedOrders = true) (hB : frontOK .any (l.take n) (l.drop n) = true) (hND : noDefer (l.take n) = true)
    (h : wpM P .any l.toArray w (fun a' F => ∀ b w', Cls w w' → (∀ x ∈ F, w.heap.size ≤ b x.1 ∧ blk w' (b x.1) = some (.cells x.2.1 x.2.2 (0, 0))) → (∀ x ∈ F, ∀ y ∈ F, x.1 ≠ y.1 → b x.1 ≠ b y.1) → wpListIn (Fence.wide.inRound lp) 0 P l.toArray Q (l.drop n) (a' b) w') (l.take n) 0 (fun _ => a) []) :
    (Code.region id l.toArray true).wpIn (Fence.wide.inRound lp) 0 P Q a w := by
  have := region_monoR (P := P) (id := id) (Q := Q) (a := a) (w := w) (l.take n) (l.drop n) hm hB hND (by rwa [List.take_append_drop])
  rwa [List.take_append_drop] at this

end
end Go.Proofs.Ytkfggilildiflab

namespace Go.Proofs.Ytkfggilildiflab
open Go.RowKit

/-- What a call has laid. -/
structure Laid where
  objs : Array Obj
  drawn : Nat
/-- How many blocks there are, under a name that the walk does not open. -/
def Laid.n (g : Laid) : Nat := g.objs.size
/-- The world with what a call has laid. -/
def grow (w : World) (g : Laid) : World := { w with heap := w.heap ++ g.objs, drawn := g.drawn }
/-- A block of one's own, written whole. -/
def putRow (w : World) (b : Nat) (cs : Array Value) (t : TypeId) : World := { w with heap := w.heap.setIfInBounds b (.cells cs t (0, 0)) }

theorem grow_of {w w' : World} (h : Below w.heap.size w w') : ∃ g, w' = grow w g := by
  obtain ⟨n, hn⟩ : ∃ n, n = w'.heap.size := ⟨_, rfl⟩
  refine ⟨⟨w'.heap.extract w.heap.size n, w'.drawn⟩, ?_⟩
  obtain ⟨h1, h2, h3, h4, h5⟩ := h
  cases w' with
  | mk heap tape drawn os output =>
    simp only at h1 h2 h3 h4 h5 hn ⊢
    subst h1 h2 h3
    unfold grow
    congr 1
    apply Array.ext_getElem?
    intro k
    rw [Array.getElem?_append]
    by_cases hk : k < w.heap.size
    · rw [if_pos hk]; exact h5 k hk
    · rw [if_neg hk, Array.getElem?_extract]
      by_cases hk2 : k < n
      · rw [if_pos (by omega), show w.heap.size + (k - w.heap.size) = k by omega]
      · rw [if_neg (by omega), Array.getElem?_eq_none (by omega)]
theorem grow_heap (w : World) (g : Laid) (k : Nat) (h : k < w.heap.size) : (grow w g).heap[k]? = w.heap[k]? := by
  show (w.heap ++ g.objs)[k]? = _
  rw [Array.getElem?_append, if_pos h]
@[go_sem] theorem grow_size (w : World) (g : Laid) : (grow w g).heap.size = w.heap.size + g.n := by simp [grow, Laid.n]
theorem grow_below (w : World) (g : Laid) : Below w.heap.size w (grow w g) := ⟨rfl, rfl, rfl, by rw [grow_size]; omega, fun k hk => grow_heap w g k hk⟩
theorem below_grow {w0 w : World} (h : Below w0.heap.size w0 w) (g : Laid) : Below w0.heap.size w0 (grow w g) := h.trans ((grow_below w g).mono h.size)
@[go_sem] theorem grow_cell (w : World) (g : Laid) (n i : Nat) (hn : n < w.heap.size) : (grow w g).cell? ⟨n, i, none⟩ = w.cell? ⟨n, i, none⟩ := (grow_below w g).cell (p := ⟨n, i, none⟩) hn
@[go_sem] theorem grow_frozen (w : World) (g : Laid) (n i : Nat) (hn : n < w.heap.size) : (grow w g).frozen? ⟨n, i, none⟩ = w.frozen? ⟨n, i, none⟩ := (grow_below w g).frozen (p := ⟨n, i, none⟩) hn
@[go_sem] theorem grow_blk (w : World) (g : Laid) (n : Nat) (hn : n < w.heap.size) : blk (grow w g) n = blk w n := grow_heap w g n hn
@[go_sem high] theorem alloc_blk_past (w : World) (o : Obj) (n : Nat) (hn : n < w.heap.size) : blk (w.alloc o) n = blk w n := Below.heap_alloc w o n hn
@[go_sem] theorem grow_drew (w : World) (g : Laid) : grow w.drew g = grow w g := rfl
@[go_sem] theorem grow_drewN (w : World) (n : Nat) (g : Laid) : grow (w.drewN n) g = grow w g := rfl
@[go_sem] theorem grow_shape (w : World) (g : Laid) (n : Nat) (hn : n < w.heap.size) : (grow w g).shape? n = w.shape? n := by
  unfold World.shape?
  rw [grow_heap w g n hn]
theorem modify_append {a b : Array Obj} {n : Nat} (h : n < a.size) (f : Obj → Obj) : (a ++ b).modify n f = a.modify n f ++ b := by
  apply Array.ext_getElem?
  intro k
  simp only [Array.getElem?_modify, Array.getElem?_append, Array.size_modify]
  by_cases hk : k < a.size
  · simp only [hk, if_true]
  · have : n ≠ k := by omega
    simp only [hk, if_false, this]
@[go_sem] theorem grow_setCell (w : World) (g : Laid) (n i : Nat) (v : Value) (hn : n < w.heap.size) : (grow w g).setCell ⟨n, i, none⟩ v = grow (w.setCell ⟨n, i, none⟩ v) g := by
  unfold World.setCell grow
  simp only
  congr 1
  exact modify_append hn _
@[go_sem] theorem grow_setRow (w : World) (g : Laid) (n : Nat) (cs : Array Value) (hn : n < w.heap.size) : (grow w g).setRow n cs = grow (w.setRow n cs) g := by
  unfold World.setRow grow
  simp only
  congr 1
  exact modify_append hn _

/-! ### Blocks written in front -/
@[go_sem] theorem put_size (w : World) (b : Nat) (cs : Array Value) (t : TypeId) : (putRow w b cs t).heap.size = w.heap.size := by simp [putRow]
theorem put_heap_other (w : World) (b k : Nat) (cs : Array Value) (t : TypeId) (h : ¬ k = b) : (putRow w b cs t).heap[k]? = w.heap[k]? := by
  show (w.heap.setIfInBounds b _)[k]? = _
  rw [Array.getElem?_setIfInBounds_ne (fun e => h e.symm)]
theorem put_heap_same (w : World) (b : Nat) (cs : Array Value) (t : TypeId) (h : b < w.heap.size) : (putRow w b cs t).heap[b]? = some (.cells cs t (0, 0)) := by
  show (w.heap.setIfInBounds b _)[b]? = _
  rw [Array.getElem?_setIfInBounds_self_of_lt h]
@[go_sem] theorem put_blk_other (w : World) (b n : Nat) (cs : Array Value) (t : TypeId) (h : ¬ n = b) : blk (putRow w b cs t) n = blk w n := put_heap_other w b n cs t h
@[go_sem] theorem put_blk_same (w : World) (b : Nat) (cs : Array Value) (t : TypeId) (h : b < w.heap.size) : blk (putRow w b cs t) b = some (.cells cs t (0, 0)) := put_heap_same w b cs t h
@[go_sem] theorem put_cell_other (w : World) (b n i : Nat) (cs : Array Value) (t : TypeId) (h : ¬ n = b) : (putRow w b cs t).cell? ⟨n, i, none⟩ = w.cell? ⟨n, i, none⟩ := World.cell?_of_block (w := w) (a := ⟨n, i, none⟩) (put_heap_other w b n cs t h)
@[go_sem] theorem put_cell_same (w : World) (b i : Nat) (cs : Array Value) (t : TypeId) (h : b < w.heap.size) : (putRow w b cs t).cell? ⟨b, i, none⟩ = cs[i]? := cell_of_row _ b i cs t _ (put_heap_same w b cs t h)
@[go_sem] theorem put_frozen_other (w : World) (b n i : Nat) (cs : Array Value) (t : TypeId) (h : ¬ n = b) : (putRow w b cs t).frozen? ⟨n, i, none⟩ = w.frozen? ⟨n, i, none⟩ := World.frozen?_of_block (w := w) (a := ⟨n, i, none⟩) (put_heap_other w b n cs t h)
@[go_sem] theorem put_frozen_same (w : World) (b i : Nat) (cs : Array Value) (t : TypeId) (h : b < w.heap.size) : (putRow w b cs t).frozen? ⟨b, i, none⟩ = false := frozen_of_row _ b i cs t (put_heap_same w b cs t h)
@[go_sem] theorem put_drew (w : World) (b : Nat) (cs : Array Value) (t : TypeId) : putRow w.drew b cs t = (putRow w b cs t).drew := rfl
@[go_sem] theorem put_drewN (w : World) (n b : Nat) (cs : Array Value) (t : TypeId) : putRow (w.drewN n) b cs t = (putRow w b cs t).drewN n := rfl
@[go_sem] theorem put_setRow_same (w : World) (b : Nat) (cs cs' : Array Value) (t : TypeId) : (putRow w b cs t).setRow b cs' = putRow w b cs' t := by
  unfold World.setRow putRow
  simp only
  congr 1
  apply Array.ext_getElem?
  intro k
  simp only [Array.getElem?_modify]
  by_cases hk : b = k
  · subst hk
    rw [if_pos rfl]
    by_cases hb : b < w.heap.size
    · rw [Array.getElem?_setIfInBounds_self_of_lt hb, Array.getElem?_setIfInBounds_self_of_lt hb]; rfl
    · rw [Array.getElem?_eq_none (by simp; omega), Array.getElem?_eq_none (by simp; omega)]; rfl
  · rw [if_neg hk, Array.getElem?_setIfInBounds_ne hk, Array.getElem?_setIfInBounds_ne hk]
@[go_sem] theorem put_setCell_same (w : World) (b i : Nat) (cs : Array Value) (t : TypeId) (v : Value) (h : b < w.heap.size) : (putRow w b cs t).setCell ⟨b, i, none⟩ v = putRow w b (cs.setIfInBounds i v) t := by
  rw [setCell_eq_setRow _ b i cs t (0, 0) v (put_heap_same w b cs t h), put_setRow_same]
theorem modify_set {a : Array Obj} {n b : Nat} (h : ¬ n = b) (o : Obj) (f : Obj → Obj) : (a.setIfInBounds b o).modify n f = (a.modify n f).setIfInBounds b o := by
  apply Array.ext_getElem?
  intro k
  by_cases hk : n = k
  · subst hk
    have hb : b ≠ n := fun e => h e.symm
    rw [Array.getElem?_modify, if_pos rfl, Array.getElem?_setIfInBounds_ne hb, Array.getElem?_setIfInBounds_ne hb, Array.getElem?_modify, if_pos rfl]
  · rw [Array.getElem?_modify, if_neg hk]
    by_cases hb : b = k
    · subst hb
      by_cases hs : b < a.size
      · rw [Array.getElem?_setIfInBounds_self_of_lt hs, Array.getElem?_setIfInBounds_self_of_lt (by simpa using hs)]
      · rw [Array.getElem?_eq_none (by simp; omega), Array.getElem?_eq_none (by simp; omega)]
    · rw [Array.getElem?_setIfInBounds_ne hb, Array.getElem?_setIfInBounds_ne hb, Array.getElem?_modify, if_neg hk]
@[go_sem] theorem put_setRow_other (w : World) (b n : Nat) (cs cs' : Array Value) (t : TypeId) (h : ¬ n = b) : (putRow w b cs t).setRow n cs' = putRow (w.setRow n cs') b cs t := by
  unfold World.setRow putRow
  simp only
  congr 1
  exact modify_set h _ _
@[go_sem] theorem put_setCell_other (w : World) (b n i : Nat) (cs : Array Value) (t : TypeId) (v : Value) (h : ¬ n = b) : (putRow w b cs t).setCell ⟨n, i, none⟩ v = putRow (w.setCell ⟨n, i, none⟩ v) b cs t := by
  unfold World.setCell putRow
  simp only
  congr 1
  exact modify_set h _ _
theorem put_self {w : World} {b : Nat} {cs : Array Value} {t : TypeId} (h : blk w b = some (.cells cs t (0, 0))) : w = putRow w b cs t := by
  have h' : w.heap[b]? = some (.cells cs t (0, 0)) := h
  cases w with
  | mk heap tape drawn os output =>
    unfold putRow
    congr 1
    apply Array.ext_getElem?
    intro k
    by_cases hk : b = k
    · subst hk
      simp only at h'
      rw [Array.getElem?_setIfInBounds_self_of_lt (Array.getElem?_eq_some_iff.1 h').1, h']
    · rw [Array.getElem?_setIfInBounds_ne hk]

theorem below_put {B : Nat} {w0 w : World} (h : Below B w0 w) {b : Nat} (hb : B ≤ b) (cs : Array Value) (t : TypeId) : Below B w0 (putRow w b cs t) :=
  h.trans ⟨rfl, rfl, rfl, by rw [put_size]; exact Nat.le_refl _, fun k hk => put_heap_other w b k cs t (by omega)⟩
/-! ### Numbers of blocks -/
@[go_sem] theorem nat_le_g {a b : Nat} (g : Laid) (h : a ≤ b) : (a ≤ b + g.n) = True := eq_true (by omega)
@[go_sem] theorem nat_lt_g {a b : Nat} (g : Laid) (h : a < b) : (a < b + g.n) = True := eq_true (by omega)
@[go_sem] theorem nat_ne_g {a b : Nat} (g : Laid) (h : a < b) : (a = b + g.n) = False := eq_false (by omega)
@[go_sem] theorem nat_en_g {a b : Nat} (g : Laid) (h : a < b) : (b + g.n = a) = False := eq_false (by omega)
@[go_sem] theorem nat_le_gc {a b : Nat} (g : Laid) (c : Nat) (h : a ≤ b) : (a ≤ b + (g.n + c)) = True := eq_true (by omega)
@[go_sem] theorem nat_lt_gc {a b : Nat} (g : Laid) (c : Nat) (h : a < b) : (a < b + (g.n + c)) = True := eq_true (by omega)
@[go_sem] theorem nat_ne_gc {a b : Nat} (g : Laid) (c : Nat) (h : a < b) : (a = b + (g.n + c)) = False := eq_false (by omega)
@[go_sem] theorem nat_en_gc {a b : Nat} (g : Laid) (c : Nat) (h : a < b) : (b + (g.n + c) = a) = False := eq_false (by omega)
@[go_sem high] theorem nat_lt_s1 {w : World} : (w.heap.size < w.heap.size + 1) = True := eq_true (by omega)
@[go_sem high] theorem nat_ne_s1 {w : World} : (w.heap.size = w.heap.size + 1) = False := eq_false (by omega)
@[go_sem high] theorem nat_en_s1 {w : World} : (w.heap.size + 1 = w.heap.size) = False := eq_false (by omega)
@[go_sem] theorem nat_lt_h1 {a : Nat} {w : World} (h : a < w.heap.size) : (a < w.heap.size + 1) = True := eq_true (by omega)
@[go_sem] theorem nat_ne_h1 {a : Nat} {w : World} (h : a < w.heap.size) : (a = w.heap.size + 1) = False := eq_false (by omega)
@[go_sem high] theorem nat_lt_s1g {w : World} (g : Laid) : (w.heap.size < w.heap.size + 1 + g.n) = True := eq_true (by omega)
@[go_sem high] theorem nat_ne_s1g {w : World} (g : Laid) : (w.heap.size = w.heap.size + 1 + g.n) = False := eq_false (by omega)
@[go_sem high] theorem nat_en_s1g {w : World} (g : Laid) : (w.heap.size + 1 + g.n = w.heap.size) = False := eq_false (by omega)
@[go_sem] theorem nat_lt_h1g {a : Nat} {w : World} (g : Laid) (h : a < w.heap.size) : (a < w.heap.size + 1 + g.n) = True := eq_true (by omega)
@[go_sem] theorem nat_ne_h1g {a : Nat} {w : World} (g : Laid) (h : a < w.heap.size) : (a = w.heap.size + 1 + g.n) = False := eq_false (by omega)
@[go_sem high] theorem nat_lt_s1gc {w : World} (g : Laid) (c : Nat) : (w.heap.size < w.heap.size + 1 + (g.n + c)) = True := eq_true (by omega)
@[go_sem high] theorem nat_ne_s1gc {w : World} (g : Laid) (c : Nat) : (w.heap.size = w.heap.size + 1 + (g.n + c)) = False := eq_false (by omega)
@[go_sem high] theorem nat_en_s1gc {w : World} (g : Laid) (c : Nat) : (w.heap.size + 1 + (g.n + c) = w.heap.size) = False := eq_false (by omega)
@[go_sem] theorem nat_lt_h1gc {a : Nat} {w : World} (g : Laid) (c : Nat) (h : a < w.heap.size) : (a < w.heap.size + 1 + (g.n + c)) = True := eq_true (by omega)
@[go_sem] theorem nat_ne_h1gc {a : Nat} {w : World} (g : Laid) (c : Nat) (h : a < w.heap.size) : (a = w.heap.size + 1 + (g.n + c)) = False := eq_false (by omega)
@[go_sem high] theorem nat_lt_s2 {w : World} : (w.heap.size < w.heap.size + 1 + 1) = True := eq_true (by omega)
@[go_sem high] theorem nat_ne_s2 {w : World} : (w.heap.size = w.heap.size + 1 + 1) = False := eq_false (by omega)
@[go_sem high] theorem nat_en_s2 {w : World} : (w.heap.size + 1 + 1 = w.heap.size) = False := eq_false (by omega)
@[go_sem] theorem nat_lt_h2 {a : Nat} {w : World} (h : a < w.heap.size) : (a < w.heap.size + 1 + 1) = True := eq_true (by omega)
@[go_sem] theorem nat_ne_h2 {a : Nat} {w : World} (h : a < w.heap.size) : (a = w.heap.size + 1 + 1) = False := eq_false (by omega)
@[go_sem high] theorem nat_lt_s2g {w : World} (g : Laid) : (w.heap.size < w.heap.size + 1 + 1 + g.n) = True := eq_true (by omega)
@[go_sem high] theorem nat_ne_s2g {w : World} (g : Laid) : (w.heap.size = w.heap.size + 1 + 1 + g.n) = False := eq_false (by omega)
@[go_sem high] theorem nat_en_s2g {w : World} (g : Laid) : (w.heap.size + 1 + 1 + g.n = w.heap.size) = False := eq_false (by omega)
@[go_sem] theorem nat_lt_h2g {a : Nat} {w : World} (g : Laid) (h : a < w.heap.size) : (a < w.heap.size + 1 + 1 + g.n) = True := eq_true (by omega)
@[go_sem] theorem nat_ne_h2g {a : Nat} {w : World} (g : Laid) (h : a < w.heap.size) : (a = w.heap.size + 1 + 1 + g.n) = False := eq_false (by omega)
@[go_sem high] theorem nat_lt_s2gc {w : World} (g : Laid) (c : Nat) : (w.heap.size < w.heap.size + 1 + 1 + (g.n + c)) = True := eq_true (by omega)
@[go_sem high] theorem nat_ne_s2gc {w : World} (g : Laid) (c : Nat) : (w.heap.size = w.heap.size + 1 + 1 + (g.n + c)) = False := eq_false (by omega)
@[go_sem high] theorem nat_en_s2gc {w : World} (g : Laid) (c : Nat) : (w.heap.size + 1 + 1 + (g.n + c) = w.heap.size) = False := eq_false (by omega)
@[go_sem] theorem nat_lt_h2gc {a : Nat} {w : World} (g : Laid) (c : Nat) (h : a < w.heap.size) : (a < w.heap.size + 1 + 1 + (g.n + c)) = True := eq_true (by omega)
@[go_sem] theorem nat_ne_h2gc {a : Nat} {w : World} (g : Laid) (c : Nat) (h : a < w.heap.size) : (a = w.heap.size + 1 + 1 + (g.n + c)) = False := eq_false (by omega)
@[go_sem high] theorem nat_lt_s3 {w : World} : (w.heap.size < w.heap.size + 1 + 1 + 1) = True := eq_true (by omega)
@[go_sem high] theorem nat_ne_s3 {w : World} : (w.heap.size = w.heap.size + 1 + 1 + 1) = False := eq_false (by omega)
@[go_sem high] theorem nat_en_s3 {w : World} : (w.heap.size + 1 + 1 + 1 = w.heap.size) = False := eq_false (by omega)
@[go_sem] theorem nat_lt_h3 {a : Nat} {w : World} (h : a < w.heap.size) : (a < w.heap.size + 1 + 1 + 1) = True := eq_true (by omega)
@[go_sem] theorem nat_ne_h3 {a : Nat} {w : World} (h : a < w.heap.size) : (a = w.heap.size + 1 + 1 + 1) = False := eq_false (by omega)
@[go_sem high] theorem nat_lt_s3g {w : World} (g : Laid) : (w.heap.size < w.heap.size + 1 + 1 + 1 + g.n) = True := eq_true (by omega)
@[go_sem high] theorem nat_ne_s3g {w : World} (g : Laid) : (w.heap.size = w.heap.size + 1 + 1 + 1 + g.n) = False := eq_false (by omega)
@[go_sem high] theorem nat_en_s3g {w : World} (g : Laid) : (w.heap.size + 1 + 1 + 1 + g.n = w.heap.size) = False := eq_false (by omega)
@[go_sem] theorem nat_lt_h3g {a : Nat} {w : World} (g : Laid) (h : a < w.heap.size) : (a < w.heap.size + 1 + 1 + 1 + g.n) = True := eq_true (by omega)
@[go_sem] theorem nat_ne_h3g {a : Nat} {w : World} (g : Laid) (h : a < w.heap.size) : (a = w.heap.size + 1 + 1 + 1 + g.n) = False := eq_false (by omega)
@[go_sem high] theorem nat_lt_s3gc {w : World} (g : Laid) (c : Nat) : (w.heap.size < w.heap.size + 1 + 1 + 1 + (g.n + c)) = True := eq_true (by omega)
@[go_sem high] theorem nat_ne_s3gc {w : World} (g : Laid) (c : Nat) : (w.heap.size = w.heap.size + 1 + 1 + 1 + (g.n + c)) = False := eq_false (by omega)
@[go_sem high] theorem nat_en_s3gc {w : World} (g : Laid) (c : Nat) : (w.heap.size + 1 + 1 + 1 + (g.n + c) = w.heap.size) = False := eq_false (by omega)
@[go_sem] theorem nat_lt_h3gc {a : Nat} {w : World} (g : Laid) (c : Nat) (h : a < w.heap.size) : (a < w.heap.size + 1 + 1 + 1 + (g.n + c)) = True := eq_true (by omega)
@[go_sem] theorem nat_ne_h3gc {a : Nat} {w : World} (g : Laid) (c : Nat) (h : a < w.heap.size) : (a = w.heap.size + 1 + 1 + 1 + (g.n + c)) = False := eq_false (by omega)
@[go_sem high] theorem nat_lt_s4 {w : World} : (w.heap.size < w.heap.size + 1 + 1 + 1 + 1) = True := eq_true (by omega)
@[go_sem high] theorem nat_ne_s4 {w : World} : (w.heap.size = w.heap.size + 1 + 1 + 1 + 1) = False := eq_false (by omega)
@[go_sem high] theorem nat_en_s4 {w : World} : (w.heap.size + 1 + 1 + 1 + 1 = w.heap.size) = False := eq_false (by omega)
@[go_sem] theorem nat_lt_h4 {a : Nat} {w : World} (h : a < w.heap.size) : (a < w.heap.size + 1 + 1 + 1 + 1) = True := eq_true (by omega)
@[go_sem] theorem nat_ne_h4 {a : Nat} {w : World} (h : a < w.heap.size) : (a = w.heap.size + 1 + 1 + 1 + 1) = False := eq_false (by omega)
@[go_sem high] theorem nat_lt_s4g {w : World} (g : Laid) : (w.heap.size < w.heap.size + 1 + 1 + 1 + 1 + g.n) = True := eq_true (by omega)
@[go_sem high] theorem nat_ne_s4g {w : World} (g : Laid) : (w.heap.size = w.heap.size + 1 + 1 + 1 + 1 + g.n) = False := eq_false (by omega)
@[go_sem high] theorem nat_en_s4g {w : World} (g : Laid) : (w.heap.size + 1 + 1 + 1 + 1 + g.n = w.heap.size) = False := eq_false (by omega)
@[go_sem] theorem nat_lt_h4g {a : Nat} {w : World} (g : Laid) (h : a < w.heap.size) : (a < w.heap.size + 1 + 1 + 1 + 1 + g.n) = True := eq_true (by omega)
@[go_sem] theorem nat_ne_h4g {a : Nat} {w : World} (g : Laid) (h : a < w.heap.size) : (a = w.heap.size + 1 + 1 + 1 + 1 + g.n) = False := eq_false (by omega)
@[go_sem high] theorem nat_lt_s4gc {w : World} (g : Laid) (c : Nat) : (w.heap.size < w.heap.size + 1 + 1 + 1 + 1 + (g.n + c)) = True := eq_true (by omega)
@[go_sem high] theorem nat_ne_s4gc {w : World} (g : Laid) (c : Nat) : (w.heap.size = w.heap.size + 1 + 1 + 1 + 1 + (g.n + c)) = False := eq_false (by omega)
@[go_sem high] theorem nat_en_s4gc {w : World} (g : Laid) (c : Nat) : (w.heap.size + 1 + 1 + 1 + 1 + (g.n + c) = w.heap.size) = False := eq_false (by omega)
@[go_sem] theorem nat_lt_h4gc {a : Nat} {w : World} (g : Laid) (c : Nat) (h : a < w.heap.size) : (a < w.heap.size + 1 + 1 + 1 + 1 + (g.n + c)) = True := eq_true (by omega)
@[go_sem] theorem nat_ne_h4gc {a : Nat} {w : World} (g : Laid) (c : Nat) (h : a < w.heap.size) : (a = w.heap.size + 1 + 1 + 1 + 1 + (g.n + c)) = False := eq_false (by omega)
@[go_sem high] theorem nat_lt_s5 {w : World} : (w.heap.size < w.heap.size + 1 + 1 + 1 + 1 + 1) = True := eq_true (by omega)
@[go_sem high] theorem nat_ne_s5 {w : World} : (w.heap.size = w.heap.size + 1 + 1 + 1 + 1 + 1) = False := eq_false (by omega)
@[go_sem high] theorem nat_en_s5 {w : World} : (w.heap.size + 1 + 1 + 1 + 1 + 1 = w.heap.size) = False := eq_false (by omega)
@[go_sem] theorem nat_lt_h5 {a : Nat} {w : World} (h : a < w.heap.size) : (a < w.heap.size + 1 + 1 + 1 + 1 + 1) = True := eq_true (by omega)
@[go_sem] theorem nat_ne_h5 {a : Nat} {w : World} (h : a < w.heap.size) : (a = w.heap.size + 1 + 1 + 1 + 1 + 1) = False := eq_false (by omega)
@[go_sem high] theorem nat_lt_s5g {w : World} (g : Laid) : (w.heap.size < w.heap.size + 1 + 1 + 1 + 1 + 1 + g.n) = True := eq_true (by omega)
@[go_sem high] theorem nat_ne_s5g {w : World} (g : Laid) : (w.heap.size = w.heap.size + 1 + 1 + 1 + 1 + 1 + g.n) = False := eq_false (by omega)
@[go_sem high] theorem nat_en_s5g {w : World} (g : Laid) : (w.heap.size + 1 + 1 + 1 + 1 + 1 + g.n = w.heap.size) = False := eq_false (by omega)
@[go_sem] theorem nat_lt_h5g {a : Nat} {w : World} (g : Laid) (h : a < w.heap.size) : (a < w.heap.size + 1 + 1 + 1 + 1 + 1 + g.n) = True := eq_true (by omega)
@[go_sem] theorem nat_ne_h5g {a : Nat} {w : World} (g : Laid) (h : a < w.heap.size) : (a = w.heap.size + 1 + 1 + 1 + 1 + 1 + g.n) = False := eq_false (by omega)
@[go_sem high] theorem nat_lt_s5gc {w : World} (g : Laid) (c : Nat) : (w.heap.size < w.heap.size + 1 + 1 + 1 + 1 + 1 + (g.n + c)) = True := eq_true (by omega)
@[go_sem high] theorem nat_ne_s5gc {w : World} (g : Laid) (c : Nat) : (w.heap.size = w.heap.size + 1 + 1 + 1 + 1 + 1 + (g.n + c)) = False := eq_false (by omega)
@[go_sem high] theorem nat_en_s5gc {w : World} (g : Laid) (c : Nat) : (w.heap.size + 1 + 1 + 1 + 1 + 1 + (g.n + c) = w.heap.size) = False := eq_false (by omega)
@[go_sem] theorem nat_lt_h5gc {a : Nat} {w : World} (g : Laid) (c : Nat) (h : a < w.heap.size) : (a < w.heap.size + 1 + 1 + 1 + 1 + 1 + (g.n + c)) = True := eq_true (by omega)
@[go_sem] theorem nat_ne_h5gc {a : Nat} {w : World} (g : Laid) (c : Nat) (h : a < w.heap.size) : (a = w.heap.size + 1 + 1 + 1 + 1 + 1 + (g.n + c)) = False := eq_false (by omega)
@[go_sem high] theorem nat_lt_s6 {w : World} : (w.heap.size < w.heap.size + 1 + 1 + 1 + 1 + 1 + 1) = True := eq_true (by omega)
@[go_sem high] theorem nat_ne_s6 {w : World} : (w.heap.size = w.heap.size + 1 + 1 + 1 + 1 + 1 + 1) = False := eq_false (by omega)
@[go_sem high] theorem nat_en_s6 {w : World} : (w.heap.size + 1 + 1 + 1 + 1 + 1 + 1 = w.heap.size) = False := eq_false (by omega)
@[go_sem] theorem nat_lt_h6 {a : Nat} {w : World} (h : a < w.heap.size) : (a < w.heap.size + 1 + 1 + 1 + 1 + 1 + 1) = True := eq_true (by omega)
@[go_sem] theorem nat_ne_h6 {a : Nat} {w : World} (h : a < w.heap.size) : (a = w.heap.size + 1 + 1 + 1 + 1 + 1 + 1) = False := eq_false (by omega)
@[go_sem high] theorem nat_lt_s6g {w : World} (g : Laid) : (w.heap.size < w.heap.size + 1 + 1 + 1 + 1 + 1 + 1 + g.n) = True := eq_true (by omega)
@[go_sem high] theorem nat_ne_s6g {w : World} (g : Laid) : (w.heap.size = w.heap.size + 1 + 1 + 1 + 1 + 1 + 1 + g.n) = False := eq_false (by omega)
@[go_sem high] theorem nat_en_s6g {w : World} (g : Laid) : (w.heap.size + 1 + 1 + 1 + 1 + 1 + 1 + g.n = w.heap.size) = False := eq_false (by omega)
@[go_sem] theorem nat_lt_h6g {a : Nat} {w : World} (g : Laid) (h : a < w.heap.size) : (a < w.heap.size + 1 + 1 + 1 + 1 + 1 + 1 + g.n) = True := eq_true (by omega)
@[go_sem] theorem nat_ne_h6g {a : Nat} {w : World} (g : Laid) (h : a < w.heap.size) : (a = w.heap.size + 1 + 1 + 1 + 1 + 1 + 1 + g.n) = False := eq_false (by omega)
@[go_sem high] theorem nat_lt_s6gc {w : World} (g : Laid) (c : Nat) : (w.heap.size < w.heap.size + 1 + 1 + 1 + 1 + 1 + 1 + (g.n + c)) = True := eq_true (by omega)
@[go_sem high] theorem nat_ne_s6gc {w : World} (g : Laid) (c : Nat) : (w.heap.size = w.heap.size + 1 + 1 + 1 + 1 + 1 + 1 + (g.n + c)) = False := eq_false (by omega)
@[go_sem high] theorem nat_en_s6gc {w : World} (g : Laid) (c : Nat) : (w.heap.size + 1 + 1 + 1 + 1 + 1 + 1 + (g.n + c) = w.heap.size) = False := eq_false (by omega)
@[go_sem] theorem nat_lt_h6gc {a : Nat} {w : World} (g : Laid) (c : Nat) (h : a < w.heap.size) : (a < w.heap.size + 1 + 1 + 1 + 1 + 1 + 1 + (g.n + c)) = True := eq_true (by omega)
@[go_sem] theorem nat_ne_h6gc {a : Nat} {w : World} (g : Laid) (c : Nat) (h : a < w.heap.size) : (a = w.heap.size + 1 + 1 + 1 + 1 + 1 + 1 + (g.n + c)) = False := eq_false (by omega)
@[go_sem high] theorem nat_lt_s7 {w : World} : (w.heap.size < w.heap.size + 1 + 1 + 1 + 1 + 1 + 1 + 1) = True := eq_true (by omega)
@[go_sem high] theorem nat_ne_s7 {w : World} : (w.heap.size = w.heap.size + 1 + 1 + 1 + 1 + 1 + 1 + 1) = False := eq_false (by omega)
@[go_sem high] theorem nat_en_s7 {w : World} : (w.heap.size + 1 + 1 + 1 + 1 + 1 + 1 + 1 = w.heap.size) = False := eq_false (by omega)
@[go_sem] theorem nat_lt_h7 {a : Nat} {w : World} (h : a < w.heap.size) : (a < w.heap.size + 1 + 1 + 1 + 1 + 1 + 1 + 1) = True := eq_true (by omega)
@[go_sem] theorem nat_ne_h7 {a : Nat} {w : World} (h : a < w.heap.size) : (a = w.heap.size + 1 + 1 + 1 + 1 + 1 + 1 + 1) = False := eq_false (by omega)
@[go_sem high] theorem nat_lt_s7g {w : World} (g : Laid) : (w.heap.size < w.heap.size + 1 + 1 + 1 + 1 + 1 + 1 + 1 + g.n) = True := eq_true (by omega)
@[go_sem high] theorem nat_ne_s7g {w : World} (g : Laid) : (w.heap.size = w.heap.size + 1 + 1 + 1 + 1 + 1 + 1 + 1 + g.n) = False := eq_false (by omega)
@[go_sem high] theorem nat_en_s7g {w : World} (g : Laid) : (w.heap.size + 1 + 1 + 1 + 1 + 1 + 1 + 1 + g.n = w.heap.size) = False := eq_false (by omega)
@[go_sem] theorem nat_lt_h7g {a : Nat} {w : World} (g : Laid) (h : a < w.heap.size) : (a < w.heap.size + 1 + 1 + 1 + 1 + 1 + 1 + 1 + g.n) = True := eq_true (by omega)
@[go_sem] theorem nat_ne_h7g {a : Nat} {w : World} (g : Laid) (h : a < w.heap.size) : (a = w.heap.size + 1 + 1 + 1 + 1 + 1 + 1 + 1 + g.n) = False := eq_false (by omega)
@[go_sem high] theorem nat_lt_s7gc {w : World} (g : Laid) (c : Nat) : (w.heap.size < w.heap.size + 1 + 1 + 1 + 1 + 1 + 1 + 1 + (g.n + c)) = True := eq_true (by omega)
@[go_sem high] theorem nat_ne_s7gc {w : World} (g : Laid) (c : Nat) : (w.heap.size = w.heap.size + 1 + 1 + 1 + 1 + 1 + 1 + 1 + (g.n + c)) = False := eq_false (by omega)
@[go_sem high] theorem nat_en_s7gc {w : World} (g : Laid) (c : Nat) : (w.heap.size + 1 + 1 + 1 + 1 + 1 + 1 + 1 + (g.n + c) = w.heap.size) = False := eq_false (by omega)
@[go_sem] theorem nat_lt_h7gc {a : Nat} {w : World} (g : Laid) (c : Nat) (h : a < w.heap.size) : (a < w.heap.size + 1 + 1 + 1 + 1 + 1 + 1 + 1 + (g.n + c)) = True := eq_true (by omega)
@[go_sem] theorem nat_ne_h7gc {a : Nat} {w : World} (g : Laid) (c : Nat) (h : a < w.heap.size) : (a = w.heap.size + 1 + 1 + 1 + 1 + 1 + 1 + 1 + (g.n + c)) = False := eq_false (by omega)
@[go_sem high] theorem nat_lt_s8 {w : World} : (w.heap.size < w.heap.size + 1 + 1 + 1 + 1 + 1 + 1 + 1 + 1) = True := eq_true (by omega)
@[go_sem high] theorem nat_ne_s8 {w : World} : (w.heap.size = w.heap.size + 1 + 1 + 1 + 1 + 1 + 1 + 1 + 1) = False := eq_false (by omega)
@[go_sem high] theorem nat_en_s8 {w : World} : (w.heap.size + 1 + 1 + 1 + 1 + 1 + 1 + 1 + 1 = w.heap.size) = False := eq_false (by omega)
@[go_sem] theorem nat_lt_h8 {a : Nat} {w : World} (h : a < w.heap.size) : (a < w.heap.size + 1 + 1 + 1 + 1 + 1 + 1 + 1 + 1) = True := eq_true (by omega)
@[go_sem] theorem nat_ne_h8 {a : Nat} {w : World} (h : a < w.heap.size) : (a = w.heap.size + 1 + 1 + 1 + 1 + 1 + 1 + 1 + 1) = False := eq_false (by omega)
@[go_sem high] theorem nat_lt_s8g {w : World} (g : Laid) : (w.heap.size < w.heap.size + 1 + 1 + 1 + 1 + 1 + 1 + 1 + 1 + g.n) = True := eq_true (by omega)
@[go_sem high] theorem nat_ne_s8g {w : World} (g : Laid) : (w.heap.size = w.heap.size + 1 + 1 + 1 + 1 + 1 + 1 + 1 + 1 + g.n) = False := eq_false (by omega)
@[go_sem high] theorem nat_en_s8g {w : World} (g : Laid) : (w.heap.size + 1 + 1 + 1 + 1 + 1 + 1 + 1 + 1 + g.n = w.heap.size) = False := eq_false (by omega)
@[go_sem] theorem nat_lt_h8g {a : Nat} {w : World} (g : Laid) (h : a < w.heap.size) : (a < w.heap.size + 1 + 1 + 1 + 1 + 1 + 1 + 1 + 1 + g.n) = True := eq_true (by omega)
@[go_sem] theorem nat_ne_h8g {a : Nat} {w : World} (g : Laid) (h : a < w.heap.size) : (a = w.heap.size + 1 + 1 + 1 + 1 + 1 + 1 + 1 + 1 + g.n) = False := eq_false (by omega)
@[go_sem high] theorem nat_lt_s8gc {w : World} (g : Laid) (c : Nat) : (w.heap.size < w.heap.size + 1 + 1 + 1 + 1 + 1 + 1 + 1 + 1 + (g.n + c)) = True := eq_true (by omega)
@[go_sem high] theorem nat_ne_s8gc {w : World} (g : Laid) (c : Nat) : (w.heap.size = w.heap.size + 1 + 1 + 1 + 1 + 1 + 1 + 1 + 1 + (g.n + c)) = False := eq_false (by omega)
@[go_sem high] theorem nat_en_s8gc {w : World} (g : Laid) (c : Nat) : (w.heap.size + 1 + 1 + 1 + 1 + 1 + 1 + 1 + 1 + (g.n + c) = w.heap.size) = False := eq_false (by omega)
@[go_sem] theorem nat_lt_h8gc {a : Nat} {w : World} (g : Laid) (c : Nat) (h : a < w.heap.size) : (a < w.heap.size + 1 + 1 + 1 + 1 + 1 + 1 + 1 + 1 + (g.n + c)) = True := eq_true (by omega)
@[go_sem] theorem nat_ne_h8gc {a : Nat} {w : World} (g : Laid) (c : Nat) (h : a < w.heap.size) : (a = w.heap.size + 1 + 1 + 1 + 1 + 1 + 1 + 1 + 1 + (g.n + c)) = False := eq_false (by omega)
@[go_sem high] theorem nat_lt_s9 {w : World} : (w.heap.size < w.heap.size + 1 + 1 + 1 + 1 + 1 + 1 + 1 + 1 + 1) = True := eq_true (by omega)
@[go_sem high] theorem nat_ne_s9 {w : World} : (w.heap.size = w.heap.size + 1 + 1 + 1 + 1 + 1 + 1 + 1 + 1 + 1) = False := eq_false (by omega)
@[go_sem high] theorem nat_en_s9 {w : World} : (w.heap.size + 1 + 1 + 1 + 1 + 1 + 1 + 1 + 1 + 1 = w.heap.size) = False := eq_false (by omega)
@[go_sem] theorem nat_lt_h9 {a : Nat} {w : World} (h : a < w.heap.size) : (a < w.heap.size + 1 + 1 + 1 + 1 + 1 + 1 + 1 + 1 + 1) = True := eq_true (by omega)
@[go_sem] theorem nat_ne_h9 {a : Nat} {w : World} (h : a < w.heap.size) : (a = w.heap.size + 1 + 1 + 1 + 1 + 1 + 1 + 1 + 1 + 1) = False := eq_false (by omega)
@[go_sem high] theorem nat_lt_s9g {w : World} (g : Laid) : (w.heap.size < w.heap.size + 1 + 1 + 1 + 1 + 1 + 1 + 1 + 1 + 1 + g.n) = True := eq_true (by omega)
@[go_sem high] theorem nat_ne_s9g {w : World} (g : Laid) : (w.heap.size = w.heap.size + 1 + 1 + 1 + 1 + 1 + 1 + 1 + 1 + 1 + g.n) = False := eq_false (by omega)
@[go_sem high] theorem nat_en_s9g {w : World} (g : Laid) : (w.heap.size + 1 + 1 + 1 + 1 + 1 + 1 + 1 + 1 + 1 + g.n = w.heap.size) = False := eq_false (by omega)
@[go_sem] theorem nat_lt_h9g {a : Nat} {w : World} (g : Laid) (h : a < w.heap.size) : (a < w.heap.size + 1 + 1 + 1 + 1 + 1 + 1 + 1 + 1 + 1 + g.n) = True := eq_true (by omega)
@[go_sem] theorem nat_ne_h9g {a : Nat} {w : World} (g : Laid) (h : a < w.heap.size) : (a = w.heap.size + 1 + 1 + 1 + 1 + 1 + 1 + 1 + 1 + 1 + g.n) = False := eq_false (by omega)
@[go_sem high] theorem nat_lt_s9gc {w : World} (g : Laid) (c : Nat) : (w.heap.size < w.heap.size + 1 + 1 + 1 + 1 + 1 + 1 + 1 + 1 + 1 + (g.n + c)) = True := eq_true (by omega)
@[go_sem high] theorem nat_ne_s9gc {w : World} (g : Laid) (c : Nat) : (w.heap.size = w.heap.size + 1 + 1 + 1 + 1 + 1 + 1 + 1 + 1 + 1 + (g.n + c)) = False := eq_false (by omega)
@[go_sem high] theorem nat_en_s9gc {w : World} (g : Laid) (c : Nat) : (w.heap.size + 1 + 1 + 1 + 1 + 1 + 1 + 1 + 1 + 1 + (g.n + c) = w.heap.size) = False := eq_false (by omega)
@[go_sem] theorem nat_lt_h9gc {a : Nat} {w : World} (g : Laid) (c : Nat) (h : a < w.heap.size) : (a < w.heap.size + 1 + 1 + 1 + 1 + 1 + 1 + 1 + 1 + 1 + (g.n + c)) = True := eq_true (by omega)
@[go_sem] theorem nat_ne_h9gc {a : Nat} {w : World} (g : Laid) (c : Nat) (h : a < w.heap.size) : (a = w.heap.size + 1 + 1 + 1 + 1 + 1 + 1 + 1 + 1 + 1 + (g.n + c)) = False := eq_false (by omega)
@[go_sem high] theorem nat_lt_s10 {w : World} : (w.heap.size < w.heap.size + 1 + 1 + 1 + 1 + 1 + 1 + 1 + 1 + 1 + 1) = True := eq_true (by omega)
@[go_sem high] theorem nat_ne_s10 {w : World} : (w.heap.size = w.heap.size + 1 + 1 + 1 + 1 + 1 + 1 + 1 + 1 + 1 + 1) = False := eq_false (by omega)
@[go_sem high] theorem nat_en_s10 {w : World} : (w.heap.size + 1 + 1 + 1 + 1 + 1 + 1 + 1 + 1 + 1 + 1 = w.heap.size) = False := eq_false (by omega)
@[go_sem] theorem nat_lt_h10 {a : Nat} {w : World} (h : a < w.heap.size) : (a < w.heap.size + 1 + 1 + 1 + 1 + 1 + 1 + 1 + 1 + 1 + 1) = True := eq_true (by omega)
@[go_sem] theorem nat_ne_h10 {a : Nat} {w : World} (h : a < w.heap.size) : (a = w.heap.size + 1 + 1 + 1 + 1 + 1 + 1 + 1 + 1 + 1 + 1) = False := eq_false (by omega)
@[go_sem high] theorem nat_lt_s10g {w : World} (g : Laid) : (w.heap.size < w.heap.size + 1 + 1 + 1 + 1 + 1 + 1 + 1 + 1 + 1 + 1 + g.n) = True := eq_true (by omega)
@[go_sem high] theorem nat_ne_s10g {w : World} (g : Laid) : (w.heap.size = w.heap.size + 1 + 1 + 1 + 1 + 1 + 1 + 1 + 1 + 1 + 1 + g.n) = False := eq_false (by omega)
@[go_sem high] theorem nat_en_s10g {w : World} (g : Laid) : (w.heap.size + 1 + 1 + 1 + 1 + 1 + 1 + 1 + 1 + 1 + 1 + g.n = w.heap.size) = False := eq_false (by omega)
@[go_sem] theorem nat_lt_h10g {a : Nat} {w : World} (g : Laid) (h : a < w.heap.size) : (a < w.heap.size + 1 + 1 + 1 + 1 + 1 + 1 + 1 + 1 + 1 + 1 + g.n) = True := eq_true (by omega)
@[go_sem] theorem nat_ne_h10g {a : Nat} {w : World} (g : Laid) (h : a < w.heap.size) : (a = w.heap.size + 1 + 1 + 1 + 1 + 1 + 1 + 1 + 1 + 1 + 1 + g.n) = False := eq_false (by omega)
@[go_sem high] theorem nat_lt_s10gc {w : World} (g : Laid) (c : Nat) : (w.heap.size < w.heap.size + 1 + 1 + 1 + 1 + 1 + 1 + 1 + 1 + 1 + 1 + (g.n + c)) = True := eq_true (by omega)
@[go_sem high] theorem nat_ne_s10gc {w : World} (g : Laid) (c : Nat) : (w.heap.size = w.heap.size + 1 + 1 + 1 + 1 + 1 + 1 + 1 + 1 + 1 + 1 + (g.n + c)) = False := eq_false (by omega)
@[go_sem high] theorem nat_en_s10gc {w : World} (g : Laid) (c : Nat) : (w.heap.size + 1 + 1 + 1 + 1 + 1 + 1 + 1 + 1 + 1 + 1 + (g.n + c) = w.heap.size) = False := eq_false (by omega)
@[go_sem] theorem nat_lt_h10gc {a : Nat} {w : World} (g : Laid) (c : Nat) (h : a < w.heap.size) : (a < w.heap.size + 1 + 1 + 1 + 1 + 1 + 1 + 1 + 1 + 1 + 1 + (g.n + c)) = True := eq_true (by omega)
@[go_sem] theorem nat_ne_h10gc {a : Nat} {w : World} (g : Laid) (c : Nat) (h : a < w.heap.size) : (a = w.heap.size + 1 + 1 + 1 + 1 + 1 + 1 + 1 + 1 + 1 + 1 + (g.n + c)) = False := eq_false (by omega)
@[go_sem high] theorem nat_lt_s11 {w : World} : (w.heap.size < w.heap.size + 1 + 1 + 1 + 1 + 1 + 1 + 1 + 1 + 1 + 1 + 1) = True := eq_true (by omega)
@[go_sem high] theorem nat_ne_s11 {w : World} : (w.heap.size = w.heap.size + 1 + 1 + 1 + 1 + 1 + 1 + 1 + 1 + 1 + 1 + 1) = False := eq_false (by omega)
@[go_sem high] theorem nat_en_s11 {w : World} : (w.heap.size + 1 + 1 + 1 + 1 + 1 + 1 + 1 + 1 + 1 + 1 + 1 = w.heap.size) = False := eq_false (by omega)
@[go_sem] theorem nat_lt_h11 {a : Nat} {w : World} (h : a < w.heap.size) : (a < w.heap.size + 1 + 1 + 1 + 1 + 1 + 1 + 1 + 1 + 1 + 1 + 1) = True := eq_true (by omega)
@[go_sem] theorem nat_ne_h11 {a : Nat} {w : World} (h : a < w.heap.size) : (a = w.heap.size + 1 + 1 + 1 + 1 + 1 + 1 + 1 + 1 + 1 + 1 + 1) = False := eq_false (by omega)
@[go_sem high] theorem nat_lt_s11g {w : World} (g : Laid) : (w.heap.size < w.heap.size + 1 + 1 + 1 + 1 + 1 + 1 + 1 + 1 + 1 + 1 + 1 + g.n) = True := eq_true (by omega)
@[go_sem high] theorem nat_ne_s11g {w : World} (g : Laid) : (w.heap.size = w.heap.size + 1 + 1 + 1 + 1 + 1 + 1 + 1 + 1 + 1 + 1 + 1 + g.n) = False := eq_false (by omega)
@[go_sem high] theorem nat_en_s11g {w : World} (g : Laid) : (w.heap.size + 1 + 1 + 1 + 1 + 1 + 1 + 1 + 1 + 1 + 1 + 1 + g.n = w.heap.size) = False := eq_false (by omega)
@[go_sem] theorem nat_lt_h11g {a : Nat} {w : World} (g : Laid) (h : a < w.heap.size) : (a < w.heap.size + 1 + 1 + 1 + 1 + 1 + 1 + 1 + 1 + 1 + 1 + 1 + g.n) = True := eq_true (by omega)
@[go_sem] theorem nat_ne_h11g {a : Nat} {w : World} (g : Laid) (h : a < w.heap.size) : (a = w.heap.size + 1 + 1 + 1 + 1 + 1 + 1 + 1 + 1 + 1 + 1 + 1 + g.n) = False := eq_false (by omega)
@[go_sem high] theorem nat_lt_s11gc {w : World} (g : Laid) (c : Nat) : (w.heap.size < w.heap.size + 1 + 1 + 1 + 1 + 1 + 1 + 1 + 1 + 1 + 1 + 1 + (g.n + c)) = True := eq_true (by omega)
@[go_sem high] theorem nat_ne_s11gc {w : World} (g : Laid) (c : Nat) : (w.heap.size = w.heap.size + 1 + 1 + 1 + 1 + 1 + 1 + 1 + 1 + 1 + 1 + 1 + (g.n + c)) = False := eq_false (by omega)
@[go_sem high] theorem nat_en_s11gc {w : World} (g : Laid) (c : Nat) : (w.heap.size + 1 + 1 + 1 + 1 + 1 + 1 + 1 + 1 + 1 + 1 + 1 + (g.n + c) = w.heap.size) = False := eq_false (by omega)
@[go_sem] theorem nat_lt_h11gc {a : Nat} {w : World} (g : Laid) (c : Nat) (h : a < w.heap.size) : (a < w.heap.size + 1 + 1 + 1 + 1 + 1 + 1 + 1 + 1 + 1 + 1 + 1 + (g.n + c)) = True := eq_true (by omega)
@[go_sem] theorem nat_ne_h11gc {a : Nat} {w : World} (g : Laid) (c : Nat) (h : a < w.heap.size) : (a = w.heap.size + 1 + 1 + 1 + 1 + 1 + 1 + 1 + 1 + 1 + 1 + 1 + (g.n + c)) = False := eq_false (by omega)
@[go_sem high] theorem nat_lt_s12 {w : World} : (w.heap.size < w.heap.size + 1 + 1 + 1 + 1 + 1 + 1 + 1 + 1 + 1 + 1 + 1 + 1) = True := eq_true (by omega)
@[go_sem high] theorem nat_ne_s12 {w : World} : (w.heap.size = w.heap.size + 1 + 1 + 1 + 1 + 1 + 1 + 1 + 1 + 1 + 1 + 1 + 1) = False := eq_false (by omega)
@[go_sem high] theorem nat_en_s12 {w : World} : (w.heap.size + 1 + 1 + 1 + 1 + 1 + 1 + 1 + 1 + 1 + 1 + 1 + 1 = w.heap.size) = False := eq_false (by omega)
@[go_sem] theorem nat_lt_h12 {a : Nat} {w : World} (h : a < w.heap.size) : (a < w.heap.size + 1 + 1 + 1 + 1 + 1 + 1 + 1 + 1 + 1 + 1 + 1 + 1) = True := eq_true (by omega)
@[go_sem] theorem nat_ne_h12 {a : Nat} {w : World} (h : a < w.heap.size) : (a = w.heap.size + 1 + 1 + 1 + 1 + 1 + 1 + 1 + 1 + 1 + 1 + 1 + 1) = False := eq_false (by omega)
@[go_sem high] theorem nat_lt_s12g {w : World} (g : Laid) : (w.heap.size < w.heap.size + 1 + 1 + 1 + 1 + 1 + 1 + 1 + 1 + 1 + 1 + 1 + 1 + g.n) = True := eq_true (by omega)
@[go_sem high] theorem nat_ne_s12g {w : World} (g : Laid) : (w.heap.size = w.heap.size + 1 + 1 + 1 + 1 + 1 + 1 + 1 + 1 + 1 + 1 + 1 + 1 + g.n) = False := eq_false (by omega)
@[go_sem high] theorem nat_en_s12g {w : World} (g : Laid) : (w.heap.size + 1 + 1 + 1 + 1 + 1 + 1 + 1 + 1 + 1 + 1 + 1 + 1 + g.n = w.heap.size) = False := eq_false (by omega)
@[go_sem] theorem nat_lt_h12g {a : Nat} {w : World} (g : Laid) (h : a < w.heap.size) : (a < w.heap.size + 1 + 1 + 1 + 1 + 1 + 1 + 1 + 1 + 1 + 1 + 1 + 1 + g.n) = True := eq_true (by omega)
@[go_sem] theorem nat_ne_h12g {a : Nat} {w : World} (g : Laid) (h : a < w.heap.size) : (a = w.heap.size + 1 + 1 + 1 + 1 + 1 + 1 + 1 + 1 + 1 + 1 + 1 + 1 + g.n) = False := eq_false (by omega)
@[go_sem high] theorem nat_lt_s12gc {w : World} (g : Laid) (c : Nat) : (w.heap.size < w.heap.size + 1 + 1 + 1 + 1 + 1 + 1 + 1 + 1 + 1 + 1 + 1 + 1 + (g.n + c)) = True := eq_true (by omega)
@[go_sem high] theorem nat_ne_s12gc {w : World} (g : Laid) (c : Nat) : (w.heap.size = w.heap.size + 1 + 1 + 1 + 1 + 1 + 1 + 1 + 1 + 1 + 1 + 1 + 1 + (g.n + c)) = False := eq_false (by omega)
@[go_sem high] theorem nat_en_s12gc {w : World} (g : Laid) (c : Nat) : (w.heap.size + 1 + 1 + 1 + 1 + 1 + 1 + 1 + 1 + 1 + 1 + 1 + 1 + (g.n + c) = w.heap.size) = False := eq_false (by omega)
@[go_sem] theorem nat_lt_h12gc {a : Nat} {w : World} (g : Laid) (c : Nat) (h : a < w.heap.size) : (a < w.heap.size + 1 + 1 + 1 + 1 + 1 + 1 + 1 + 1 + 1 + 1 + 1 + 1 + (g.n + c)) = True := eq_true (by omega)
@[go_sem] theorem nat_ne_h12gc {a : Nat} {w : World} (g : Laid) (c : Nat) (h : a < w.heap.size) : (a = w.heap.size + 1 + 1 + 1 + 1 + 1 + 1 + 1 + 1 + 1 + 1 + 1 + 1 + (g.n + c)) = False := eq_false (by omega)
@[go_sem high] theorem nat_lt_s13 {w : World} : (w.heap.size < w.heap.size + 1 + 1 + 1 + 1 + 1 + 1 + 1 + 1 + 1 + 1 + 1 + 1 + 1) = True := eq_true (by omega)
@[go_sem high] theorem nat_ne_s13 {w : World} : (w.heap.size = w.heap.size + 1 + 1 + 1 + 1 + 1 + 1 + 1 + 1 + 1 + 1 + 1 + 1 + 1) = False := eq_false (by omega)
@[go_sem high] theorem nat_en_s13 {w : World} : (w.heap.size + 1 + 1 + 1 + 1 + 1 + 1 + 1 + 1 + 1 + 1 + 1 + 1 + 1 = w.heap.size) = False := eq_false (by omega)
@[go_sem] theorem nat_lt_h13 {a : Nat} {w : World} (h : a < w.heap.size) : (a < w.heap.size + 1 + 1 + 1 + 1 + 1 + 1 + 1 + 1 + 1 + 1 + 1 + 1 + 1) = True := eq_true (by omega)
@[go_sem] theorem nat_ne_h13 {a : Nat} {w : World} (h : a < w.heap.size) : (a = w.heap.size + 1 + 1 + 1 + 1 + 1 + 1 + 1 + 1 + 1 + 1 + 1 + 1 + 1) = False := eq_false (by omega)
@[go_sem high] theorem nat_lt_s13g {w : World} (g : Laid) : (w.heap.size < w.heap.size + 1 + 1 + 1 + 1 + 1 + 1 + 1 + 1 + 1 + 1 + 1 + 1 + 1 + g.n) = True := eq_true (by omega)
@[go_sem high] theorem nat_ne_s13g {w : World} (g : Laid) : (w.heap.size = w.heap.size + 1 + 1 + 1 + 1 + 1 + 1 + 1 + 1 + 1 + 1 + 1 + 1 + 1 + g.n) = False := eq_false (by omega)
@[go_sem high] theorem nat_en_s13g {w : World} (g : Laid) : (w.heap.size + 1 + 1 + 1 + 1 + 1 + 1 + 1 + 1 + 1 + 1 + 1 + 1 + 1 + g.n = w.heap.size) = False := eq_false (by omega)
@[go_sem] theorem nat_lt_h13g {a : Nat} {w : World} (g : Laid) (h : a < w.heap.size) : (a < w.heap.size + 1 + 1 + 1 + 1 + 1 + 1 + 1 + 1 + 1 + 1 + 1 + 1 + 1 + g.n) = True := eq_true (by omega)
@[go_sem] theorem nat_ne_h13g {a : Nat} {w : World} (g : Laid) (h : a < w.heap.size) : (a = w.heap.size + 1 + 1 + 1 + 1 + 1 + 1 + 1 + 1 + 1 + 1 + 1 + 1 + 1 + g.n) = False := eq_false (by omega)
@[go_sem high] theorem nat_lt_s13gc {w : World} (g : Laid) (c : Nat) : (w.heap.size < w.heap.size + 1 + 1 + 1 + 1 + 1 + 1 + 1 + 1 + 1 + 1 + 1 + 1 + 1 + (g.n + c)) = True := eq_true (by omega)
@[go_sem high] theorem nat_ne_s13gc {w : World} (g : Laid) (c : Nat) : (w.heap.size = w.heap.size + 1 + 1 + 1 + 1 + 1 + 1 + 1 + 1 + 1 + 1 + 1 + 1 + 1 + (g.n + c)) = False := eq_false (by omega)
@[go_sem high] theorem nat_en_s13gc {w : World} (g : Laid) (c : Nat) : (w.heap.size + 1 + 1 + 1 + 1 + 1 + 1 + 1 + 1 + 1 + 1 + 1 + 1 + 1 + (g.n + c) = w.heap.size) = False := eq_false (by omega)
@[go_sem] theorem nat_lt_h13gc {a : Nat} {w : World} (g : Laid) (c : Nat) (h : a < w.heap.size) : (a < w.heap.size + 1 + 1 + 1 + 1 + 1 + 1 + 1 + 1 + 1 + 1 + 1 + 1 + 1 + (g.n + c)) = True := eq_true (by omega)
@[go_sem] theorem nat_ne_h13gc {a : Nat} {w : World} (g : Laid) (c : Nat) (h : a < w.heap.size) : (a = w.heap.size + 1 + 1 + 1 + 1 + 1 + 1 + 1 + 1 + 1 + 1 + 1 + 1 + 1 + (g.n + c)) = False := eq_false (by omega)
@[go_sem high] theorem nat_lt_s14 {w : World} : (w.heap.size < w.heap.size + 1 + 1 + 1 + 1 + 1 + 1 + 1 + 1 + 1 + 1 + 1 + 1 + 1 + 1) = True := eq_true (by omega)
@[go_sem high] theorem nat_ne_s14 {w : World} : (w.heap.size = w.heap.size + 1 + 1 + 1 + 1 + 1 + 1 + 1 + 1 + 1 + 1 + 1 + 1 + 1 + 1) = False := eq_false (by omega)
@[go_sem high] theorem nat_en_s14 {w : World} : (w.heap.size + 1 + 1 + 1 + 1 + 1 + 1 + 1 + 1 + 1 + 1 + 1 + 1 + 1 + 1 = w.heap.size) = False := eq_false (by omega)
@[go_sem] theorem nat_lt_h14 {a : Nat} {w : World} (h : a < w.heap.size) : (a < w.heap.size + 1 + 1 + 1 + 1 + 1 + 1 + 1 + 1 + 1 + 1 + 1 + 1 + 1 + 1) = True := eq_true (by omega)
@[go_sem] theorem nat_ne_h14 {a : Nat} {w : World} (h : a < w.heap.size) : (a = w.heap.size + 1 + 1 + 1 + 1 + 1 + 1 + 1 + 1 + 1 + 1 + 1 + 1 + 1 + 1) = False := eq_false (by omega)
@[go_sem high] theorem nat_lt_s14g {w : World} (g : Laid) : (w.heap.size < w.heap.size + 1 + 1 + 1 + 1 + 1 + 1 + 1 + 1 + 1 + 1 + 1 + 1 + 1 + 1 + g.n) = True := eq_true (by omega)
@[go_sem high] theorem nat_ne_s14g {w : World} (g : Laid) : (w.heap.size = w.heap.size + 1 + 1 + 1 + 1 + 1 + 1 + 1 + 1 + 1 + 1 + 1 + 1 + 1 + 1 + g.n) = False := eq_false (by omega)
@[go_sem high] theorem nat_en_s14g {w : World} (g : Laid) : (w.heap.size + 1 + 1 + 1 + 1 + 1 + 1 + 1 + 1 + 1 + 1 + 1 + 1 + 1 + 1 + g.n = w.heap.size) = False := eq_false (by omega)
@[go_sem] theorem nat_lt_h14g {a : Nat} {w : World} (g : Laid) (h : a < w.heap.size) : (a < w.heap.size + 1 + 1 + 1 + 1 + 1 + 1 + 1 + 1 + 1 + 1 + 1 + 1 + 1 + 1 + g.n) = True := eq_true (by omega)
@[go_sem] theorem nat_ne_h14g {a : Nat} {w : World} (g : Laid) (h : a < w.heap.size) : (a = w.heap.size + 1 + 1 + 1 + 1 + 1 + 1 + 1 + 1 + 1 + 1 + 1 + 1 + 1 + 1 + g.n) = False := eq_false (by omega)
@[go_sem high] theorem nat_lt_s14gc {w : World} (g : Laid) (c : Nat) : (w.heap.size < w.heap.size + 1 + 1 + 1 + 1 + 1 + 1 + 1 + 1 + 1 + 1 + 1 + 1 + 1 + 1 + (g.n + c)) = True := eq_true (by omega)
@[go_sem high] theorem nat_ne_s14gc {w : World} (g : Laid) (c : Nat) : (w.heap.size = w.heap.size + 1 + 1 + 1 + 1 + 1 + 1 + 1 + 1 + 1 + 1 + 1 + 1 + 1 + 1 + (g.n + c)) = False := eq_false (by omega)
@[go_sem high] theorem nat_en_s14gc {w : World} (g : Laid) (c : Nat) : (w.heap.size + 1 + 1 + 1 + 1 + 1 + 1 + 1 + 1 + 1 + 1 + 1 + 1 + 1 + 1 + (g.n + c) = w.heap.size) = False := eq_false (by omega)
@[go_sem] theorem nat_lt_h14gc {a : Nat} {w : World} (g : Laid) (c : Nat) (h : a < w.heap.size) : (a < w.heap.size + 1 + 1 + 1 + 1 + 1 + 1 + 1 + 1 + 1 + 1 + 1 + 1 + 1 + 1 + (g.n + c)) = True := eq_true (by omega)
@[go_sem] theorem nat_ne_h14gc {a : Nat} {w : World} (g : Laid) (c : Nat) (h : a < w.heap.size) : (a = w.heap.size + 1 + 1 + 1 + 1 + 1 + 1 + 1 + 1 + 1 + 1 + 1 + 1 + 1 + 1 + (g.n + c)) = False := eq_false (by omega)
@[go_sem] theorem add_laid (a b : Nat) (g : Laid) : a + g.n + b = a + (g.n + b) := Nat.add_assoc ..
@[go_sem] theorem add_laid2 (a b c : Nat) (g : Laid) : a + (g.n + b) + c = a + (g.n + (b + c)) := by omega

/-! ### Blocks of one's own -/
theorem St.grow {w0 w : World} {L : List (Nat × Array Value × TypeId)} (h : St w0 w L) (g : Laid) : St w0 (Go.Proofs.Ytkfggilildiflab.grow w g) L := h.call (grow_below w g)
theorem St.drew {w0 w : World} {L : List (Nat × Array Value × TypeId)} (h : St w0 w L) : St w0 w.drew L := h.drewN 1
theorem St.skip {w0 w : World} {L : List (Nat × Array Value × TypeId)} (h : St w0 w L) (o : Obj) : St w0 (w.alloc o) L := h.call ((Below.refl _ _).alloc (Nat.le_refl _) _)
theorem put_is_setRow {w : World} {b : Nat} {cs : Array Value} {t : TypeId} (h : blk w b = some (.cells cs t (0, 0))) (cs' : Array Value) : putRow w b cs' t = w.setRow b cs' := by
  conv => rhs; rw [put_self h]
  rw [put_setRow_same]
theorem St.put {w0 w : World} {L : List (Nat × Array Value × TypeId)} (h : St w0 w L) (i : Nat) {b : Nat} {cs : Array Value} {t : TypeId} (hi : L[i]? = some (b, cs, t)) (cs' : Array Value) : St w0 (putRow w b cs' t) (L.set i (b, cs', t)) := by
  rw [put_is_setRow (h.blk i hi)]
  exact h.setRow i hi cs'
theorem St.ne {w0 w : World} {L : List (Nat × Array Value × TypeId)} (h : St w0 w L) (i j : Nat) {b c : Nat} {cs cs' : Array Value} {t t' : TypeId} (hi : L[i]? = some (b, cs, t)) (hj : L[j]? = some (c, cs', t')) (hij : i ≠ j) : ¬ b = c := fun e => by
  have h1 : (L.map (·.1))[i]? = some b := by simp [hi]
  have h2 : (L.map (·.1))[j]? = some c := by simp [hj]
  subst e
  obtain ⟨l1, e1⟩ := List.getElem?_eq_some_iff.1 h1
  obtain ⟨l2, e2⟩ := List.getElem?_eq_some_iff.1 h2
  exact hij ((List.getElem_inj h.2.2).1 (e1.trans e2.symm))
theorem St.lt {w0 w : World} {L : List (Nat × Array Value × TypeId)} (h : St w0 w L) (i : Nat) {b : Nat} {cs : Array Value} {t : TypeId} (hi : L[i]? = some (b, cs, t)) : b < w.heap.size := blk_lt (h.blk i hi)
theorem St.low {w0 w : World} {L : List (Nat × Array Value × TypeId)} (h : St w0 w L) (i : Nat) {b : Nat} {cs : Array Value} {t : TypeId} (hi : L[i]? = some (b, cs, t)) : w0.heap.size ≤ b := (h.2.1 _ (List.mem_of_getElem? hi)).1
/-- One, two, three, four blocks of one's own, written in front. -/
theorem St.open1 {w0 w : World} {b : Nat} {cs : Array Value} {t : TypeId} (h : St w0 w [(b, cs, t)]) :
    ∃ x, w = putRow x b cs t ∧ St w0 x [(b, cs, t)] ∧ b < x.heap.size := ⟨w, put_self (h.blk 0 rfl), h, h.lt 0 rfl⟩
theorem St.open2 {w0 w : World} {b c : Nat} {cs cs' : Array Value} {t t' : TypeId} (h : St w0 w [(b, cs, t), (c, cs', t')]) :
    ∃ x, w = putRow (putRow x c cs' t') b cs t ∧ St w0 x [(b, cs, t), (c, cs', t')] ∧ b < x.heap.size ∧ c < x.heap.size ∧ ¬ b = c ∧ ¬ c = b :=
  ⟨w, by rw [← put_self (h.blk 1 rfl), ← put_self (h.blk 0 rfl)], h, h.lt 0 rfl, h.lt 1 rfl, h.ne 0 1 rfl rfl (by decide), h.ne 1 0 rfl rfl (by decide)⟩
theorem St.open3 {w0 w : World} {b c d : Nat} {cs cs' cs2 : Array Value} {t t' t2 : TypeId} (h : St w0 w [(b, cs, t), (c, cs', t'), (d, cs2, t2)]) :
    ∃ x, w = putRow (putRow (putRow x d cs2 t2) c cs' t') b cs t ∧ St w0 x [(b, cs, t), (c, cs', t'), (d, cs2, t2)] ∧ b < x.heap.size ∧ c < x.heap.size ∧ d < x.heap.size ∧ ¬ b = c ∧ ¬ c = b ∧ ¬ b = d ∧ ¬ d = b ∧ ¬ c = d ∧ ¬ d = c :=
  ⟨w, by rw [← put_self (h.blk 2 rfl), ← put_self (h.blk 1 rfl), ← put_self (h.blk 0 rfl)], h, h.lt 0 rfl, h.lt 1 rfl, h.lt 2 rfl, h.ne 0 1 rfl rfl (by decide), h.ne 1 0 rfl rfl (by decide), h.ne 0 2 rfl rfl (by decide), h.ne 2 0 rfl rfl (by decide), h.ne 1 2 rfl rfl (by decide), h.ne 2 1 rfl rfl (by decide)⟩
theorem St.put1 {w0 x : World} {b : Nat} {cs : Array Value} {t : TypeId} (h : St w0 x [(b, cs, t)]) (cs2 : Array Value) : St w0 (putRow x b cs2 t) [(b, cs2, t)] := h.put 0 rfl cs2
theorem St.put2 {w0 x : World} {b c : Nat} {cs cs' : Array Value} {t t' : TypeId} (h : St w0 x [(b, cs, t), (c, cs', t')]) (d d' : Array Value) : St w0 (putRow (putRow x c d' t') b d t) [(b, d, t), (c, d', t')] := (h.put 1 rfl d').put 0 rfl d
theorem St.put3 {w0 x : World} {b c e : Nat} {cs cs' cs2 : Array Value} {t t' t2 : TypeId} (h : St w0 x [(b, cs, t), (c, cs', t'), (e, cs2, t2)]) (d d' d2 : Array Value) : St w0 (putRow (putRow (putRow x e d2 t2) c d' t') b d t) [(b, d, t), (c, d', t'), (e, d2, t2)] := ((h.put 2 rfl d2).put 1 rfl d').put 0 rfl d
theorem St.put4 {w0 x : World} {b c e f : Nat} {cs cs' cs2 cs3 : Array Value} {t t' t2 t3 : TypeId} (h : St w0 x [(b, cs, t), (c, cs', t'), (e, cs2, t2), (f, cs3, t3)]) (d d' d2 d3 : Array Value) : St w0 (putRow (putRow (putRow (putRow x f d3 t3) e d2 t2) c d' t') b d t) [(b, d, t), (c, d', t'), (e, d2, t2), (f, d3, t3)] := (((h.put 3 rfl d3).put 2 rfl d2).put 1 rfl d').put 0 rfl d
theorem St.open4 {w0 w : World} {b c d e : Nat} {cs cs' cs2 cs3 : Array Value} {t t' t2 t3 : TypeId} (h : St w0 w [(b, cs, t), (c, cs', t'), (d, cs2, t2), (e, cs3, t3)]) :
    ∃ x, w = putRow (putRow (putRow (putRow x e cs3 t3) d cs2 t2) c cs' t') b cs t ∧ St w0 x [(b, cs, t), (c, cs', t'), (d, cs2, t2), (e, cs3, t3)] ∧ b < x.heap.size ∧ c < x.heap.size ∧ d < x.heap.size ∧ e < x.heap.size ∧ ¬ b = c ∧ ¬ c = b ∧ ¬ b = d ∧ ¬ d = b ∧ ¬ c = d ∧ ¬ d = c ∧ ¬ b = e ∧ ¬ e = b ∧ ¬ c = e ∧ ¬ e = c ∧ ¬ d = e ∧ ¬ e = d :=
  ⟨w, by rw [← put_self (h.blk 3 rfl), ← put_self (h.blk 2 rfl), ← put_self (h.blk 1 rfl), ← put_self (h.blk 0 rfl)], h, h.lt 0 rfl, h.lt 1 rfl, h.lt 2 rfl, h.lt 3 rfl, h.ne 0 1 rfl rfl (by decide), h.ne 1 0 rfl rfl (by decide), h.ne 0 2 rfl rfl (by decide), h.ne 2 0 rfl rfl (by decide), h.ne 1 2 rfl rfl (by decide), h.ne 2 1 rfl rfl (by decide), h.ne 0 3 rfl rfl (by decide), h.ne 3 0 rfl rfl (by decide), h.ne 1 3 rfl rfl (by decide), h.ne 3 1 rfl rfl (by decide), h.ne 2 3 rfl rfl (by decide), h.ne 3 2 rfl rfl (by decide)⟩
theorem St.erase {w0 w : World} {L : List (Nat × Array Value × TypeId)} (h : St w0 w L) (i : Nat) : St w0 w (L.eraseIdx i) :=
  ⟨h.1, fun x hx => h.2.1 x (List.mem_of_mem_eraseIdx hx), h.2.2.sublist ((List.eraseIdx_sublist L i).map _)⟩
theorem St.take {w0 w : World} {L : List (Nat × Array Value × TypeId)} (h : St w0 w L) (n : Nat) : St w0 w (L.take n) :=
  ⟨h.1, fun x hx => h.2.1 x (List.mem_of_mem_take hx), by rw [List.map_take]; exact h.2.2.sublist (List.take_sublist _ _)⟩
theorem St.mono {w0 w w1 : World} {L : List (Nat × Array Value × TypeId)} (h : St w w1 L) (hb : Below w0.heap.size w0 w) : St w0 w1 L :=
  ⟨hb.trans (h.1.mono hb.size), fun x hx => ⟨Nat.le_trans hb.size (h.2.1 x hx).1, (h.2.1 x hx).2⟩, h.2.2⟩
end Go.Proofs.Ytkfggilildiflab

namespace Go.Proofs.Ytkfggilildiflab
open Go.ChangeShapes Go.WideShapes Go.ChangeAt Go.RowKit
/-- Cells written over from a place on. -/
def ovw (cur : Array Value) (o : Nat) (l : List UInt8) : Array Value := (cur.toList.take o ++ (l.map bv ++ cur.toList.drop (o + l.length))).toArray
theorem ovw_size {cur : Array Value} {o : Nat} {l : List UInt8} (h : o + l.length ≤ cur.size) : (ovw cur o l).size = cur.size := by
  unfold ovw; simp; omega
theorem ovw_nil (cur : Array Value) (o : Nat) : ovw cur o [] = cur := by
  unfold ovw; simp
theorem ovw_snoc {cur : Array Value} {o : Nat} {l : List UInt8} (h : o + l.length < cur.size) (b : UInt8) : (ovw cur o l).setIfInBounds (o + l.length) (bv b) = ovw cur o (l ++ [b]) := by
  have h1 : (cur.toList.take o).length = o := by simp; omega
  have h2 : o + l.length < cur.toList.length := by simpa using h
  unfold ovw
  rw [List.setIfInBounds_toArray, List.set_append_right _ _ (by omega), h1, Nat.add_sub_cancel_left, List.set_append_right _ _ (by simp), List.length_map, Nat.sub_self, List.drop_eq_getElem_cons h2, List.set_cons_zero]
  simp [Nat.add_assoc]
theorem ovw_at {cur : Array Value} {o : Nat} {l : List UInt8} (h : o + l.length ≤ cur.size) (j : Nat) : (ovw cur o l)[j]? = if o ≤ j ∧ j < o + l.length then (l[j - o]?).map bv else cur[j]? := by
  unfold ovw
  simp only [List.getElem?_toArray, List.getElem?_append, List.length_take, List.length_map, Array.length_toList, List.getElem?_take, List.getElem?_map, List.getElem?_drop]
  have e : min o cur.size = o := by omega
  rw [e]
  by_cases h1 : j < o
  · rw [if_pos h1, if_pos h1, if_neg (by omega)]; simp
  · rw [if_neg h1]
    by_cases h2 : j - o < l.length
    · rw [if_pos h2, if_pos (by omega)]
    · rw [if_neg h2, if_neg (by omega), show o + l.length + (j - o - l.length) = j by omega]; simp
theorem ovw_bvs (x l : List UInt8) (o : Nat) : ovw (bvs x) o l = bvs (x.take o ++ (l ++ x.drop (o + l.length))) := by
  unfold ovw bvs
  simp [List.map_take, List.map_drop]
/-- A number's bytes, the lowest first. -/
def leB (n : Nat) : Nat → List UInt8
  | 0 => []
  | k + 1 => leB n k ++ [UInt8.ofNat (n / 256 ^ k)]
theorem leB_zero (n : Nat) : leB n 0 = [] := rfl
theorem leB_succ (n k : Nat) : leB n (k + 1) = leB n k ++ [UInt8.ofNat (n / 256 ^ k)] := rfl
theorem leB_len (n k : Nat) : (leB n k).length = k := by
  induction k with
  | zero => rfl
  | succ k ih => simp [leB_succ, ih]
theorem leB_cons (n k : Nat) : leB n (k + 1) = UInt8.ofNat n :: leB (n / 256) k := by
  induction k with
  | zero => simp [leB]
  | succ k ih =>
    rw [leB_succ, ih, leB_succ (n / 256) k, List.cons_append, Nat.div_div_eq_div_mul, Nat.pow_succ, Nat.mul_comm]
/-- A number out of bytes, the lowest first. -/
def leN : List UInt8 → Nat
  | [] => 0
  | b :: l => b.toNat + 256 * leN l
theorem leN_lt : ∀ l : List UInt8, leN l < 256 ^ l.length
  | [] => by simp [leN]
  | b :: l => by
    have h := leN_lt l
    have hb := b.toNat_lt
    simp only [leN, List.length_cons, Nat.pow_succ]
    omega
theorem leN_leB (n k : Nat) : leN (leB n k) = n % 256 ^ k := by
  induction k generalizing n with
  | zero => simp [leB, leN, Nat.mod_one]
  | succ k ih =>
    rw [leB_cons, leN, ih]
    rw [Nat.pow_succ, Nat.mul_comm (256 ^ k) 256, Nat.mod_mul]
    simp
theorem leB_leN : ∀ l : List UInt8, leB (leN l) l.length = l
  | [] => rfl
  | b :: l => by
    have hb := b.toNat_lt
    rw [List.length_cons, leB_cons, leN]
    rw [show (b.toNat + 256 * leN l) / 256 = leN l by omega, leB_leN l]
    congr 1
    apply UInt8.toNat_inj.1
    rw [UInt8.toNat_ofNat']
    omega
theorem ovw_cons {cur : Array Value} {o : Nat} {l : List UInt8} (h : o + 1 + l.length ≤ cur.size) (b : UInt8) : (ovw cur (o + 1) l).setIfInBounds o (bv b) = ovw cur o (b :: l) := by
  have ho : o < cur.toList.length := by simp; omega
  have h1 : (cur.toList.take o).length = o := by simp; omega
  unfold ovw
  rw [List.take_succ_eq_append_getElem ho, List.append_assoc, List.setIfInBounds_toArray, List.set_append_right _ _ (by omega), h1, Nat.sub_self, List.length_cons, show o + (l.length + 1) = o + 1 + l.length by omega]
  rfl
/-- A number's bytes, and a number out of bytes, the highest first. -/
def beB (n k : Nat) : List UInt8 := (leB n k).reverse
def beN (l : List UInt8) : Nat := leN l.reverse
theorem beB_zero (n : Nat) : beB n 0 = [] := rfl
theorem beB_succ (n k : Nat) : beB n (k + 1) = UInt8.ofNat (n / 256 ^ k) :: beB n k := by
  unfold beB; rw [leB_succ, List.reverse_append]; rfl
theorem beB_len (n k : Nat) : (beB n k).length = k := by unfold beB; rw [List.length_reverse, leB_len]
theorem beN_snoc (l : List UInt8) (b : UInt8) : beN (l ++ [b]) = b.toNat + 256 * beN l := by
  unfold beN; rw [List.reverse_append]; rfl
theorem beN_nil : beN [] = 0 := rfl
theorem beN_lt (l : List UInt8) : beN l < 256 ^ l.length := by
  have := leN_lt l.reverse
  rwa [List.length_reverse] at this
theorem beB_beN (l : List UInt8) : beB (beN l) l.length = l := by
  unfold beB beN
  have := leB_leN l.reverse
  rw [List.length_reverse] at this
  rw [this, List.reverse_reverse]
theorem beN_beB (n k : Nat) : beN (beB n k) = n % 256 ^ k := by
  unfold beB beN
  rw [List.reverse_reverse, leN_leB]
attribute [irreducible] ovw leB leN beB beN
end Go.Proofs.Ytkfggilildiflab

namespace Go.Proofs.Ytkfggilildiflab
open Go.ChangeShapes Go.WideShapes Go.ChangeAt Go.RowKit
set_option maxRecDepth 100000 in
set_option maxHeartbeats 1000000 in
theorem putBig_any (g off n c : Nat) (cur : Array Value) (t : TypeId) (x : Nat) (w : World) (hb : blk w g = some (.cells cur t (0, 0))) (hfit : off + n ≤ csz cur) (hn : n ≤ 1000000000) (_hc : c ≤ maxLen) :
    Calls Try.prog 58 #[.slice (some ⟨g, off, none⟩) n c, .int .u64 x] w fun e w' => e = .returned (.tuple #[]) ∧ w' = w.setRow g (ovw cur off (beB x n)) := by
  rw [← put_is_setRow hb]
  have H0 : Hid (w = putRow w g cur t) := hid (put_self hb)
  have hlt := blk_lt hb
  clear hb
  rw [csz_is] at hfit
  go_enter Try.func58, Try.ntmps58
  go_wp2_with fail
  go_loopw [1, 4] (fun u1 i wr => ∃ k : Nat, k ≤ n ∧ i = .int .i64 ((n : Int) - 1 - k) ∧ u1 = .int .u64 ((x / 256 ^ k : Nat) : Int) ∧ wr = putRow w g (ovw cur (off + n - k) (beB x k)) t)
    (fun _ i _ => (intOf i + 1).toNat)
  case atStart => exact ⟨0, by omega, by simp, by simp, by rw [beB_zero, ovw_nil]; exact H0.out⟩
  case round =>
    obtain ⟨k, hk, rfl, rfl, rfl⟩ := hrel
    by_cases hkn : k < n
    · have hl : (beB x k).length = k := beB_len x k
      obtain ⟨m, hm⟩ : ∃ m, n = k + 1 + m := ⟨n - (k + 1), by omega⟩
      have e1 : off + n - k = off + m + 1 := by omega
      have e2 : (n : Int) - 1 - k = (m : Int) := by omega
      have e3 : off + n - (k + 1) = off + m := by omega
      obtain ⟨v0, hv0⟩ : ∃ v0, (ovw cur (off + m + 1) (beB x k))[off + m]? = some v0 := ⟨_, Array.getElem?_eq_getElem (by rw [ovw_size (by omega)]; omega)⟩
      have hs := ovw_cons (cur := cur) (o := off + m) (l := beB x k) (by omega) (UInt8.ofNat (x / 256 ^ k))
      rw [← beB_succ] at hs
      have hd : x / 256 ^ (k + 1) = x / 256 ^ k / 256 := by rw [Nat.pow_succ, Nat.div_div_eq_div_mul]
      have hbv : bv (UInt8.ofNat (x / 256 ^ k)) = .int .u8 (((x / 256 ^ k : Nat) : Int) % 256) := by simp [bv]
      rw [hbv] at hs
      rw [e1, e2]
      have hmn : (m : Int) < (n : Int) := by omega
      have HS := hid hs; have HD := hid hd; have HM := hid hm; have H3 := hid e3
      clear hl hs hd hbv hm e1 e2 e3 H0
      generalize x / 256 ^ k = y at *
      go_wp2
      go_roundw
      case rel => exact ⟨k + 1, by omega, by rw [HM.out]; congr 1; omega, by rw [HD.out]; rfl, by rw [H3.out, ← HS.out]⟩
      case measure => simp [intOf]
    · obtain rfl : k = n := by omega
      rw [show (k : Int) - 1 - k = -1 by omega, show off + k - k = off by omega]
      go_wp2
      go_end0
      exact ⟨rfl, rfl⟩
theorem or_byte (y c : Nat) (hc : c < 256) : y * 256 ||| c = y * 256 + c := by
  have := Nat.two_pow_add_eq_or_of_lt (i := 8) (b := c) (by omega) y
  rw [Nat.mul_comm] at this
  exact this.symm
theorem BytesAt.cell {w : World} {p : Option Addr} {n c : Nat} {l : List UInt8} (h : BytesAt w (.slice p n c) l) {i : Nat} {x : UInt8} (hi : l[i]? = some x) : ∃ b o, p = some ⟨b, o, none⟩ ∧ w.cell? ⟨b, o + i, none⟩ = some (.int .u8 (x.toNat : Int)) ∧ b < w.heap.size := by
  obtain ⟨p', c', hv, h1, _, h3⟩ := h
  simp only [Value.slice.injEq] at hv
  obtain ⟨rfl, _, _⟩ := hv
  obtain ⟨b, o, cs, t, e, hp, hb, hx⟩ := h3 (by intro h; subst h; simp at hi)
  exact ⟨b, o, hp, by rw [cell_of_row w b (o + i) cs t e hb, hx i x hi]; rfl, blk_lt hb⟩
theorem BytesAt.slice {w : World} {v : Value} {l : List UInt8} (h : BytesAt w v l) : ∃ p c, v = .slice p l.length c ∧ l.length ≤ c := by
  obtain ⟨p, c, hv, h1, _, _⟩ := h
  exact ⟨p, c, hv, h1⟩
theorem or_u64 (y d : Nat) (hy : y < 72057594037927936) (hd : d < 256) : bits .or .u64 ((y : Int) * 256) (d : Int) = ((y * 256 + d : Nat) : Int) := by
  have h := u64_or_nat (y * 256) d (by omega) (by omega)
  rw [or_byte y d hd] at h
  rw [← h]
  simp
theorem leN_drop {l : List UInt8} {i : Nat} {x : UInt8} (hi : l[i]? = some x) : leN (l.drop i) = leN (l.drop (i + 1)) * 256 + x.toNat := by
  obtain ⟨h, rfl⟩ := List.getElem?_eq_some_iff.1 hi
  rw [List.drop_eq_getElem_cons h, leN]
  omega
theorem beN_take {l : List UInt8} {i : Nat} {x : UInt8} (hi : l[i]? = some x) : beN (l.take (i + 1)) = beN (l.take i) * 256 + x.toNat := by
  obtain ⟨h, rfl⟩ := List.getElem?_eq_some_iff.1 hi
  rw [List.take_succ_eq_append_getElem h, beN_snoc]
  omega
set_option maxRecDepth 100000 in
set_option maxHeartbeats 1000000 in
theorem big_any (v : Value) (l : List UInt8) (w : World) (hv : BytesAt w v l) (hl : l.length ≤ 8) :
    Calls Try.prog 45 #[v] w fun e w' => e = .returned (.int .u64 (beN l)) ∧ w = w' := by
  obtain ⟨p, c, rfl, hc⟩ := hv.slice
  have HV := hid hv
  have hlt : ∀ i, i < l.length → beN (l.take i) < 256 ^ i := fun i hi => by have := beN_lt (l.take i); rwa [List.length_take, Nat.min_eq_left (by omega)] at this
  have HL := hid hlt
  have H0 := hid (show beN (l.take 0) = 0 by rw [List.take_zero, beN_nil])
  have HE := hid (show beN (l.take l.length) = beN l by rw [List.take_length])
  obtain ⟨n, hn⟩ : ∃ n, n = l.length := ⟨_, rfl⟩
  rw [← hn] at hl HL HE HV hc ⊢
  have HN := hid hn
  clear hv hlt hn
  go_enter Try.func45, Try.ntmps45
  go_wp2_with fail
  go_loop [3, 5, 8] (fun u3 u5 i => ∃ k : Nat, k ≤ n ∧ i = .int .i64 (k : Int) ∧ u3 = .int .u64 ((beN (l.take k) : Nat) : Int)) (fun _ _ i => n - (intOf i).toNat)
  case atStart => exact ⟨0, by omega, by simp, by rw [H0.out]; rfl⟩
  case round =>
    obtain ⟨m, hk, rfl, rfl⟩ := hrel
    by_cases hk0 : m < n
    · have hx : l[m]? = some (l.getD m 0) := get_some (by rw [← HN.out]; omega)
      obtain ⟨b, o, rfl, hcell, _⟩ := HV.out.cell hx
      have hs := hid (beN_take hx)
      have h1 := HL.out m hk0
      have hb := (l.getD m 0).toNat_lt
      have hp : 256 ^ m ≤ 256 ^ 7 := Nat.pow_le_pow_right (by omega) (by omega)
      have h2 : beN (l.take m) < 72057594037927936 := by omega
      have ho := hid (or_u64 (beN (l.take m)) _ h2 hb)
      clear hx h1 hp
      generalize (l.getD m 0).toNat = d at *
      generalize beN (l.take m) = y at *
      go_wp2
      go_round
      case rel => exact ⟨m + 1, by omega, by go_num, by rw [hs.out, ho.out]⟩
      case measure => simp [intOf]; omega
    · obtain rfl : m = n := by omega
      go_wp2
      go_ret
      exact ⟨by rw [← HE.out]; rfl, rfl⟩
end Go.Proofs.Ytkfggilildiflab

namespace Go.Proofs.Ytkfggilildiflab
open Go.ChangeShapes Go.WideShapes Go.ChangeAt Go.RowKit
theorem leN_nil : leN [] = 0 := by unfold leN; rfl
theorem leN_cons (b : UInt8) (l : List UInt8) : leN (b :: l) = b.toNat + 256 * leN l := by rw [leN]
theorem leN_append : ∀ (a b : List UInt8), leN (a ++ b) = leN a + 256 ^ a.length * leN b
  | [], b => by simp [leN_nil]
  | x :: a, b => by
    rw [List.cons_append, leN_cons, leN_cons, leN_append a b, List.length_cons, Nat.pow_succ, Nat.mul_add, Nat.mul_comm (256 ^ a.length) 256, Nat.mul_assoc]
    omega
theorem leB_append (a b : Nat) : ∀ (j k : Nat), a < 256 ^ j → leB (a + 256 ^ j * b) (j + k) = leB a j ++ leB b k
  | 0, k, h => by
    simp only [Nat.pow_zero, Nat.lt_one_iff] at h
    subst h
    simp [leB_zero]
  | j + 1, k, h => by
    have h1 : a / 256 < 256 ^ j := by
      rw [Nat.div_lt_iff_lt_mul (by omega)]
      rwa [Nat.pow_succ] at h
    have ih := leB_append (a / 256) b j k h1
    rw [show j + 1 + k = (j + k) + 1 by omega, leB_cons, leB_cons, List.cons_append]
    have e1 : (a + 256 ^ (j + 1) * b) / 256 = a / 256 + 256 ^ j * b := by
      rw [Nat.pow_succ, Nat.mul_comm (256 ^ j) 256, Nat.mul_assoc, Nat.add_mul_div_left _ _ (by omega)]
    rw [e1, ih]
    congr 1
    apply UInt8.toNat_inj.1
    rw [UInt8.toNat_ofNat', UInt8.toNat_ofNat', Nat.pow_succ, Nat.mul_comm (256 ^ j) 256, Nat.mul_assoc]
    omega
/-- A block's number doubled. -/
def dblN (n : Nat) : Nat := (2 * n % 2 ^ 128) ^^^ (if 2 ^ 127 ≤ n then 0x87 else 0)
def dblB (k : List UInt8) : List UInt8 := leB (dblN (leN k)) 16
theorem dblB_len (k : List UInt8) : (dblB k).length = 16 := leB_len _ _
theorem xor_low {a c : Nat} (b : Nat) (hc : c < 2 ^ 64) (ha : a < 2 ^ 64) : (a + 2 ^ 64 * b) ^^^ c = (a ^^^ c) + 2 ^ 64 * b := by
  have hx : a ^^^ c < 2 ^ 64 := Nat.xor_lt_two_pow ha hc
  have h1 : ((a + 2 ^ 64 * b) ^^^ c) % 2 ^ 64 = a ^^^ c := by
    rw [Nat.xor_mod_two_pow, Nat.add_mul_mod_self_left, Nat.mod_eq_of_lt ha, Nat.mod_eq_of_lt hc]
  have h2 : ((a + 2 ^ 64 * b) ^^^ c) / 2 ^ 64 = b := by
    rw [Nat.xor_div_two_pow, Nat.add_mul_div_left _ _ (by omega), Nat.div_eq_of_lt ha, Nat.div_eq_of_lt hc]
    simp
  have := Nat.div_add_mod ((a + 2 ^ 64 * b) ^^^ c) (2 ^ 64)
  rw [h1, h2] at this
  omega
theorem or_one {a b : Nat} (hb : b < 2) : 2 * a ||| b = 2 * a + b := by
  have := Nat.two_pow_add_eq_or_of_lt (i := 1) (b := b) (by omega) a
  rw [Nat.pow_one] at this
  exact this.symm
theorem dbl_halves {lo hi : Nat} (h1 : lo < 2 ^ 64) (h2 : hi < 2 ^ 64) :
    dblN (lo + 2 ^ 64 * hi) = ((2 * lo % 2 ^ 64) ^^^ (0x87 * (hi / 2 ^ 63))) + 2 ^ 64 * ((2 * hi % 2 ^ 64) ||| (lo / 2 ^ 63)) := by
  have e0 : 2 * hi % 2 ^ 64 = 2 * (hi % 2 ^ 63) := by omega
  rw [e0, or_one (by omega)]
  have e1 : 2 * (lo + 2 ^ 64 * hi) % 2 ^ 128 = 2 * lo % 2 ^ 64 + 2 ^ 64 * (2 * (hi % 2 ^ 63) + lo / 2 ^ 63) := by omega
  have e2 : (if 2 ^ 127 ≤ lo + 2 ^ 64 * hi then 0x87 else 0) = 0x87 * (hi / 2 ^ 63) := by
    by_cases h : 2 ^ 127 ≤ lo + 2 ^ 64 * hi
    · rw [if_pos h]; omega
    · rw [if_neg h]; omega
  unfold dblN
  rw [e1, e2]
  exact xor_low _ (by omega) (by omega)
theorem dblB_halves {k : List UInt8} (hk : k.length = 16) :
    dblB k = leB ((2 * leN (k.take 8) % 2 ^ 64) ^^^ (0x87 * (leN (k.drop 8) / 2 ^ 63))) 8 ++ leB ((2 * leN (k.drop 8) % 2 ^ 64) ||| (leN (k.take 8) / 2 ^ 63)) 8 := by
  have h1 := leN_lt (k.take 8)
  have h2 := leN_lt (k.drop 8)
  have l1 : (k.take 8).length = 8 := by simp; omega
  have l2 : (k.drop 8).length = 8 := by simp; omega
  rw [l1] at h1
  rw [l2] at h2
  have e : leN k = leN (k.take 8) + 2 ^ 64 * leN (k.drop 8) := by
    have := leN_append (k.take 8) (k.drop 8)
    rw [List.take_append_drop, l1] at this
    exact this
  unfold dblB
  rw [e, dbl_halves h1 h2]
  have h3 : (2 * leN (k.take 8) % 2 ^ 64) ^^^ (0x87 * (leN (k.drop 8) / 2 ^ 63)) < 2 ^ 64 := Nat.xor_lt_two_pow (by omega) (by omega)
  exact leB_append _ _ 8 8 h3
attribute [irreducible] dblN dblB
end Go.Proofs.Ytkfggilildiflab

namespace Go.Proofs.Ytkfggilildiflab
open Go.ChangeShapes Go.WideShapes Go.ChangeAt Go.RowKit
theorem below_of_same {P : Program} {f : FuncId} {args : Array Value} {v : Value} {w : World} (h : Calls P f args w fun e w' => e = .returned v ∧ w = w') : Calls P f args w fun e w' => e = .returned v ∧ Below w.heap.size w w' :=
  h.mono fun _ _ ⟨he, hw⟩ => ⟨he, hw ▸ Below.refl _ _⟩
theorem bytesAt_blk {w : World} {g o n c : Nat} {cs : Array Value} {t : TypeId} {fr : Nat × Nat} {l : List UInt8} (hg : blk w g = some (.cells cs t fr)) (hn : l.length = n) (hc : n ≤ c) (h : ∀ i x, l[i]? = some x → cs[o + i]? = some (bv x)) : BytesAt w (.slice (some ⟨g, o, none⟩) n c) l := by
  subst hn
  exact ⟨_, c, rfl, hc, (fun h => by cases h), fun _ => ⟨g, o, cs, t, fr, rfl, hg, h⟩⟩
theorem bytesAt_bvs {w : World} {g o n c : Nat} {L : List UInt8} {t : TypeId} {fr : Nat × Nat} (hg : blk w g = some (.cells (bvs L) t fr)) (hL : o + n ≤ L.length) (hc : n ≤ c) : BytesAt w (.slice (some ⟨g, o, none⟩) n c) ((L.drop o).take n) := by
  refine bytesAt_blk hg (by simp; omega) hc fun i x hi => ?_
  simp only [List.getElem?_take, List.getElem?_drop] at hi
  split at hi
  · exact bvs_at hi
  · cases hi
theorem wrap_two (x : Nat) : IntKind.u64.wrap ((x : Int) * 2) = ((2 * x % 2 ^ 64 : Nat) : Int) := by rw [IntKind.wrap_u64]; omega
theorem dbl_lo (lo hi : Nat) (_h1 : lo < 18446744073709551616) (h2 : hi < 18446744073709551616) :
    bits .xor .u64 (IntKind.u64.wrap ((lo : Int) * 2)) (135 * ((hi : Int) / 9223372036854775808)) = ((2 * lo % 2 ^ 64 ^^^ 135 * (hi / 2 ^ 63) : Nat) : Int) := by
  have e : (135 : Int) * ((hi : Int) / 9223372036854775808) = ((135 * (hi / 2 ^ 63) : Nat) : Int) := by simp
  rw [wrap_two, e, u64_xor_nat _ _ (by omega) (by omega)]
theorem dbl_hi (lo hi : Nat) (h1 : lo < 18446744073709551616) (_h2 : hi < 18446744073709551616) :
    bits .or .u64 (IntKind.u64.wrap ((hi : Int) * 2)) ((lo : Int) / 9223372036854775808) = ((2 * hi % 2 ^ 64 ||| lo / 2 ^ 63 : Nat) : Int) := by
  have e : ((lo : Int) / 9223372036854775808) = ((lo / 2 ^ 63 : Nat) : Int) := by simp
  rw [wrap_two, e, u64_or_nat _ _ (by omega) (by omega)]
end Go.Proofs.Ytkfggilildiflab

namespace Go.Proofs.Ytkfggilildiflab
open Go.ChangeShapes Go.WideShapes Go.ChangeAt Go.RowKit
theorem setRow_self {w : World} {g : Nat} {cs : Array Value} {t : TypeId} (h : blk w g = some (.cells cs t (0, 0))) : w.setRow g cs = w := by
  have := put_self h
  rw [← put_is_setRow h]; exact this.symm
theorem run_copy_bytes {P : Program} (w : World) (dT sT ty elem : TypeId) (hu : P.underlying dT = some (.slice elem)) (hs : (P.info? elem).map (·.size) = some 1) {g off dLen dCap : Nat} {cur : Array Value} {t : TypeId} {sv : Value} {L : List UInt8}
    (hg : blk w g = some (.cells cur t (0, 0))) (hS : BytesAt w sv L) (hfit : off + (L.take dLen).length ≤ csz cur) :
    (Builtin.copy_ #[dT, sT] ty #[.slice (some ⟨g, off, none⟩) dLen dCap, sv]).run P w = .ok (.int .i64 ((L.take dLen).length : Int)) (w.setRow g (ovw cur off (L.take dLen))) := by
  obtain ⟨p, c, rfl, hc, h0, h3⟩ := hS
  have hlen : ((L.take dLen).map bv).length = Nat.min L.length dLen := by simp [Nat.min_comm]
  by_cases hz : L.take dLen = []
  · have hmin : Nat.min L.length dLen = 0 := by rw [← hlen, hz]; rfl
    rw [run_copy_none w dT sT ty elem (some ⟨g, off, none⟩) p dLen dCap L.length c hu hs hmin, hz, ovw_nil, setRow_self hg]
    rfl
  · have hne : L ≠ [] := fun e => hz (by rw [e, List.take_nil])
    obtain ⟨b, o, cs, t2, fr, rfl, hb, hx⟩ := h3 hne
    have := run_copy_row (P := P) w dT sT ty elem g off dLen dCap ⟨b, o, none⟩ L.length c cur t ((L.take dLen).map bv) hu hs hg hlen (fun j v hj => by
      rw [add_addr, cell_of_row w b (o + j) cs t2 fr hb]
      simp only [List.getElem?_map, List.getElem?_take] at hj
      split at hj
      · cases hl : L[j]? with
        | none => simp [hl] at hj
        | some x => simp [hl] at hj; subst hj; exact hx j x hl
      · simp at hj) (by rw [List.length_map, ← csz_is]; exact hfit) copy_one'
    rw [this]
    congr 1
    · simp [goInt]
    · congr 1
      unfold ovw
      simp
theorem wp_copy {P : Program} {ops : Array Oper} {rest : List Oper} {o : Oper} {a : Act} {Q : Exit → Act → World → Prop} {w : World} (hgd : o.guard = none) {d s : Operand} {dT sT elem : TypeId} (ho : o.op = .call { callee := .builtin .copy, args := #[d, s], argTypes := #[dT, sT] })
    (hu : P.underlying dT = some (.slice elem)) (hsz : (P.info? elem).map (·.size) = some 1) {g off dLen dCap : Nat} {cur : Array Value} {t : TypeId} {sv : Value} {L : List UInt8} (hd : a.eval d = .slice (some ⟨g, off, none⟩) dLen dCap) (hs : a.eval s = sv)
    (hg : blk w g = some (.cells cur t (0, 0))) (hS : BytesAt w sv L) (hfit : off + (L.take dLen).length ≤ csz cur)
    (h : wpList P ops Q rest (a.put o.dst (.int .i64 ((L.take dLen).length : Int))) (w.setRow g (ovw cur off (L.take dLen)))) : wpList P ops Q (o :: rest) a w := by
  refine wpList_plain hgd fun K hK => ?_
  have hrun := run_copy_bytes (P := P) w dT sT o.type elem hu hsz (dCap := dCap) hg hS hfit
  unfold Oper.wp
  simp [execOp, ho, resolve, invoke, builtin, hd, hs, hrun, Result.andThen]
  exact hK _ _ (by simpa using h)
theorem wpIn_copy {F : Fence} {n : Nat} {P : Program} {ops : Array Oper} {rest : List Oper} {o : Oper} {a : Act} {Q : Exit → Act → World → Prop} {w : World} (hgd : o.guard = none) {d s : Operand} {dT sT elem : TypeId} (ho : o.op = .call { callee := .builtin .copy, args := #[d, s], argTypes := #[dT, sT] })
    (hu : P.underlying dT = some (.slice elem)) (hsz : (P.info? elem).map (·.size) = some 1) {g off dLen dCap : Nat} {cur : Array Value} {t : TypeId} {sv : Value} {L : List UInt8} (hd : a.eval d = .slice (some ⟨g, off, none⟩) dLen dCap) (hs : a.eval s = sv)
    (hg : blk w g = some (.cells cur t (0, 0))) (hS : BytesAt w sv L) (hfit : off + (L.take dLen).length ≤ csz cur)
    (h : wpListIn F n P ops Q rest (a.put o.dst (.int .i64 ((L.take dLen).length : Int))) (w.setRow g (ovw cur off (L.take dLen)))) : wpListIn F n P ops Q (o :: rest) a w := by
  refine wpListIn_plain hgd fun K hK => ?_
  have hrun := run_copy_bytes (P := P) w dT sT o.type elem hu hsz (dCap := dCap) hg hS hfit
  unfold Oper.wpIn
  refine ⟨?_, ?_⟩
  · simp [Oper.about, ho, resolve, Target.leads, Sem.run_pure]
  · rw [Oper.semAt_plain F _ _ (by rw [ho]; intro c hc'; cases hc')]
    simp [execOp, ho, resolve, invoke, builtin, hd, hs, hrun, Result.andThen]
    exact hK _ _ (by simpa using h)
theorem made_noughts (n : Nat) : madeCells (Value.int .u8 0).cells n = bvs (zs n) := by
  apply Array.ext_getElem?
  intro i
  by_cases h : i < n
  · rw [zs_one n i h]
    have : (madeCells (Value.int .u8 0).cells n)[i]? = some ((Value.int .u8 0).cells[i % (Value.int .u8 0).cells.size]!) := by simp [madeCells, h]
    rw [this]
    have e : i % (Value.int .u8 0).cells.size = 0 := by show i % 1 = 0; omega
    rw [e]; rfl
  · rw [Array.getElem?_eq_none (by rw [size_madeCells]; omega), Array.getElem?_eq_none (by rw [bvs_size, zs_len]; omega)]
@[go_sem ↓] theorem run_makeBytes (kl kc : IntKind) (l c : Int) (h0 : 0 ≤ l) (hlc : l ≤ c) (hb : c ≤ 281474976710656) (w : World) :
    (Instr.makeSlice 22 (.int kl l) (.int kc c)).run Try.prog w = .ok (.slice (some ⟨w.heap.size, 0, none⟩) l.toNat c.toNat) (w.alloc (.cells (bvs (zs c.toNat)) 5)) := by
  obtain ⟨ht, i, z, hi, hz, hsz, hby, _⟩ := elemB_iff elem_22
  have hz2 : z = .int .u8 0 := by
    have h : (Try.prog.info? 5).bind (·.zero) = some (.int .u8 0) := by kernel_rfl
    rw [hi] at h
    simpa [hz] using h
  rw [run_make w 22 5 i z ht hi hz kl kc l c h0 hlc (by rw [hby]; omega) (by omega), hsz, Nat.mul_one, hz2, made_noughts]
@[go_sem ↓] theorem run_arrayAt_key (a : Addr) (n c : Nat) (h : 16 ≤ n) (w : World) : (Instr.arrayAt 149 (.slice (some a) n c)).run Try.prog w = .ok (.pointer (some a)) w := by
  have hn : ¬ n < 16 := by omega
  simp [Instr.arrayAt, run_underlying Try.underlying149, hn]
/-- A new block within what has been laid. -/
theorem grow_split {w : World} {g : Laid} {b : Nat} {cs : Array Value} {t : TypeId} (h : w.heap.size ≤ b) (hb : blk (grow w g) b = some (.cells cs t (0, 0))) : ∃ ga gb, grow w g = grow ((grow w ga).alloc (.cells cs t)) gb ∧ b = w.heap.size + ga.n := by
  have hb' : (w.heap ++ g.objs)[b]? = some (.cells cs t (0, 0)) := hb
  rw [Array.getElem?_append, if_neg (by omega)] at hb'
  obtain ⟨hlt, hv⟩ := Array.getElem?_eq_some_iff.1 hb'
  obtain ⟨k, hk⟩ : ∃ k, b = w.heap.size + k := ⟨b - w.heap.size, by omega⟩
  subst hk
  rw [Nat.add_sub_cancel_left] at hb' hlt
  have hm : min k g.objs.size = k := by omega
  refine ⟨⟨g.objs.extract 0 k, 0⟩, ⟨g.objs.extract (k + 1) g.objs.size, g.drawn⟩, ?_, by simp [Laid.n, hm]⟩
  unfold grow World.alloc
  simp only
  congr 1
  apply Array.ext_getElem?
  intro i
  simp only [Array.getElem?_append, Array.getElem?_push, Array.size_push, Array.size_append, Array.size_extract, Array.getElem?_extract, Nat.sub_zero, hm]
  by_cases h1 : i < w.heap.size
  · rw [if_pos h1, if_pos (by omega), if_neg (by omega), if_pos h1]
  · rw [if_neg h1]
    by_cases h2 : i < w.heap.size + k
    · rw [if_pos (by omega), if_neg (by omega), if_neg h1, if_pos (by omega)]
      congr 1; omega
    · by_cases h3 : i = w.heap.size + k
      · subst h3
        rw [if_pos (by omega), if_pos rfl, Nat.add_sub_cancel_left, hb']
      · rw [if_neg (by omega)]
        by_cases h4 : i - w.heap.size < g.objs.size
        · rw [if_pos (by omega)]
          congr 1; omega
        · rw [if_neg (by omega), Array.getElem?_eq_none (by omega)]
theorem bytesAt_whole {w : World} {g n : Nat} {t : TypeId} {fr : Nat × Nat} {L : List UInt8} (h : blk w g = some (.cells (bvs L) t fr)) (hn : L.length = n) : BytesAt w (.slice (some ⟨g, 0, none⟩) n n) L :=
  bytesAt_blk h hn (Nat.le_refl _) fun i x hi => by rw [Nat.zero_add]; exact bvs_at hi
end Go.Proofs.Ytkfggilildiflab

namespace Go.Proofs.Ytkfggilildiflab
open Go.RowKit
abbrev Blk := Nat × Array Value × TypeId
theorem csz_setc (cs : Array Value) (i : Nat) (v : Value) : csz (cs.setIfInBounds i v) = csz cs := by unfold csz; simp
/-- A word on a world that names the cells of one's own blocks, which lie from B on. -/
structure Own (B : Nat) (H : World → List Blk → Prop) : Prop where
  blk : ∀ {w : World} {L : List Blk} (i : Nat) {b : Nat} {cs : Array Value} {t : TypeId}, H w L → L[i]? = some (b, cs, t) → Go.Proofs.Ytkfggilildiflab.blk w b = some (.cells cs t (0, 0))
  call : ∀ {w w' : World} {L : List Blk}, H w L → Below w.heap.size w w' → H w' L
  alloc : ∀ {w : World} {L : List Blk} (cs : Array Value) (t : TypeId), H w L → H (w.alloc (.cells cs t)) ((w.heap.size, cs, t) :: L)
  setRow : ∀ {w : World} {L : List Blk} (i : Nat) {b : Nat} {cs : Array Value} {t : TypeId} (cs' : Array Value), H w L → L[i]? = some (b, cs, t) → H (w.setRow b cs') (L.set i (b, cs', t))
  size : ∀ {w : World} {L : List Blk}, H w L → B ≤ w.heap.size
  add : ∀ {w : World} {L : List Blk} {g : Nat} {cs : Array Value} {t : TypeId}, H w L → B ≤ g → g ∉ L.map (·.1) → Go.Proofs.Ytkfggilildiflab.blk w g = some (.cells cs t (0, 0)) → H w ((g, cs, t) :: L)
  nodup : ∀ {w : World} {L : List Blk}, H w L → (L.map (·.1)).Nodup
  sub : ∀ {w : World} {L L' : List Blk}, H w L → (∀ x ∈ L', x ∈ L) → (L'.map (·.1)).Nodup → H w L'
theorem In.sub {L0 : List Blk} {w0 w : World} {L L' : List Blk} (h : In L0 w0 L w) (hx : ∀ x ∈ L', x ∈ L) (hn : (L'.map (·.1)).Nodup) : In L0 w0 L' w :=
  ⟨⟨⟨fun x hm => by
    obtain ⟨y, hy, rfl⟩ := List.mem_map.1 hm
    exact h.rd.holds.1 _ (List.mem_map.2 ⟨y, hx y hy, rfl⟩), by rw [objs_keys]; exact hn⟩, h.rd.kept, fun x hm => by
    obtain ⟨y, hy, rfl⟩ := List.mem_map.1 hm
    exact h.rd.fresh _ (List.mem_map.2 ⟨y, hx y hy, rfl⟩)⟩⟩
theorem St.add {w0 w : World} {L : List Blk} {g : Nat} {cs : Array Value} {t : TypeId} (h : St w0 w L) (hB : w0.heap.size ≤ g) (hn : g ∉ L.map (·.1)) (hb : Go.Proofs.Ytkfggilildiflab.blk w g = some (.cells cs t (0, 0))) : St w0 w ((g, cs, t) :: L) :=
  ⟨h.1, fun x hx => by
    rcases List.mem_cons.1 hx with rfl | hx
    · exact ⟨hB, hb⟩
    · exact h.2.1 x hx, by simp only [List.map_cons, List.nodup_cons]; exact ⟨hn, h.2.2⟩⟩
theorem In.add {L0 : List Blk} {w0 w : World} {L : List Blk} {g : Nat} {cs : Array Value} {t : TypeId} (h : In L0 w0 L w) (hB : w0.heap.size ≤ g) (hn : g ∉ L.map (·.1)) (hb : Go.Proofs.Ytkfggilildiflab.blk w g = some (.cells cs t (0, 0))) : In L0 w0 ((g, cs, t) :: L) w := by
  refine ⟨⟨⟨fun x hx => ?_, ?_⟩, h.rd.kept, fun x hx => ?_⟩⟩
  · rcases List.mem_cons.1 hx with rfl | hx
    · exact hb
    · exact h.rd.holds.1 x hx
  · have := h.rd.holds.2
    rw [objs_keys] at this ⊢
    simp only [List.map_cons, List.nodup_cons]
    exact ⟨hn, this⟩
  · rcases List.mem_cons.1 hx with rfl | hx
    · exact .inr hB
    · exact h.rd.fresh x hx
theorem own_st {w0 : World} : Own w0.heap.size (St w0) := ⟨fun i _ _ _ h hi => h.blk i hi, fun h hb => h.call hb, fun cs t h => h.alloc cs t, fun i _ _ _ cs' h hi => h.setRow i hi cs', fun h => h.1.size, fun h hB hn hb => h.add hB hn hb, fun h => h.2.2, fun h hx hn => ⟨h.1, fun x hm => h.2.1 x (hx x hm), hn⟩⟩
theorem own_in {L0 : List Blk} {w0 : World} : Own w0.heap.size (fun w L => In L0 w0 L w) := ⟨fun i _ _ _ h hi => (h.at i hi).1, fun h hb => h.call hb, fun cs t h => h.alloc cs t, fun i _ _ _ cs' h hi => h.setRow i hi cs', fun h => h.rd.kept.size, fun h hB hn hb => h.add hB hn hb, fun h => by have := h.rd.holds.2; rwa [objs_keys] at this, fun h hx hn => h.sub hx hn⟩
theorem Own.setCell {B : Nat} {H : World → List Blk → Prop} (hH : Own B H) {w : World} {L : List Blk} (i : Nat) {b : Nat} {cs : Array Value} {t : TypeId} (o : Nat) (v : Value) (h : H w L) (hi : L[i]? = some (b, cs, t)) : H (w.setCell ⟨b, o, none⟩ v) (L.set i (b, cs.setIfInBounds o v, t)) := by
  rw [setCell_eq_setRow w b o cs t (0, 0) v (hH.blk i h hi)]
  exact hH.setRow i _ h hi
theorem Own.lt {B : Nat} {H : World → List Blk → Prop} (hH : Own B H) {w : World} {L : List Blk} (h : H w L) {b : Nat} (hb : b ∈ L.map (·.1)) : b < w.heap.size := by
  obtain ⟨x, hx, rfl⟩ := List.mem_map.1 hb
  obtain ⟨i, hi, rfl⟩ := List.getElem_of_mem hx
  exact blk_lt (hH.blk i h (b := L[i].1) (cs := L[i].2.1) (t := L[i].2.2) (List.getElem?_eq_getElem hi))
theorem Own.new {B : Nat} {H : World → List Blk → Prop} (hH : Own B H) {w w' : World} {L : List Blk} (h : H w L) (hb : Below w.heap.size w w') {g : Nat} {cs : Array Value} {t : TypeId} (hg : w.heap.size ≤ g) (hc : Go.Proofs.Ytkfggilildiflab.blk w' g = some (.cells cs t (0, 0))) : H w' ((g, cs, t) :: L) :=
  hH.add (hH.call h hb) (Nat.le_trans (hH.size h) hg) (fun hm => by have := hH.lt h hm; omega) hc
theorem Own.news {B : Nat} {H : World → List Blk → Prop} (hH : Own B H) {W w' : World} {L : List Blk} {b : Nat → Nat} (h : H W L) (hc : Cls W w') : ∀ (F : List Fact), (F.map (·.1)).Nodup → (∀ x ∈ F, W.heap.size ≤ b x.1 ∧ Go.Proofs.Ytkfggilildiflab.blk w' (b x.1) = some (.cells x.2.1 x.2.2 (0, 0))) →
    (∀ x ∈ F, ∀ y ∈ F, x.1 ≠ y.1 → b x.1 ≠ b y.1) → H w' (F.map (fun x => (b x.1, x.2.1, x.2.2)) ++ L)
  | [], _, _, _ => hH.call h hc
  | f :: F, hd, hF, hN => by
    simp only [List.map_cons, List.nodup_cons] at hd
    have h1 := Own.news hH h hc F hd.2 (fun x hx => hF x (List.mem_cons_of_mem _ hx)) (fun x hx y hy => hN x (List.mem_cons_of_mem _ hx) y (List.mem_cons_of_mem _ hy))
    have hf := hF f (List.mem_cons_self ..)
    refine hH.add h1 (Nat.le_trans (hH.size h) hf.1) (fun hm => ?_) hf.2
    replace hm : b f.1 ∈ (F.map (fun x => (b x.1, x.2.1, x.2.2)) ++ L).map (·.1) := hm
    rw [List.map_append, List.mem_append] at hm
    rcases hm with hm | hm
    · simp only [List.map_map, List.mem_map, Function.comp] at hm
      obtain ⟨y, hy, he⟩ := hm
      by_cases h2 : y.1 = f.1
      · exact hd.1 (List.mem_map.2 ⟨y, hy, h2⟩)
      · exact hN y (List.mem_cons_of_mem _ hy) f (List.mem_cons_self ..) h2 he
    · have := hH.lt h hm
      omega
theorem front_perm {α : Type} : ∀ (L : List α) (i : Nat) (h : i < L.length), (L[i] :: L.eraseIdx i).Perm L
  | x :: L, 0, _ => .refl _
  | x :: L, i + 1, h => (List.Perm.swap x _ _).trans (.cons x (front_perm L i (by simpa using h)))
theorem Own.front {B : Nat} {H : World → List Blk → Prop} (hH : Own B H) {w : World} {L : List Blk} (h : H w L) {i : Nat} {x : Blk} (hi : L[i]? = some x) : H w (x :: L.eraseIdx i) := by
  obtain ⟨hl, rfl⟩ := List.getElem?_eq_some_iff.1 hi
  have hp := front_perm L i hl
  exact hH.sub h (fun y hy => hp.mem_iff.1 hy) ((hp.map (·.1)).nodup_iff.2 (hH.nodup h))
theorem Own.drop {B : Nat} {H : World → List Blk → Prop} (hH : Own B H) {w : World} {x : Blk} {L : List Blk} (h : H w (x :: L)) : H w L :=
  hH.sub h (fun y hy => List.mem_cons_of_mem _ hy) (List.nodup_cons.1 (by simpa using hH.nodup h)).2
theorem at_ {L : List Blk} (i : Nat) {x : Blk} (h : L[i]? = some x) : L[i]? = some x := h
def oneT (P : Program) (t : TypeId) : Bool := match P.underlying t with | none => false | some (.struct _) => false | some (.array _ _) => false | some _ => true
def elT (P : Program) (t : TypeId) : Option Nat := match P.underlying t with | some (.slice e) => (P.info? e).map (·.size) | _ => none
def arT (P : Program) (t : TypeId) : Option (Nat × Nat) := match P.underlying t with | some (.array n e) => ((P.info? e).map (·.size)).map fun m => (n, m) | _ => none
def zeroT (P : Program) (t : TypeId) : Option (Array Value) := ((P.info? t).bind (·.zero)).map (·.cells)
def isGo (P : Program) (f : FuncId) : Bool := match P.funcs[f]? with | some fn => fn.name != "runtime.NumGoroutine" && fn.body.isSome | none => false
/-! ### What is known of types: found by their numbers -/
class ElT (P : Program) (t : TypeId) (m : outParam Nat) : Prop where
  is : elT P t = some m
class ArT (P : Program) (t : TypeId) (n m : outParam Nat) : Prop where
  is : arT P t = some (n, m)
class OneT (P : Program) (t : TypeId) : Prop where
  is : oneT P t = true
  sz : (P.info? t).map (·.size) = some 1
class RowT (P : Program) (t : TypeId) (n : outParam Nat) : Prop where
  is : isRow P t n = true
  sz : (P.info? t).map (·.size) = some n
class ZeroT (P : Program) (t : TypeId) (cs : outParam (Array Value)) : Prop where
  is : zeroT P t = some cs
/-- A field of a struct type: where it lies, how many cells it has (if any), and whether it is one cell. -/
def fldT (P : Program) (s k : Nat) : Option (Nat × Nat × Nat) := match P.underlying s with
  | some (.struct fs) => (match fs[k]? with | some f => (match P.info? f.type with | some i => (if i.size = 0 then none else some (f.offset, i.size, f.type)) | none => none) | none => none)
  | _ => none
class FldT (P : Program) (s k : Nat) (off n : outParam Nat) : Prop where
  is : ∃ t, fldT P s k = some (off, n, t)
class FldV (P : Program) (s k : Nat) (off n : outParam Nat) (one : outParam Bool) : Prop where
  is : ∃ t, fldT P s k = some (off, n, t) ∧ (if one then oneT P t = true ∧ n = 1 else isRow P t n = true)
class IfaceT (P : Program) (t : TypeId) : Prop where
  is : (match P.underlying t with | some (.interface _) => false | none => false | some _ => true) = true
class IfT (P : Program) (t : TypeId) : Prop where
  is : P.underlying t = some (.interface (P.methodsAt t))
/-- A slice type, its elements: their type, how many cells and bytes. -/
class SlT (P : Program) (t : TypeId) (e size bytes : outParam Nat) : Prop where
  is : elemB P t e size bytes = true
class IntT (P : Program) (t : TypeId) (k : outParam IntKind) : Prop where
  is : P.underlying t = some (.int k)
class GoF (P : Program) (f : FuncId) : Prop where
  is : isGo P f = true
/-! ### Operands -/
def evO (a : Act) : Operand → Option Value
  | .tmp t => a.tmps.toList[t]?
  | .const v => some v
  | .global g => some (.pointer (some ⟨g, 0, none⟩))
  | .func f => some (.func (.func f) #[] #[])
theorem evO_eval {a : Act} {x : Operand} {v : Value} (h : evO a x = some v) : a.eval x = v := by
  cases x with
  | tmp t =>
    simp only [evO, Array.getElem?_toList] at h
    simp only [Act.eval, Array.getD_eq_getD_getElem?, h, Option.getD_some]
  | const v' => simp only [evO, Option.some.injEq] at h; exact h
  | global g => simp only [evO, Option.some.injEq] at h; exact h
  | func f => simp only [evO, Option.some.injEq] at h; exact h
def evs (a : Act) : List Operand → Option (List Value)
  | [] => some []
  | x :: l => match evO a x, evs a l with
    | some v, some vs => some (v :: vs)
    | _, _ => none
theorem evs_eval {a : Act} : ∀ {l : List Operand} {vs : List Value}, evs a l = some vs → l.map a.eval = vs
  | [], vs, h => by simp only [evs, Option.some.injEq] at h; exact h
  | x :: l, vs, h => by
    simp only [evs] at h
    split at h
    · rename_i v vs' h1 h2
      simp only [Option.some.injEq] at h
      subst h
      simp only [List.map_cons, evO_eval h1, evs_eval h2]
    · cases h

/-! ### Steps -/
def isDefer (o : Oper) : Bool := match o.op with | .defer _ => true | _ => false
theorem noDefer_of {o : Oper} (h : isDefer o = false) : ∀ c, o.op ≠ .defer c := fun c e => by simp [isDefer, e] at h
structure Stp (P : Program) (ops : Array Oper) (W : List Oper → Act → World → Prop) : Prop where
  go : ∀ {o : Oper} {rest : List Oper} {a : Act} {w w' : World} {v : Value}, Region.wanted o (yielded ops a.tmps) = true → isDefer o = false → (execOp a.eval o).run P w = .ok (.value v) w' → W rest (a.put o.dst v) w' → W (o :: rest) a w
  mute : ∀ {o : Oper} {rest : List Oper} {a : Act} {w w' : World}, Region.wanted o (yielded ops a.tmps) = true → isDefer o = false → (execOp a.eval o).run P w = .ok .skip w' → W rest (a.put o.dst undef) w' → W (o :: rest) a w
  enter : ∀ {o : Oper} {rest : List Oper} {a : Act} {w w' : World} {f : FuncId} {args : Array Value} {R : Value → World → Prop}, Region.wanted o (yielded ops a.tmps) = true → isDefer o = false → (execOp a.eval o).run P w = .ok (.enter f args) w' →
    Calls P f args w' (fun e w'' => ∃ v, e = .returned v ∧ R v w'') → (∀ v w'', R v w'' → W rest (a.put o.dst v) w'') → W (o :: rest) a w
  skip : ∀ {o : Oper} {rest : List Oper} {a : Act} {w : World}, Region.wanted o (yielded ops a.tmps) = false → W rest (a.put o.dst undef) w → W (o :: rest) a w
theorem stp_list {P : Program} {ops : Array Oper} {Q : Exit → Act → World → Prop} : Stp P ops (wpList P ops Q) where
  go := fun hw _ hr hk => by
    unfold wpList
    rw [if_pos hw]
    refine .inl ?_
    unfold Oper.wp
    rw [hr]
    exact hk
  mute := fun hw _ hr hk => by
    unfold wpList
    rw [if_pos hw]
    refine .inl ?_
    unfold Oper.wp
    rw [hr]
    exact hk
  enter := fun hw _ hr hc hk => by
    unfold wpList
    rw [if_pos hw]
    refine .inl ?_
    unfold Oper.wp
    rw [hr, Oper.upon_enter]
    refine hc.mono ?_
    rintro e w'' ⟨v, rfl, hR⟩
    exact hk v w'' hR
  skip := fun hw hk => wpList_skip hw hk
theorem stp_in {P : Program} {ops : Array Oper} {Q : Exit → Act → World → Prop} {lp : Nat} : Stp P ops (wpListIn (Fence.wide.inRound lp) 0 P ops Q) where
  go := fun hw hd hr hk => by
    unfold wpListIn
    rw [if_pos hw]
    unfold Oper.wpIn
    refine ⟨fun _ _ => trivial, ?_⟩
    rw [Oper.semAt_plain _ _ _ (noDefer_of hd), hr, Oper.uponIn_value]
    exact hk
  mute := fun hw hd hr hk => by
    unfold wpListIn
    rw [if_pos hw]
    unfold Oper.wpIn
    refine ⟨fun _ _ => trivial, ?_⟩
    rw [Oper.semAt_plain _ _ _ (noDefer_of hd), hr, Oper.uponIn_skip]
    exact hk
  enter := fun hw hd hr hc hk => by
    unfold wpListIn
    rw [if_pos hw]
    unfold Oper.wpIn
    refine ⟨fun _ _ => trivial, ?_⟩
    rw [Oper.semAt_plain _ _ _ (noDefer_of hd), hr, Oper.uponIn_enter]
    refine ⟨fun h => (by cases h), ?_⟩
    refine (CallsIn.inRound lp (callsIn_wide.2 hc)).mono ?_
    rintro e w'' ⟨v, rfl, hR⟩
    exact hk v w'' hR
  skip := fun hw hk => by
    unfold wpListIn
    rw [if_neg (by rw [hw]; decide)]
    exact ⟨fun _ _ => trivial, hk⟩

theorem wpIn_scope_wide {P : Program} {n : Nat} {Q : Exit → Act → World → Prop} {a : Act} {w : World} {c : Code} (h : c.wpIn Fence.wide n P (Exit.noGoto Q) a w) : (Code.scope c).wpIn Fence.wide n P Q a w := wpIn_wide.2 (wp_scope_straight (wpIn_wide.1 h))
theorem stp_wide {P : Program} {ops : Array Oper} {Q : Exit → Act → World → Prop} {n : Nat} : Stp P ops (wpListIn Fence.wide n P ops Q) where
  go := fun hw hd hr hk => by
    unfold wpListIn
    rw [if_pos hw]
    unfold Oper.wpIn
    refine ⟨fun _ _ => trivial, ?_⟩
    rw [Oper.semAt_plain _ _ _ (noDefer_of hd), hr, Oper.uponIn_value]
    exact hk
  mute := fun hw hd hr hk => by
    unfold wpListIn
    rw [if_pos hw]
    unfold Oper.wpIn
    refine ⟨fun _ _ => trivial, ?_⟩
    rw [Oper.semAt_plain _ _ _ (noDefer_of hd), hr, Oper.uponIn_skip]
    exact hk
  enter := fun hw hd hr hc hk => by
    unfold wpListIn
    rw [if_pos hw]
    unfold Oper.wpIn
    refine ⟨fun _ _ => trivial, ?_⟩
    rw [Oper.semAt_plain _ _ _ (noDefer_of hd), hr, Oper.uponIn_enter]
    refine ⟨fun h => (by cases h), ?_⟩
    refine (callsIn_wide.2 hc).mono ?_
    rintro e w'' ⟨v, rfl, hR⟩
    exact hk v w'' hR
  skip := fun hw hk => by
    unfold wpListIn
    rw [if_neg (by rw [hw]; decide)]
    exact ⟨fun _ _ => trivial, hk⟩

section
variable {P : Program} {ops : Array Oper} {W : List Oper → Act → World → Prop} {o : Oper} {rest : List Oper} {a : Act} {w w' : World} {v : Value} {B : Nat} {H : World → List Blk → Prop} {L : List Blk}
/-! ### What an operation yields -/
theorem r_move {x : Operand} (hop : o.op = .move x) (hx : evO a x = some v) : (execOp a.eval o).run P w = .ok (.value v) w := by
  unfold execOp; rw [hop]; simp only [evO_eval hx]; rfl
theorem r_assign {x : Operand} (hop : o.op = .assign x) (hx : evO a x = some v) : (execOp a.eval o).run P w = .ok (.value v) w := by
  unfold execOp; rw [hop]; simp only [evO_eval hx]; rfl
theorem r_pick {c x y : Operand} {b : Bool} (hop : o.op = .pick c x y) (hc : evO a c = some (.bool b)) (hv : (if b then evO a x else evO a y) = some v) : (execOp a.eval o).run P w = .ok (.value v) w := by
  unfold execOp; rw [hop]
  cases b
  · simp only [Bool.false_eq_true, if_false] at hv
    simp [evO_eval hc, evO_eval hv, asBool]
  · simp only [if_true] at hv
    simp [evO_eval hc, evO_eval hv, asBool]
theorem r_not {t : TypeId} {x : Operand} {b c : Bool} (hop : o.op = .unOp .not t x) (hx : evO a x = some (.bool b)) (hc : (!b) = c) : (execOp a.eval o).run P w = .ok (.value (.bool c)) w := by
  unfold execOp; rw [hop]; simp only [evO_eval hx, ← hc]; rfl
theorem r_extract {x : Operand} {k : Nat} {vs : Array Value} (hop : o.op = .extract x k) (hx : evO a x = some (.tuple vs)) (hv : vs.toList[k]? = some v) : (execOp a.eval o).run P w = .ok (.value v) w := by
  unfold execOp; rw [hop]
  rw [Array.getElem?_toList] at hv
  simp [evO_eval hx, Instr.extract, hv]
theorem run_isAgg {t : TypeId} (h : oneT P t = true) : (isAgg t).run P w = .ok false w := by
  unfold oneT at h
  cases hu : P.underlying t with
  | none => simp [hu] at h
  | some d =>
    unfold isAgg
    rw [Sem.run_bind, run_underlying hu]
    cases d <;> simp_all
theorem run_load1 {t : TypeId} {b off : Nat} {cs : Array Value} {ty : TypeId} {fr : Nat × Nat} (h1 : oneT P t = true) (hb : blk w b = some (.cells cs ty fr)) (hv : cs[off]? = some v) : (Instr.loadAt t (.pointer (some ⟨b, off, none⟩))).run P w = .ok v w := by
  have hc : w.cell? ⟨b, off, none⟩ = some v := (cell_of_row w b off cs ty fr hb).trans hv
  unfold Instr.loadAt Instr.sureAddr loadVar
  simp [Sem.run_bind, run_isAgg h1, hc]
theorem r_load1 {t : TypeId} {x : Operand} {b off : Nat} {cs : Array Value} {ty : TypeId} {fr : Nat × Nat} (hop : o.op = .load t x) (hx : evO a x = some (.pointer (some ⟨b, off, none⟩))) (h1 : OneT P t) (hb : blk w b = some (.cells cs ty fr)) (hv : cs.toList[off]? = some v) : (execOp a.eval o).run P w = .ok (.value v) w := by
  unfold execOp; rw [hop]
  simp only [evO_eval hx, Sem.run_bind, run_load1 h1.is hb (by rw [← Array.getElem?_toList]; exact hv)]
  rfl
theorem r_loadR {t : TypeId} {x : Operand} {n b off : Nat} {cs vs : Array Value} {ty : TypeId} {fr : Nat × Nat} (hop : o.op = .load t x) (hx : evO a x = some (.pointer (some ⟨b, off, none⟩))) (h1 : RowT P t n) (hb : blk w b = some (.cells cs ty fr)) (hn : off + n ≤ csz cs) (hv : cut cs off n = vs) : (execOp a.eval o).run P w = .ok (.value (.agg vs)) w := by
  unfold execOp; rw [hop]
  have hl : (loadVar t ⟨b, off, none⟩).run P w = .ok (.agg vs) w := by
    have := run_loadVarR h1.is b off w
    unfold loadVarR at this
    rw [if_pos rfl] at this
    rw [this]
    unfold loadedR
    rw [hb]
    simp only
    rw [if_pos hn, hv]
  simp only [evO_eval hx, Sem.run_bind, Instr.loadAt, Instr.sureAddr, Sem.run_pure, Result.andThen_ok, hl]
theorem elT_iff {t : TypeId} {m : Nat} (h : elT P t = some m) : ∃ e, P.underlying t = some (.slice e) ∧ (P.info? e).map (·.size) = some m := by
  unfold elT at h
  cases hu : P.underlying t with
  | none => simp [hu] at h
  | some d =>
    cases d <;> simp [hu] at h
    exact ⟨_, rfl, by simpa using h⟩
theorem addr_add (b off k : Nat) : (⟨b, off, none⟩ : Addr).add k = ⟨b, off + k, none⟩ := by unfold Addr.add; split <;> simp_all
theorem r_indexAddr {t : TypeId} {x y : Operand} {m b off n c q : Nat} {k : IntKind} {i : Int} (hop : o.op = .indexAddr t x y) (hx : evO a x = some (.slice (some ⟨b, off, none⟩) n c)) (hy : evO a y = some (.int k i)) (hm : ElT P t m) (h0 : 0 ≤ i ∧ i < (n : Int)) (hq : off + i.toNat * m = q) :
    (execOp a.eval o).run P w = .ok (.value (.pointer (some ⟨b, q, none⟩))) w := by
  obtain ⟨e, hu, hs⟩ := elT_iff hm.is
  unfold execOp; rw [hop]
  simp [evO_eval hx, evO_eval hy, Instr.indexAt, asIntOf, Sem.run_bind, run_underlying hu, h0.1, h0.2, run_sizeOf hs, addr_add, hq]
theorem arT_iff {t : TypeId} {n m : Nat} (h : arT P t = some (n, m)) : ∃ e, P.underlying t = some (.array n e) ∧ (P.info? e).map (·.size) = some m := by
  unfold arT at h
  cases hu : P.underlying t with
  | none => simp [hu] at h
  | some d =>
    cases d <;> simp [hu] at h
    obtain ⟨i, h1, h2, h3⟩ := h
    subst h2
    exact ⟨_, rfl, by rw [h1]; simp [h3]⟩
theorem r_indexAddrA {t : TypeId} {x y : Operand} {m b off n q : Nat} {k : IntKind} {i : Int} (hop : o.op = .indexAddr t x y) (hx : evO a x = some (.pointer (some ⟨b, off, none⟩))) (hy : evO a y = some (.int k i)) (hm : ArT P t n m) (h0 : 0 ≤ i ∧ i < (n : Int)) (hq : off + i.toNat * m = q) :
    (execOp a.eval o).run P w = .ok (.value (.pointer (some ⟨b, q, none⟩))) w := by
  obtain ⟨e, hu, hs⟩ := arT_iff hm.is
  unfold execOp; rw [hop]
  simp [evO_eval hx, evO_eval hy, Instr.indexAt, Instr.sureAddr, asIntOf, Sem.run_bind, run_underlying hu, h0.1, h0.2, run_sizeOf hs, addr_add, hq]

/-! ### Numbers -/
/-- A number within its kind's bounds is as it is. -/
def fits (k : IntKind) (n : Int) : Prop := k.wrap n = n
theorem fits_i64 {n : Int} (h : -9223372036854775808 ≤ n ∧ n ≤ 9223372036854775807) : fits .i64 n := IntWalk.i64_in n h
theorem r_add {t t' : TypeId} {x y : Operand} {k : IntKind} {m n q : Int} (hop : o.op = .binOp .add t x y t') (hx : evO a x = some (.int k m)) (hy : evO a y = some (.int k n)) (hf : fits k (m + n)) (hq : m + n = q) : (execOp a.eval o).run P w = .ok (.value (.int k q)) w := by
  unfold execOp; rw [hop]; subst hq
  simp [evO_eval hx, evO_eval hy, eqGuard, binOp, Op.intArith, show k.wrap (m + n) = m + n from hf]
theorem r_sub {t t' : TypeId} {x y : Operand} {k : IntKind} {m n q : Int} (hop : o.op = .binOp .sub t x y t') (hx : evO a x = some (.int k m)) (hy : evO a y = some (.int k n)) (hf : fits k (m - n)) (hq : m - n = q) : (execOp a.eval o).run P w = .ok (.value (.int k q)) w := by
  unfold execOp; rw [hop]; subst hq
  simp [evO_eval hx, evO_eval hy, eqGuard, binOp, Op.intArith, show k.wrap (m - n) = m - n from hf]
theorem r_mul {t t' : TypeId} {x y : Operand} {k : IntKind} {m n q : Int} (hop : o.op = .binOp .mul t x y t') (hx : evO a x = some (.int k m)) (hy : evO a y = some (.int k n)) (hf : fits k (m * n)) (hq : m * n = q) : (execOp a.eval o).run P w = .ok (.value (.int k q)) w := by
  unfold execOp; rw [hop]; subst hq
  simp [evO_eval hx, evO_eval hy, eqGuard, binOp, Op.intArith, show k.wrap (m * n) = m * n from hf]
theorem r_quo {t t' : TypeId} {x y : Operand} {k : IntKind} {m n q : Int} (hop : o.op = .binOp .quo t x y t') (hx : evO a x = some (.int k m)) (hy : evO a y = some (.int k n)) (h0 : 0 ≤ m ∧ 0 < n) (hf : fits k (m / n)) (hq : m / n = q) : (execOp a.eval o).run P w = .ok (.value (.int k q)) w := by
  unfold execOp; rw [hop]; subst hq
  have h1 : ¬ n = 0 := by omega
  have h2 : m.tdiv n = m / n := Int.tdiv_eq_ediv_of_nonneg h0.1
  simp [evO_eval hx, evO_eval hy, eqGuard, binOp, Op.intDiv, h1, h2, show k.wrap (m / n) = m / n from hf]
theorem r_rem {t t' : TypeId} {x y : Operand} {k : IntKind} {m n q : Int} (hop : o.op = .binOp .rem t x y t') (hx : evO a x = some (.int k m)) (hy : evO a y = some (.int k n)) (h0 : 0 ≤ m ∧ 0 < n) (hq : m % n = q) : (execOp a.eval o).run P w = .ok (.value (.int k q)) w := by
  unfold execOp; rw [hop]; subst hq
  have h1 : ¬ n = 0 := by omega
  have h2 : m.tmod n = m % n := Int.tmod_eq_emod_of_nonneg h0.1
  simp [evO_eval hx, evO_eval hy, eqGuard, binOp, Op.intDiv, h1, h2]
/-- Comparisons: what they ask. -/
def cmpP : BinOp → Int → Int → Option Prop
  | .lss, x, y => some (x < y)
  | .leq, x, y => some (x ≤ y)
  | .gtr, x, y => some (y < x)
  | .geq, x, y => some (y ≤ x)
  | .eql, x, y => some (x = y)
  | .neq, x, y => some (¬ x = y)
  | _, _, _ => none
theorem r_cmp {p : BinOp} {t t' : TypeId} {x y : Operand} {k : IntKind} {m n : Int} {b : Bool} {A : Prop} (hop : o.op = .binOp p t x y t') (hx : evO a x = some (.int k m)) (hy : evO a y = some (.int k n)) (hp : cmpP p m n = some A) (hb : b = true ↔ A) : (execOp a.eval o).run P w = .ok (.value (.bool b)) w := by
  unfold execOp; rw [hop]
  have e : ∀ c : Bool, (c = true ↔ A) → c = b := fun c hc => by
    cases b <;> cases c <;> simp_all
  cases p <;> simp only [cmpP, Option.some.injEq, reduceCtorEq] at hp <;> subst hp <;>
    (simp only [evO_eval hx, evO_eval hy, Sem.run_bind, eqGuard, binOp, Op.intCmp]; simp; refine e _ ?_; simp)
theorem r_cmp_t {p : BinOp} {t t' : TypeId} {x y : Operand} {k : IntKind} {m n : Int} {A : Prop} (hop : o.op = .binOp p t x y t') (hx : evO a x = some (.int k m)) (hy : evO a y = some (.int k n)) (hp : cmpP p m n = some A) (hA : A) : (execOp a.eval o).run P w = .ok (.value (.bool true)) w := r_cmp hop hx hy hp (by simp [hA])
theorem r_cmp_f {p : BinOp} {t t' : TypeId} {x y : Operand} {k : IntKind} {m n : Int} {A : Prop} (hop : o.op = .binOp p t x y t') (hx : evO a x = some (.int k m)) (hy : evO a y = some (.int k n)) (hp : cmpP p m n = some A) (hA : ¬ A) : (execOp a.eval o).run P w = .ok (.value (.bool false)) w := r_cmp hop hx hy hp (by simp [hA])
theorem s_cmp {p : BinOp} {t t' : TypeId} {x y : Operand} {k : IntKind} {m n : Int} {A : Prop} (hs : Stp P ops W) (hw : Region.wanted o (yielded ops a.tmps) = true) (hop : o.op = .binOp p t x y t') (hx : evO a x = some (.int k m)) (hy : evO a y = some (.int k n)) (hp : cmpP p m n = some A)
    (ht : A → W rest (a.put o.dst (.bool true)) w) (hf : ¬ A → W rest (a.put o.dst (.bool false)) w) : W (o :: rest) a w := by
  have hd : isDefer o = false := by unfold isDefer; rw [hop]
  by_cases hA : A
  · exact hs.go hw hd (r_cmp_t hop hx hy hp hA) (ht hA)
  · exact hs.go hw hd (r_cmp_f hop hx hy hp hA) (hf hA)

/-! ### Slices -/
theorem r_len {x : Operand} {t : TypeId} {p : Option Addr} {n c m : Nat} (hop : o.op = .call { callee := .builtin .len, args := #[x], argTypes := #[t] }) (hx : evO a x = some (.slice p n c)) (hm : ElT P t m) : (execOp a.eval o).run P w = .ok (.value (.int .i64 (n : Int))) w := by
  obtain ⟨e, hu, hs⟩ := elT_iff hm.is
  unfold execOp; rw [hop]
  simp [evO_eval hx, resolve, invoke, builtin, Builtin.len_, Sem.run_bind, run_underlying hu, goInt]
theorem r_cap {x : Operand} {t : TypeId} {p : Option Addr} {n c m : Nat} (hop : o.op = .call { callee := .builtin .cap, args := #[x], argTypes := #[t] }) (hx : evO a x = some (.slice p n c)) (hm : ElT P t m) : (execOp a.eval o).run P w = .ok (.value (.int .i64 (c : Int))) w := by
  obtain ⟨e, hu, hs⟩ := elT_iff hm.is
  unfold execOp; rw [hop]
  simp [evO_eval hx, resolve, invoke, builtin, Builtin.cap_, Sem.run_bind, run_underlying hu, goInt]
/-- A bound of a slice expression: none is d. -/
def bnd (a : Act) (d : Int) : Option Operand → Option Int
  | none => some d
  | some x => match evO a x with | some (.int _ i) => some i | _ => none
theorem run_sliceBound {k : IntKind} {i : Int} {y : Nat} {c : BoundsCode} (h : 0 ≤ i ∧ i ≤ (y : Int)) : (Instr.sliceBound (.int k i) y c).run P w = .ok i.toNat w := by
  simp [Instr.sliceBound, asIntOf, h.1, h.2]
theorem run_bounds {isS : Bool} {n c : Nat} {lo hi : Option Operand} {l h : Int} (hl : bnd a 0 lo = some l) (hh : bnd a n hi = some h) (h0 : 0 ≤ l ∧ l ≤ h ∧ h ≤ (c : Int)) :
    (Instr.sliceBounds isS n c (lo.map a.eval) (hi.map a.eval) none).run P w = .ok (l.toNat, h.toNat, c) w := by
  have e1 : ∀ {c' : BoundsCode} {d : Int} {x : Operand} {i : Int} {y : Nat}, bnd a d (some x) = some i → 0 ≤ i ∧ i ≤ (y : Int) → (Instr.sliceBound (a.eval x) y c').run P w = .ok i.toNat w := fun hx hi => by
    simp only [bnd] at hx
    split at hx
    · rename_i k j hj
      simp only [Option.some.injEq] at hx
      subst hx
      rw [evO_eval hj]
      exact run_sliceBound hi
    · cases hx
  have hh' : h = (h.toNat : Int) := by omega
  unfold Instr.sliceBounds
  cases lo with
  | none =>
    simp only [bnd, Option.some.injEq] at hl
    subst hl
    cases hi with
    | none =>
      simp only [bnd, Option.some.injEq] at hh
      subst hh
      simp
    | some y => simp [e1 hh ⟨by omega, h0.2.2⟩]
  | some x =>
    cases hi with
    | none =>
      simp only [bnd, Option.some.injEq] at hh
      subst hh
      simp [e1 hl ⟨h0.1, h0.2.1⟩]
    | some y =>
      have := e1 (c' := .sliceB) (y := h.toNat) hl ⟨h0.1, by omega⟩
      simp [Sem.run_bind, e1 hh ⟨by omega, h0.2.2⟩, this]
theorem r_slice {t : TypeId} {x : Operand} {lo hi : Option Operand} {b off n c m q n' c' : Nat} {l h : Int} (hop : o.op = .slice t x lo hi none) (hx : evO a x = some (.slice (some ⟨b, off, none⟩) n c)) (hm : ElT P t m) (hl : bnd a 0 lo = some l) (hh : bnd a n hi = some h) (h0 : 0 ≤ l ∧ l ≤ h ∧ h ≤ (c : Int) ∧ (l < (c : Int) ∨ l = 0))
    (hq : off + l.toNat * m = q) (hn : h.toNat - l.toNat = n') (hc : c - l.toNat = c') : (execOp a.eval o).run P w = .ok (.value (.slice (some ⟨b, q, none⟩) n' c')) w := by
  obtain ⟨e, hu, hs⟩ := elT_iff hm.is
  unfold execOp; rw [hop]
  have hb := run_bounds (P := P) (w := w) (isS := true) hl hh ⟨h0.1, h0.2.1, h0.2.2.1⟩
  have e1 : (if c = l.toNat then some (⟨b, off, none⟩ : Addr) else Option.map (fun x : Addr => x.add (l.toNat * m)) (some ⟨b, off, none⟩)) = some ⟨b, off + l.toNat * m, none⟩ := by
    by_cases hcl : c = l.toNat
    · have : l = 0 := by omega
      subst this
      simp only [Int.toNat_zero] at hcl ⊢
      rw [if_pos hcl, Nat.zero_mul, Nat.add_zero]
    · rw [if_neg hcl]
      simp [addr_add]
  simp only [Option.map_none]
  simp only [evO_eval hx, Instr.sliceAt, Instr.slice, Sem.run_bind, run_underlying hu, Result.andThen_ok, hb, run_sizeOf hs, e1, hq, hn, hc]
  rfl
theorem r_sliceA {t : TypeId} {x : Operand} {lo hi : Option Operand} {b off n m q n' c' : Nat} {l h : Int} (hop : o.op = .slice t x lo hi none) (hx : evO a x = some (.pointer (some ⟨b, off, none⟩))) (hm : ArT P t n m) (hl : bnd a 0 lo = some l) (hh : bnd a n hi = some h) (h0 : 0 ≤ l ∧ l ≤ h ∧ h ≤ (n : Int) ∧ l < (n : Int))
    (hq : off + l.toNat * m = q) (hn : h.toNat - l.toNat = n') (hc : n - l.toNat = c') : (execOp a.eval o).run P w = .ok (.value (.slice (some ⟨b, q, none⟩) n' c')) w := by
  obtain ⟨e, hu, hs⟩ := arT_iff hm.is
  unfold execOp; rw [hop]
  have hb := run_bounds (P := P) (w := w) (isS := false) hl hh ⟨h0.1, h0.2.1, h0.2.2.1⟩
  have hcl : ¬ n = l.toNat := by omega
  simp only [Option.map_none]
  simp only [evO_eval hx, Instr.sliceAt, Instr.sureAddr, Sem.run_bind, Sem.run_pure, run_underlying hu, Result.andThen_ok, hb, run_sizeOf hs, if_neg hcl, addr_add, hq, hn, hc]

/-! ### New blocks, and stores -/
theorem s_new (hs : Stp P ops W) (hH : Own B H) (hS : H w L) (hw : Region.wanted o (yielded ops a.tmps) = true) (hd : isDefer o = false) {mk : Nat → Value} {cs : Array Value} {t : TypeId} (hr : (execOp a.eval o).run P w = .ok (.value (mk w.heap.size)) (w.alloc (.cells cs t)))
    (hk : ∀ (b : Nat) (w' : World), H w' ((b, cs, t) :: L) → W rest (a.put o.dst (mk b)) w') : W (o :: rest) a w :=
  hs.go hw hd hr (hk _ _ (hH.alloc cs t hS))
theorem s_newP (hs : Stp P ops W) (hH : Own B H) (hS : H w L) (hw : Region.wanted o (yielded ops a.tmps) = true) (hd : isDefer o = false) {cs : Array Value} {t : TypeId} (hr : (execOp a.eval o).run P w = .ok (.value (.pointer (some ⟨w.heap.size, 0, none⟩))) (w.alloc (.cells cs t)))
    (hk : ∀ (b : Nat) (w' : World), H w' ((b, cs, t) :: L) → W rest (a.put o.dst (.pointer (some ⟨b, 0, none⟩))) w') : W (o :: rest) a w :=
  hs.go hw hd hr (hk _ _ (hH.alloc cs t hS))
theorem s_newS (hs : Stp P ops W) (hH : Own B H) (hS : H w L) (hw : Region.wanted o (yielded ops a.tmps) = true) (hd : isDefer o = false) {n c n' c' : Nat} {cs cs' : Array Value} {t : TypeId} (hr : (execOp a.eval o).run P w = .ok (.value (.slice (some ⟨w.heap.size, 0, none⟩) n c)) (w.alloc (.cells cs t)))
    (hn : n = n') (hc : c = c') (hcs : cs = cs') (hk : ∀ (b : Nat) (w' : World), H w' ((b, cs', t) :: L) → W rest (a.put o.dst (.slice (some ⟨b, 0, none⟩) n' c')) w') : W (o :: rest) a w := by
  subst hn hc hcs
  exact hs.go hw hd hr (hk _ _ (hH.alloc cs t hS))
theorem run_zero {t : TypeId} {cs : Array Value} (h : zeroT P t = some cs) : ∃ z, (zeroValue t).run P w = .ok z w ∧ z.cells = cs := by
  unfold zeroT at h
  cases hi : P.info? t with
  | none => simp [hi] at h
  | some i =>
    cases hz : i.zero with
    | none => simp [hi, hz] at h
    | some z =>
      simp [hi, hz] at h
      refine ⟨z, ?_, h⟩
      simp [zeroValue, Sem.run_bind, typeInfo, hi, hz]
theorem r_alloc {t : TypeId} {cs : Array Value} (hop : o.op = .alloc t) (hz : ZeroT P t cs) : (execOp a.eval o).run P w = .ok (.value (.pointer (some ⟨w.heap.size, 0, none⟩))) (w.alloc (.cells cs t)) := by
  obtain ⟨z, h1, h2⟩ := run_zero (w := w) hz.is
  unfold execOp; rw [hop]
  simp only [Instr.alloc, Sem.run_bind, h1, Result.andThen_ok, newVar, newRow, h2]
  rfl
theorem r_box {t : TypeId} {x : Operand} {cs : Array Value} (hop : o.op = .box t x) (hx : evO a x = some v) (hc : v.cells = cs) : (execOp a.eval o).run P w = .ok (.value (.pointer (some ⟨w.heap.size, 0, none⟩))) (w.alloc (.cells cs t)) := by
  unfold execOp; rw [hop]
  simp only [evO_eval hx, Instr.box, Sem.run_bind, newVar, newRow, hc]
  rfl
theorem run_store1 {b off : Nat} {cs : Array Value} {ty t : TypeId} (h1 : (P.info? t).map (·.size) = some 1) (hv : v.oneCell' = true) (hb : blk w b = some (.cells cs ty (0, 0))) (ho : off < csz cs) : (Instr.storeAt t (.pointer (some ⟨b, off, none⟩)) v).run P w = .ok () (w.setCell ⟨b, off, none⟩ v) := by
  have h := run_storeCells_at (P := P) b off ty [v] 0 cs w hb (by simp only [List.length_cons, List.length_nil]; unfold csz at ho; omega) (fun x hx => by simp only [List.mem_singleton] at hx; subst hx; exact hv)
  have hz : v.cells = #[v] := by cases v <;> first | rfl | (simp [Value.oneCell'] at hv)
  unfold Instr.storeAt Instr.sureAddr storeVar
  simp only [Sem.run_bind, Sem.run_pure, Result.andThen_ok, hz, run_sizeOf h1]
  have e : (#[v] : Array Value).toList = [v] := rfl
  simp only [List.size_toArray, List.length_cons, List.length_nil, ne_eq, not_true_eq_false, if_false]
  rw [setCell_eq_setRow w b off cs ty (0, 0) v hb]
  have : splice cs off [v].toArray = cs.setIfInBounds off v := by
    unfold splice
    apply Array.ext'
    have ho' : off < cs.size := ho
    apply List.ext_getElem?
    intro k
    simp only [Array.toList_setIfInBounds, List.getElem?_append, List.length_take, Array.length_toList, List.length_append, List.getElem?_drop, List.getElem?_set, List.length_cons, List.length_nil, List.getElem?_take, List.size_toArray, Array.getElem?_toList]
    by_cases hk : k < off
    · simp [hk, show min off cs.size = off by omega, show off ≠ k by omega, show k < off + 1 by omega]
    · by_cases hk2 : k = off
      · subst hk2; simp [show min k cs.size = k by omega, ho']
      · simp [show min off cs.size = off by omega, show ¬ k < off + 1 by omega, show off ≠ k by omega, show off + 1 + (k - (off + 1)) = k by omega]
  rw [← this]
  simpa using h
theorem s_store1 {t : TypeId} {x y : Operand} {b off : Nat} {cs : Array Value} {ty : TypeId} {L' : List Blk} {i : Nat} (hs : Stp P ops W) (hH : Own B H) (hS : H w L) (hw : Region.wanted o (yielded ops a.tmps) = true) (hop : o.op = .store t x y) (hx : evO a x = some (.pointer (some ⟨b, off, none⟩))) (hy : evO a y = some v)
    (h1 : OneT P t) (hv : v.oneCell' = true) (hi : L[i]? = some (b, cs, ty)) (ho : off < csz cs) (hL : L.set i (b, cs.setIfInBounds off v, ty) = L') (hk : ∀ w', H w' L' → W rest (a.put o.dst undef) w') : W (o :: rest) a w := by
  have hr : (execOp a.eval o).run P w = .ok .skip (w.setCell ⟨b, off, none⟩ v) := by
    unfold execOp; rw [hop]
    simp only [evO_eval hx, evO_eval hy, Sem.run_bind, run_store1 h1.sz hv (hH.blk i hS hi) ho]
    rfl
  subst hL
  exact hs.mute hw (by unfold isDefer; rw [hop]) hr (hk _ (hH.setCell i off v hS hi))
theorem s_storeR {t : TypeId} {x y : Operand} {n b off : Nat} {cs vs cs' : Array Value} {ty : TypeId} {L' : List Blk} {i : Nat} (hs : Stp P ops W) (hH : Own B H) (hS : H w L) (hw : Region.wanted o (yielded ops a.tmps) = true) (hop : o.op = .store t x y) (hx : evO a x = some (.pointer (some ⟨b, off, none⟩))) (hy : evO a y = some (.agg vs))
    (h1 : RowT P t n) (hn : csz vs = n) (hv : ones vs = true) (hi : L[i]? = some (b, cs, ty)) (ho : off + n ≤ csz cs) (hc : paste cs off vs = cs') (hL : L.set i (b, cs', ty) = L') (hk : ∀ w', H w' L' → W rest (a.put o.dst undef) w') : W (o :: rest) a w := by
  have hb := hH.blk i hS hi
  have hr : (execOp a.eval o).run P w = .ok .skip (w.setRow b cs') := by
    unfold execOp; rw [hop]
    have h := run_storeCells_at (P := P) b off ty vs.toList 0 cs w hb (by unfold csz at ho hn; simp; omega) (fun x hx => by
      unfold ones at hv
      rw [Array.all_eq_true_iff_forall_mem] at hv
      exact hv x (by simpa using hx))
    have hsz : ¬ vs.size ≠ n := by unfold csz at hn; simp [hn]
    simp only [evO_eval hx, evO_eval hy, Sem.run_bind, Instr.storeAt, Instr.sureAddr, storeVar, Sem.run_pure, Result.andThen_ok, Value.cells, run_sizeOf h1.sz, if_neg hsz]
    simp only [Nat.add_zero] at h
    rw [h, ← hc]
    have e : splice cs off vs.toList.toArray = paste cs off vs := by
      unfold paste
      split
      · rename_i h2
        obtain ⟨h3, h4⟩ := h2
        subst h3
        unfold csz at h4
        simp [splice, List.drop_of_length_le (show cs.toList.length ≤ vs.size by simp; omega)]
      · simp
    rw [e]
    rfl
  subst hL
  exact hs.mute hw (by unfold isDefer; rw [hop]) hr (hk _ (hH.setRow i cs' hS hi))
end
section
variable {P : Program} {ops : Array Oper} {W : List Oper → Act → World → Prop} {Q : Exit → Act → World → Prop} {o : Oper} {rest : List Oper} {a : Act} {w w' : World} {v : Value} {B : Nat} {H : World → List Blk → Prop} {L : List Blk}
/-! ### Calls -/
theorem run_callFunc {f : FuncId} {args : Array Value} (h : isGo P f = true) : (callFunc f args).run P w = .ok (.enter f args) w := by
  unfold isGo at h
  cases hf : P.funcs[f]? with
  | none => simp [hf] at h
  | some fn =>
    simp only [hf, Bool.and_eq_true, bne_iff_ne, ne_eq] at h
    have h2 : fn.body.isNone = false := by
      cases hb : fn.body with
      | none => simp [hb] at h
      | some c => rfl
    unfold callFunc
    have hp : (program : Sem Program).run P w = .ok P w := rfl
    simp only [Sem.run_bind, hp, Result.andThen_ok, hf]
    rw [if_neg (by simpa using h.1), if_neg (by rw [h2]; decide)]
    rfl
theorem s_call {x : Operand} {xs : Array Operand} {ts : Array TypeId} {f : FuncId} {first caps : Array Value} {vs : List Value} {args : Array Value} {R0 : Ending → World → Prop} (hs : Stp P ops W) (hw : Region.wanted o (yielded ops a.tmps) = true)
    (hop : o.op = .call { callee := .value x, args := xs, argTypes := ts }) (hx : evO a x = some (.func (.func f) first caps)) (hxs : evs a xs.toList = some vs) (hA : (first.toList ++ vs ++ caps.toList).toArray = args) (hf : GoF P f) (hc : Calls P f args w R0)
    (hk : ∀ e w', R0 e w' → ∃ v, e = .returned v ∧ W rest (a.put o.dst v) w') : W (o :: rest) a w := by
  have hr : (execOp a.eval o).run P w = .ok (.enter f args) w := by
    unfold execOp; rw [hop]
    have e1 : xs.map a.eval = vs.toArray := by
      have := evs_eval hxs
      apply Array.ext'
      simp [this]
    have e2 : first ++ xs.map a.eval ++ caps = args := by
      rw [e1, ← hA]
      apply Array.ext'
      simp
    simp only [resolve, evO_eval hx, Deferred.ofValue, Sem.run_bind, Sem.run_pure, Result.andThen_ok, invoke, e2]
    exact run_callFunc hf.is
  exact hs.enter hw (by unfold isDefer; rw [hop]) hr (hc.mono hk) (fun v w'' h => h)
theorem s_callq {x : Operand} {xs : Array Operand} {ts : Array TypeId} {f : FuncId} {first caps : Array Value} {vs : List Value} {args : Array Value} {v : Value} (hs : Stp P ops W) (hH : Own B H) (hS : H w L) (hw : Region.wanted o (yielded ops a.tmps) = true)
    (hop : o.op = .call { callee := .value x, args := xs, argTypes := ts }) (hx : evO a x = some (.func (.func f) first caps)) (hxs : evs a xs.toList = some vs) (hA : (first.toList ++ vs ++ caps.toList).toArray = args) (hf : GoF P f) (hc : Calls P f args w fun e w' => e = .returned v ∧ Below w.heap.size w w')
    (hk : ∀ w', H w' L → W rest (a.put o.dst v) w') : W (o :: rest) a w :=
  s_call hs hw hop hx hxs hA hf hc fun _e w' h => ⟨v, h.1, hk w' (hH.call hS h.2)⟩
theorem cons_list (h : wpList P ops Q (o :: rest) a w) : wpList P ops Q (o :: rest) a w := h
theorem cons_in {F : Fence} {n : Nat} (h : wpListIn F n P ops Q (o :: rest) a w) : wpListIn F n P ops Q (o :: rest) a w := h
theorem St.new_ {w0 w w' : World} {L : List Blk} (h : St w0 w L) (hb : Below w.heap.size w w') {g : Nat} {cs : Array Value} {t : TypeId} (hg : w.heap.size ≤ g) (hc : Go.Proofs.Ytkfggilildiflab.blk w' g = some (.cells cs t (0, 0))) : St w0 w' ((g, cs, t) :: L) := by
  have h1 := h.call hb
  refine ⟨h1.1, fun x hx => ?_, ?_⟩
  · rcases List.mem_cons.1 hx with rfl | hx
    · exact ⟨Nat.le_trans h.1.size hg, hc⟩
    · exact h1.2.1 x hx
  · simp only [List.map_cons, List.nodup_cons]
    refine ⟨fun hm => ?_, h1.2.2⟩
    obtain ⟨x, hx, he⟩ := List.mem_map.1 hm
    have := blk_lt (h.2.1 x hx).2
    omega
end
theorem fits_u64 {n : Int} (h : 0 ≤ n ∧ n ≤ 18446744073709551615) : fits .u64 n := IntWalk.u64_in n h
theorem fits_u8 {n : Int} (h : 0 ≤ n ∧ n ≤ 255) : fits .u8 n := IntWalk.u8_in n h
theorem bvs_getL {l : List UInt8} {k : Nat} (h : k < l.length) : (bvs l).toList[k]? = some (.int .u8 ((l.getD k 0).toNat : Int)) := by rw [Array.getElem?_toList]; exact bvs_get h
theorem bytes_blk {w : World} {tb o n c : Nat} {l : List UInt8} (h : BytesAt w (.slice (some ⟨tb, o, none⟩) n c) l) (hn : 0 < l.length) :
    ∃ cs t fr, blk w tb = some (.cells cs t fr) ∧ ∀ k, k < l.length → cs[o + k]? = some (.int .u8 ((l.getD k 0).toNat : Int)) := by
  obtain ⟨p', c', hv, h1, h0, h3⟩ := h
  simp only [Value.slice.injEq] at hv
  obtain ⟨rfl, rfl, rfl⟩ := hv
  obtain ⟨b', o', cs, t, e, hp, hb, hx⟩ := h3 (by intro e; subst e; simp at hn)
  simp only [Option.some.injEq, Addr.mk.injEq, and_true] at hp
  obtain ⟨rfl, rfl⟩ := hp
  exact ⟨cs, t, e, hb, fun k hk => hx k _ (get_some hk)⟩
section
variable {P : Program} {ops : Array Oper} {W : List Oper → Act → World → Prop} {o : Oper} {rest : List Oper} {a : Act} {w w' : World} {v : Value} {B : Nat} {H : World → List Blk → Prop} {L : List Blk}
theorem fldT_iff {s k off n t : Nat} (h : fldT P s k = some (off, n, t)) : ∃ fs f, P.underlying s = some (.struct fs) ∧ fs[k]? = some f ∧ f.offset = off ∧ f.type = t ∧ (P.info? t).map (·.size) = some n ∧ ¬ n = 0 := by
  unfold fldT at h
  cases hu : P.underlying s with
  | none => simp [hu] at h
  | some d =>
    cases d <;> simp [hu] at h
    rename_i fs
    cases hf : fs[k]? with
    | none => simp [hf] at h
    | some f =>
      simp [hf] at h
      cases hi : P.info? f.type with
      | none => simp [hi] at h
      | some i =>
        simp [hi] at h
        obtain ⟨h0, h1, h2, h3⟩ := h
        exact ⟨fs, f, rfl, hf, h1, h3, by rw [← h3, hi]; simp [h2], by omega⟩
theorem r_fieldAddr {s : TypeId} {x : Operand} {k b off fo n q : Nat} (hop : o.op = .fieldAddr s x k) (hx : evO a x = some (.pointer (some ⟨b, off, none⟩))) (hf : FldT P s k fo n) (hq : off + fo = q) : (execOp a.eval o).run P w = .ok (.value (.pointer (some ⟨b, q, none⟩))) w := by
  obtain ⟨t, ht⟩ := hf.is
  obtain ⟨fs, f, hu, hk, h1, h2, h3, h4⟩ := fldT_iff ht
  unfold execOp; rw [hop]
  subst h2
  simp only [evO_eval hx, Instr.fieldAt, Instr.sureAddr, Sem.run_bind, Sem.run_pure, run_underlying hu, Result.andThen_ok, hk, fieldPlace, run_sizeOf h3, if_neg h4, addr_add, h1, hq]
theorem r_field1 {s : TypeId} {x : Operand} {k fo n : Nat} {cs : Array Value} (hop : o.op = .field s x k) (hx : evO a x = some (.agg cs)) (hf : FldV P s k fo n true) (hv' : cs.toList[fo]? = some v) : (execOp a.eval o).run P w = .ok (.value v) w := by
  have hv : cs[fo]? = some v := by rw [← Array.getElem?_toList]; exact hv'
  obtain ⟨t, ht, h5⟩ := hf.is
  rw [if_pos rfl] at h5
  obtain ⟨fs, f, hu, hk, h1, h2, h3, h4⟩ := fldT_iff ht
  unfold execOp; rw [hop]
  subst h2
  simp only [evO_eval hx, Instr.field, asAgg, Sem.run_bind, Sem.run_pure, run_underlying hu, Result.andThen_ok, hk, part, run_isAgg h5.1, h1, hv]
  rfl
theorem run_isAggR {t : TypeId} {n : Nat} (h : isRow P t n = true) : (isAgg t).run P w = .ok true w := by
  simp only [isRow, Bool.and_eq_true] at h
  cases hu : P.underlying t with
  | none => simp [hu] at h
  | some d =>
    unfold isAgg
    rw [Sem.run_bind, run_underlying hu]
    cases d <;> simp_all
theorem r_fieldR {s : TypeId} {x : Operand} {k fo n : Nat} {cs vs : Array Value} (hop : o.op = .field s x k) (hx : evO a x = some (.agg cs)) (hf : FldV P s k fo n false) (hv : cs.extract fo (fo + n) = vs) : (execOp a.eval o).run P w = .ok (.value (.agg vs)) w := by
  obtain ⟨t, ht, h5⟩ := hf.is
  rw [if_neg (by decide)] at h5
  obtain ⟨fs, f, hu, hk, h1, h2, h3, h4⟩ := fldT_iff ht
  unfold execOp; rw [hop]
  subst h2
  simp only [evO_eval hx, Instr.field, asAgg, Sem.run_bind, Sem.run_pure, run_underlying hu, Result.andThen_ok, hk, part, run_isAggR h5, run_sizeOf h3, if_true, h1, hv]
theorem r_makeInterface {t : TypeId} {x : Operand} (hop : o.op = .makeInterface t x) (hx : evO a x = some v) (hi : IfaceT P t) : (execOp a.eval o).run P w = .ok (.value (.iface t v)) w := by
  have h := hi.is
  unfold execOp; rw [hop]
  cases hu : P.underlying t with
  | none => simp [hu] at h
  | some d =>
    simp only [evO_eval hx, Instr.makeInterface, Sem.run_bind, run_underlying hu, Result.andThen_ok]
    cases d <;> simp_all <;> rfl
theorem r_makeFunc {fn : Fn} {first caps : Array Operand} {fs cs : List Value} (hop : o.op = .makeFunc fn first caps) (hf : evs a first.toList = some fs) (hc : evs a caps.toList = some cs) : (execOp a.eval o).run P w = .ok (.value (.func fn fs.toArray cs.toArray)) w := by
  unfold execOp; rw [hop]
  have e1 : first.map a.eval = fs.toArray := Array.ext' (by simp [evs_eval hf])
  have e2 : caps.map a.eval = cs.toArray := Array.ext' (by simp [evs_eval hc])
  simp only [e1, e2, Instr.makeFunc]
  rfl
/-- Two errors, or an error and none: are they the same? -/
theorem r_neqNil {t t' : TypeId} {x : Operand} {u : TypeId} {y : Value} (hop : o.op = .binOp .neq t x (.const .nilIface) t') (hx : evO a x = some (.iface u y)) (hi : IfT P t) : (execOp a.eval o).run P w = .ok (.value (.bool true)) w := by
  unfold execOp; rw [hop]
  simp only [evO_eval hx, show a.eval (.const .nilIface) = .nilIface from rfl, Sem.run_bind]
  have hg : (eqGuard .neq t x (.const .nilIface) (.iface u y) .nilIface).run P w = .ok () w := by unfold eqGuard; rfl
  simp only [hg, Result.andThen_ok, run_neq_held_nil _ t u y hi.is]
  rfl
theorem r_neqNil0 {t t' : TypeId} {x : Operand} (hop : o.op = .binOp .neq t x (.const .nilIface) t') (hx : evO a x = some .nilIface) (hi : IfT P t) : (execOp a.eval o).run P w = .ok (.value (.bool false)) w := by
  unfold execOp; rw [hop]
  simp only [evO_eval hx, show a.eval (.const .nilIface) = .nilIface from rfl, Sem.run_bind]
  have hg : (eqGuard .neq t x (.const .nilIface) .nilIface .nilIface).run P w = .ok () w := by unfold eqGuard; cases x <;> rfl
  simp only [hg, Result.andThen_ok, run_neq_nil_nil _ t hi.is]
  rfl
theorem r_eqlNil {t t' : TypeId} {x : Operand} {u : TypeId} {y : Value} (hop : o.op = .binOp .eql t x (.const .nilIface) t') (hx : evO a x = some (.iface u y)) (hi : IfT P t) : (execOp a.eval o).run P w = .ok (.value (.bool false)) w := by
  unfold execOp; rw [hop]
  simp only [evO_eval hx, show a.eval (.const .nilIface) = .nilIface from rfl, Sem.run_bind]
  have hg : (eqGuard .eql t x (.const .nilIface) (.iface u y) .nilIface).run P w = .ok () w := by unfold eqGuard; rfl
  simp only [hg, Result.andThen_ok, run_eql_held_nil _ t u y hi.is]
  rfl
theorem r_eqlNil0 {t t' : TypeId} {x : Operand} (hop : o.op = .binOp .eql t x (.const .nilIface) t') (hx : evO a x = some .nilIface) (hi : IfT P t) : (execOp a.eval o).run P w = .ok (.value (.bool true)) w := by
  unfold execOp; rw [hop]
  simp only [evO_eval hx, show a.eval (.const .nilIface) = .nilIface from rfl, Sem.run_bind]
  have hg : (eqGuard .eql t x (.const .nilIface) .nilIface .nilIface).run P w = .ok () w := by unfold eqGuard; cases x <;> rfl
  simp only [hg, Result.andThen_ok, run_eql_nil_nil _ t hi.is]
  rfl
end
section
variable {P : Program} {o : Oper} {a : Act} {w : World} {v : Value} {C : World → Prop}
/-! ### Regions that draw their order -/
theorem q_val (h : (execOp a.eval o).run P w = .ok (.value v) w) : o.quietAt P a C w v := by
  unfold Oper.quietAt
  rw [h]
  exact ⟨rfl, rfl⟩
theorem q_call {x : Operand} {xs : Array Operand} {ts : Array TypeId} {f : FuncId} {first caps : Array Value} {vs : List Value} {args : Array Value}
    (hop : o.op = .call { callee := .value x, args := xs, argTypes := ts }) (hx : evO a x = some (.func (.func f) first caps)) (hxs : evs a xs.toList = some vs) (hA : (first.toList ++ vs ++ caps.toList).toArray = args) (hf : GoF P f) (hc : Calls P f args w fun e w' => e = .returned v ∧ C w') : o.quietAt P a C w v := by
  have hr : (execOp a.eval o).run P w = .ok (.enter f args) w := by
    unfold execOp; rw [hop]
    have e1 : xs.map a.eval = vs.toArray := by
      have := evs_eval hxs
      apply Array.ext'
      simp [this]
    have e2 : first ++ xs.map a.eval ++ caps = args := by
      rw [e1, ← hA]
      apply Array.ext'
      simp
    simp only [resolve, evO_eval hx, Deferred.ofValue, Sem.run_bind, Sem.run_pure, Result.andThen_ok, invoke, e2]
    exact run_callFunc hf.is
  unfold Oper.quietAt
  rw [hr]
  exact ⟨rfl, hc⟩
end
section
variable {P : Program} {ops : Array Oper} {W : List Oper → Act → World → Prop} {o : Oper} {rest : List Oper} {a : Act} {w : World} {v : Value} {B : Nat} {H : World → List Blk → Prop} {L : List Blk}
/-! ### Calls and copies that write over a block of one's own -/
theorem s_callRow {x : Operand} {xs : Array Operand} {ts : Array TypeId} {f : FuncId} {first caps : Array Value} {vs : List Value} {args cs cs' cs2 : Array Value} {b i : Nat} {t : TypeId} {L' : List Blk} (hs : Stp P ops W) (hH : Own B H) (hS : H w L) (hw : Region.wanted o (yielded ops a.tmps) = true)
    (hop : o.op = .call { callee := .value x, args := xs, argTypes := ts }) (hx : evO a x = some (.func (.func f) first caps)) (hxs : evs a xs.toList = some vs) (hA : (first.toList ++ vs ++ caps.toList).toArray = args) (hf : GoF P f)
    (hc : Calls P f args w fun e w' => e = .returned v ∧ w' = w.setRow b cs') (hi : L[i]? = some (b, cs, t)) (hcs : cs' = cs2) (hL : L.set i (b, cs2, t) = L') (hk : ∀ w', H w' L' → W rest (a.put o.dst v) w') : W (o :: rest) a w :=
  s_call hs hw hop hx hxs hA hf hc fun e w' h => ⟨v, h.1, hk w' (by rw [h.2, ← hL, ← hcs]; exact hH.setRow i cs' hS hi)⟩
theorem s_copy {d s : Operand} {dT sT : TypeId} {b off n c i : Nat} {cs cs2 : Array Value} {t : TypeId} {sv : Value} {l : List UInt8} {L' : List Blk} {q : Int} (hs : Stp P ops W) (hH : Own B H) (hS : H w L) (hw : Region.wanted o (yielded ops a.tmps) = true)
    (hop : o.op = .call { callee := .builtin .copy, args := #[d, s], argTypes := #[dT, sT] }) (hd : evO a d = some (.slice (some ⟨b, off, none⟩) n c)) (hy : evO a s = some sv) (hm : ElT P dT 1) (hi : L[i]? = some (b, cs, t)) (hv : BytesAt w sv l) (hfit : off + (l.take n).length ≤ csz cs)
    (hcs : ovw cs off (l.take n) = cs2) (hL : L.set i (b, cs2, t) = L') (hq : ((l.take n).length : Int) = q) (hk : ∀ w', H w' L' → W rest (a.put o.dst (.int .i64 q)) w') : W (o :: rest) a w := by
  obtain ⟨e, hu, hsz⟩ := elT_iff hm.is
  have hrun := run_copy_bytes (P := P) w dT sT o.type e hu hsz (dCap := c) (dLen := n) (hH.blk i hS hi) hv hfit
  subst hq hL hcs
  refine hs.go hw (by unfold isDefer; rw [hop]) ?_ (hk _ (hH.setRow i _ hS hi))
  unfold execOp; rw [hop]
  simp only [resolve, Sem.run_bind, Sem.run_pure, Result.andThen_ok, invoke, builtin]
  have e1 : #[d, s].map a.eval = #[.slice (some ⟨b, off, none⟩) n c, sv] := by simp [evO_eval hd, evO_eval hy]
  rw [e1, hrun]
  rfl
end
/-! ### An iterator hands something to a round -/
theorem s_yield {P : Program} {ops : Array Oper} {Q : Exit → Act → World → Prop} {o : Oper} {rest : List Oper} {a : Act} {w : World} {x : Operand} {xs : Array Operand} {ts : Array TypeId} {l n : Nat} {vs : List Value} {args : Array Value} {R : Ending → World → Prop}
    (hw : Region.wanted o (yielded ops a.tmps) = true) (hop : o.op = .call { callee := .value x, args := xs, argTypes := ts }) (hx : evO a x = some (.func (.yield l) #[] #[])) (hxs : evs a xs.toList = some vs) (hA : vs.toArray = args) (hY : YieldAt Fence.wide 0 P l args w R)
    (hk : ∀ e w', R e w' → ∃ v, e = .returned v ∧ wpListIn Fence.wide n P ops Q rest (a.put o.dst v) w') : wpListIn Fence.wide n P ops Q (o :: rest) a w := by
  obtain ⟨fn, tmps, assign, body, hy, hRo⟩ := hY
  have hr : (execOp a.eval o).run P w = .ok (.round l fn tmps assign body) w := by
    unfold execOp; rw [hop]
    have e1 : xs.map a.eval = args := by
      have := evs_eval hxs
      rw [← hA]
      apply Array.ext'
      simp [this]
    have e2 : #[] ++ xs.map a.eval = args := by rw [e1]; apply Array.ext'; simp
    simp only [resolve, evO_eval hx, Deferred.ofValue, Sem.run_bind, Sem.run_pure, Result.andThen_ok, invoke, e2, hy]
  unfold wpListIn
  rw [if_pos hw]
  unfold Oper.wpIn
  refine ⟨fun _ _ => trivial, ?_⟩
  rw [Oper.semAt_plain _ _ _ (by rw [hop]; intro c hc; cases hc), hr, Oper.uponIn_round]
  refine ⟨fun h => (by cases h), ?_⟩
  have hRo' : RoundIn Fence.wide (n - 1) P l fn tmps assign body w R := ⟨trivial, fun c cs _ => hRo.2 c cs (room_wide _)⟩
  refine hRo'.mono ?_
  intro e w' hR
  obtain ⟨v, rfl, h⟩ := hk e w' hR
  exact h
section
variable {P : Program} {ops : Array Oper} {W : List Oper → Act → World → Prop} {o : Oper} {rest : List Oper} {a : Act} {w : World} {v : Value} {B : Nat} {H : World → List Blk → Prop} {L : List Blk}
/-! ### append -/
theorem run_app {x y : Operand} {t : TypeId} {v1 v2 : Value} {w' : World} (hop : o.op = .call { callee := .builtin .append, args := #[x, y], argTypes := #[t, t] }) (hx : evO a x = some v1) (hy : evO a y = some v2) (h : (Builtin.append_ #[t, t] o.type #[v1, v2]).run P w = .ok v w') :
    (execOp a.eval o).run P w = .ok (.value v) w' := by
  unfold execOp; rw [hop]
  have e1 : #[x, y].map a.eval = #[v1, v2] := by simp [evO_eval hx, evO_eval hy]
  simp only [resolve, Sem.run_bind, Sem.run_pure, Result.andThen_ok, invoke, builtin, e1, h]
theorem s_append {x y : Operand} {t e size bytes b n c m c2 i nm : Nat} {q : Addr} {cs : Array Value} {olds spare xs : List Value} (hs : Stp P ops W) (hH : Own B H) (hS : H w L) (hw : Region.wanted o (yielded ops a.tmps) = true)
    (hop : o.op = .call { callee := .builtin .append, args := #[x, y], argTypes := #[t, t] }) (hx : evO a x = some (.slice (some ⟨b, 0, none⟩) n c)) (hy : evO a y = some (.slice (some q) m c2)) (hT : SlT P t e size bytes)
    (hi : L[i]? = some (b, cs, e)) (hcs : cs.toList = olds ++ spare) (ho : olds.length = n * size) (hnc : n ≤ c) (hsp : spare.length = (c - n) * size) (hsrc : ∀ j v, xs[j]? = some v → w.cell? (q.add j) = some v) (hxs : xs.length = m * size) (hone : ∀ v ∈ xs, v.oneCell' = true)
    (hmax : n + m ≤ maxLen ∧ (n + m) * bytes ≤ 140737488355328 ∧ c ≤ maxLen) (hnm : n + m = nm)
    (hk : ∀ (b' c' : Nat) (spare' : List Value) (w' : World), nm ≤ c' → c' ≤ maxLen → spare'.length = (c' - nm) * size → H w' ((b', (olds ++ xs ++ spare').toArray, e) :: L.eraseIdx i) → W rest (a.put o.dst (.slice (some ⟨b', 0, none⟩) nm c')) w') : W (o :: rest) a w := by
  subst hnm
  obtain ⟨ht, inf, z, hie, hz, hsz, hby, hzs, hpos⟩ := elemB_iff hT.is
  have hd : isDefer o = false := by unfold isDefer; rw [hop]
  have hb := hH.blk i hS hi
  have hcsz : cs.size = olds.length + spare.length := by rw [← Array.length_toList, hcs, List.length_append]
  by_cases hroom : n + m ≤ c
  · have hfit : n * inf.size + xs.length ≤ cs.size := by
      rw [hcsz, hsz, ho, hsp, hxs]
      have : m * size ≤ (c - n) * size := Nat.mul_le_mul_right _ (by omega)
      omega
    have hr := run_append_room (P := P) w t o.type e inf ht hie b n c cs hb q m c2 xs (by rw [hsz]; exact hxs) hsrc hone hroom hfit
    refine hs.go hw hd (run_app hop hx hy hr) ?_
    have hrow : (cs.toList.take (n * inf.size) ++ xs ++ cs.toList.drop (n * inf.size + xs.length)).toArray = (olds ++ xs ++ spare.drop xs.length).toArray := by
      rw [hcs, hsz, ← ho, List.take_left, List.drop_append, Nat.add_sub_cancel_left, List.drop_of_length_le (by omega), List.nil_append]
    rw [hrow]
    have h1 := hH.setRow i (olds ++ xs ++ spare.drop xs.length).toArray hS hi
    have hil : i < L.length := (List.getElem?_eq_some_iff.1 hi).1
    have h2 := hH.front h1 (i := i) (x := (b, (olds ++ xs ++ spare.drop xs.length).toArray, e)) (by rw [List.getElem?_set_self hil])
    rw [List.eraseIdx_set_eq] at h2
    refine hk b c _ _ hroom hmax.2.2 ?_ h2
    rw [List.length_drop, hsp, hxs, ← Nat.sub_mul]
    congr 1; omega
  · have hr := run_append_grow (P := P) (w := w) t o.type e inf z ht hie hz ⟨b, 0, none⟩ n c olds (by rw [hsz]; exact ho) (fun j u hu => by
      rw [addr_add, Nat.zero_add]
      refine (cell_of_row w b j cs e _ hb).trans ?_
      rw [← Array.getElem?_toList, hcs, List.getElem?_append_left (List.getElem?_eq_some_iff.1 hu).1, hu]) q m c2 xs (by rw [hsz]; exact hxs) hsrc (by omega) (by have := hmax.1; unfold maxLen at this; omega) (growslice_fits (by omega) (by rw [hby]; exact hmax.2.1))
    have hcap := grownCap_ge w (n + m) c e
    have hcm := grownCap_le_maxLen w (n + m) c e hmax.1
    refine hs.go hw hd (run_app hop hx hy hr) ?_
    generalize grownCap w (n + m) c e = c' at *
    have hcell : olds.toArray ++ xs.toArray ++ Builtin.zeroCells z.cells (c' - (n + m)) = (olds ++ xs ++ (Builtin.zeroCells z.cells (c' - (n + m))).toList).toArray := by
      apply Array.ext'; simp
    rw [hcell]
    have hS1 : H w.drew L := hH.call hS ⟨rfl, rfl, rfl, Nat.le_refl _, fun _ _ => rfl⟩
    have h2 := hH.alloc (olds ++ xs ++ (Builtin.zeroCells z.cells (c' - (n + m))).toList).toArray e hS1
    have hil : i < L.length := (List.getElem?_eq_some_iff.1 hi).1
    have h3 := hH.sub (L' := (w.drew.heap.size, (olds ++ xs ++ (Builtin.zeroCells z.cells (c' - (n + m))).toList).toArray, e) :: L.eraseIdx i) h2 (fun y hy => by
      rcases List.mem_cons.1 hy with rfl | hy
      · exact List.mem_cons_self ..
      · exact List.mem_cons_of_mem _ (List.mem_of_mem_eraseIdx hy)) (by
      have hn := hH.nodup h2
      simp only [List.map_cons, List.nodup_cons] at hn ⊢
      exact ⟨fun hm => hn.1 (by
        obtain ⟨y, hy, he⟩ := List.mem_map.1 hm
        exact List.mem_map.2 ⟨y, List.mem_of_mem_eraseIdx hy, he⟩), (hn.2.sublist ((List.eraseIdx_sublist L i).map _))⟩)
    refine hk _ c' _ _ hcap hcm ?_ h3
    rw [Array.length_toList, size_zeroCells, hzs]
theorem s_append0 {x y : Operand} {t e size bytes m c2 : Nat} {q : Addr} {xs : List Value} (hs : Stp P ops W) (hH : Own B H) (hS : H w L) (hw : Region.wanted o (yielded ops a.tmps) = true)
    (hop : o.op = .call { callee := .builtin .append, args := #[x, y], argTypes := #[t, t] }) (hx : evO a x = some (.slice none 0 0)) (hy : evO a y = some (.slice (some q) m c2)) (hT : SlT P t e size bytes)
    (hsrc : ∀ j v, xs[j]? = some v → w.cell? (q.add j) = some v) (hxs : xs.length = m * size) (hmax : 0 < m ∧ m ≤ maxLen ∧ m * bytes ≤ 140737488355328)
    (hk : ∀ (b' c' : Nat) (spare' : List Value) (w' : World), m ≤ c' → c' ≤ maxLen → spare'.length = (c' - m) * size → H w' ((b', (xs ++ spare').toArray, e) :: L) → W rest (a.put o.dst (.slice (some ⟨b', 0, none⟩) m c')) w') : W (o :: rest) a w := by
  obtain ⟨ht, inf, z, hie, hz, hsz, hby, hzs, hpos⟩ := elemB_iff hT.is
  have hd : isDefer o = false := by unfold isDefer; rw [hop]
  have hr := run_append_nil (P := P) (w := w) t o.type e inf z ht hie hz q m c2 xs (by rw [hsz]; exact hxs) hsrc hmax.1 (by have := hmax.2.1; unfold maxLen at this; omega) (by rw [hby]; omega)
  have hcap := grownCap_ge w m 0 e
  have hcm := grownCap_le_maxLen w m 0 e hmax.2.1
  refine hs.go hw hd (run_app hop hx hy hr) ?_
  generalize grownCap w m 0 e = c' at *
  have hcell : xs.toArray ++ Builtin.zeroCells z.cells (c' - m) = (xs ++ (Builtin.zeroCells z.cells (c' - m)).toList).toArray := by
    apply Array.ext'; simp
  rw [hcell]
  have hS1 : H w.drew L := hH.call hS ⟨rfl, rfl, rfl, Nat.le_refl _, fun _ _ => rfl⟩
  refine hk _ c' _ _ hcap hcm ?_ (hH.alloc _ e hS1)
  rw [Array.length_toList, size_zeroCells, hzs]
theorem src_blk {b off : Nat} {cs : Array Value} {t : TypeId} {fr : Nat × Nat} {xs : List Value} (hb : blk w b = some (.cells cs t fr)) (hc : ∀ j v, xs[j]? = some v → cs.toList[off + j]? = some v) : ∀ j v, xs[j]? = some v → w.cell? ((⟨b, off, none⟩ : Addr).add j) = some v := by
  intro j u hu
  rw [addr_add]
  exact (cell_of_row w b (off + j) cs t fr hb).trans (by rw [← Array.getElem?_toList]; exact hc j u hu)
end
section
variable {P : Program} {ops : Array Oper} {W : List Oper → Act → World → Prop} {o : Oper} {rest : List Oper} {a : Act} {w : World} {v : Value} {B : Nat} {H : World → List Blk → Prop} {L : List Blk}
/-! ### Slice literals; slices and nil -/
def evi (a : Act) : Nat → List (Nat × Operand) → Option (List Value)
  | _, [] => some []
  | k, (i, x) :: l => if i = k then (match evO a x, evi a (k + 1) l with
    | some v, some vs => some (v :: vs)
    | _, _ => none) else none
theorem evi_eval {a : Act} : ∀ {l : List (Nat × Operand)} {k : Nat} {vs : List Value}, evi a k l = some vs → l.map (fun y => (y.1, a.eval y.2)) = (vs.zipIdx k).map fun x => (x.2, x.1)
  | [], k, vs, h => by simp only [evi, Option.some.injEq] at h; subst h; rfl
  | (i, x) :: l, k, vs, h => by
    simp only [evi] at h
    split at h
    · rename_i hi
      subst hi
      split at h
      · rename_i v vs' h1 h2
        simp only [Option.some.injEq] at h
        subst h
        simp only [List.map_cons, evO_eval h1, evi_eval h2, List.zipIdx_cons]
      · cases h
    · cases h
theorem evi_len {a : Act} : ∀ {l : List (Nat × Operand)} {k : Nat} {vs : List Value}, evi a k l = some vs → vs.length = l.length
  | [], k, vs, h => by simp only [evi, Option.some.injEq] at h; subst h; rfl
  | (i, x) :: l, k, vs, h => by
    simp only [evi] at h
    split at h
    · split at h
      · rename_i v vs' h1 h2
        simp only [Option.some.injEq] at h
        subst h
        simp only [List.length_cons, evi_len h2]
      · cases h
    · cases h
theorem r_buildSlice {t e size bytes len : Nat} {parts : Array (Nat × Operand)} {vs : List Value} {cells : List Value} (hop : o.op = .buildSlice t len parts) (hp : evi a 0 parts.toList = some vs) (hT : SlT P t e size bytes) (hl : parts.toList.length = len) (h1 : ∀ v ∈ vs, v.cells.size = size) (hc : (vs.flatMap fun v => v.cells.toList) = cells) (hlen : len * size ≤ 2 ^ 24) (hpos : 0 < len) :
    (execOp a.eval o).run P w = .ok (.value (.slice (some ⟨w.heap.size, 0, none⟩) len len)) (w.alloc (.cells cells.toArray e)) := by
  obtain ⟨ht, inf, z, hie, hz2, hsz, hby, hzs, hps⟩ := elemB_iff hT.is
  have hvl : vs.length = len := by rw [evi_len hp, hl]
  unfold execOp; rw [hop]
  have e1 : (parts.map fun (i, x) => (i, a.eval x)).toList = (vs.zipIdx 0).map fun x => (x.2, x.1) := by
    rw [Array.toList_map]
    exact evi_eval hp
  have hne : ¬ len * inf.size = 0 := by rw [hsz]; exact Nat.ne_of_gt (Nat.mul_pos hpos hps)
  have hf := Great.fill_whole hps vs ((Array.range (len * size)).map (z.cells[· % z.cells.size]!)) h1 (by simp [hvl])
  have hr := Go.run_buildSlice (P := P) w t e len (parts.map fun (i, x) => (i, a.eval x)) _ inf z ht hie hz2 (by rw [hsz]; omega) hne (by rw [e1, hsz]; exact hf)
  simp only [Sem.run_bind, hr, Result.andThen_ok]
  subst hc
  rfl
theorem r_buildSlice0 {t e size bytes : Nat} (hop : o.op = .buildSlice t 0 #[]) (hT : SlT P t e size bytes) :
    (execOp a.eval o).run P w = .ok (.value (.slice (some ⟨w.heap.size, 0, none⟩) 0 0)) (w.alloc (.cells #[] e)) := by
  obtain ⟨ht, inf, z, hie, hz2, hsz, hby, hzs, hps⟩ := elemB_iff hT.is
  unfold execOp; rw [hop]
  simp [Instr.buildSlice, Sem.run_bind, run_underlying ht, sizeOf, typeInfo, hie, newRow, Instr.fill]
  congr 2
  apply Array.ext'; simp
theorem r_eqlSlNil {t t' e size bytes : Nat} {x : Operand} {p : Option Addr} {n c : Nat} (hop : o.op = .binOp .eql t x (.const (.slice none 0 0)) t') (hx : evO a x = some (.slice p n c)) (hT : SlT P t e size bytes) : (execOp a.eval o).run P w = .ok (.value (.bool p.isNone)) w := by
  obtain ⟨ht, _⟩ := elemB_iff hT.is
  unfold execOp; rw [hop]
  have hg : (eqGuard .eql t x (.const (.slice none 0 0)) (.slice p n c) (.slice none 0 0)).run P w = .ok () w := by unfold eqGuard; rfl
  simp only [evO_eval hx, show a.eval (.const (.slice none 0 0)) = .slice none 0 0 from rfl, Sem.run_bind, hg, Result.andThen_ok, Lib.run_eql_slice_nil w t e p n c 0 0 ht]
  rfl
theorem r_neqSlNil {t t' e size bytes : Nat} {x : Operand} {p : Option Addr} {n c : Nat} (hop : o.op = .binOp .neq t x (.const (.slice none 0 0)) t') (hx : evO a x = some (.slice p n c)) (hT : SlT P t e size bytes) : (execOp a.eval o).run P w = .ok (.value (.bool (!p.isNone))) w := by
  obtain ⟨ht, _⟩ := elemB_iff hT.is
  unfold execOp; rw [hop]
  have hg : (eqGuard .neq t x (.const (.slice none 0 0)) (.slice p n c) (.slice none 0 0)).run P w = .ok () w := by unfold eqGuard; rfl
  simp only [evO_eval hx, show a.eval (.const (.slice none 0 0)) = .slice none 0 0 from rfl, Sem.run_bind, hg, Result.andThen_ok, run_neq_slice_nil_any w t e p n c 0 0 ht]
  rfl
/-- make: so many noughts. -/
theorem r_makeBytes {t e : Nat} {x y : Operand} {k k' : IntKind} {n c : Int} (hop : o.op = .makeSlice t x y) (hx : evO a x = some (.int k n)) (hy : evO a y = some (.int k' c)) (hT : SlT P t e 1 1) (hz : ZeroT P e #[.int .u8 0]) (h : 0 ≤ n ∧ n ≤ c ∧ c ≤ 140737488355328) :
    (execOp a.eval o).run P w = .ok (.value (.slice (some ⟨w.heap.size, 0, none⟩) n.toNat c.toNat)) (w.alloc (.cells (bvs (zs c.toNat)) e)) := by
  obtain ⟨ht, inf, z, hie, hz1, hsz, hby, _⟩ := elemB_iff hT.is
  have hz2 : z.cells = #[.int .u8 0] := by
    have := hz.is
    unfold zeroT at this
    simp [hie, hz1] at this
    exact this
  have hr := run_make (P := P) w t e inf z ht hie hz1 k k' n c h.1 h.2.1 (by rw [hby]; omega) (by omega)
  unfold execOp; rw [hop]
  simp only [evO_eval hx, evO_eval hy, Sem.run_bind, hr, hsz, Nat.mul_one, hz2, Result.andThen_ok]
  have := made_noughts c.toNat
  have e2 : (Value.int .u8 0).cells = #[.int .u8 0] := rfl
  rw [e2] at this
  rw [this]
  rfl
end
section
variable {P : Program} {ops : Array Oper} {W : List Oper → Act → World → Prop} {o : Oper} {rest : List Oper} {a : Act} {w : World} {v : Value} {B : Nat} {H : World → List Blk → Prop} {L : List Blk}
theorem r_sliceNil {t : TypeId} {x : Operand} {lo hi : Option Operand} {m : Nat} (hop : o.op = .slice t x lo hi none) (hx : evO a x = some (.slice none 0 0)) (hm : ElT P t m) (hl : bnd a 0 lo = some 0) (hh : bnd a 0 hi = some 0) : (execOp a.eval o).run P w = .ok (.value (.slice none 0 0)) w := by
  obtain ⟨e, hu, hs⟩ := elT_iff hm.is
  unfold execOp; rw [hop]
  have hb := run_bounds (P := P) (w := w) (isS := true) (n := 0) (c := 0) hl hh ⟨by omega, by omega, by omega⟩
  simp only [Option.map_none]
  simp only [evO_eval hx, Instr.sliceAt, Instr.slice, Sem.run_bind, run_underlying hu, Result.andThen_ok, hb, run_sizeOf hs]
  rfl
theorem zeroCells_bytes (n : Nat) : Builtin.zeroCells (Value.int .u8 0).cells n = bvs (zs n) := by
  apply Array.ext_getElem?
  intro i
  by_cases h : i < n
  · rw [zs_one n i h]
    have e : i % (Value.int .u8 0).cells.size = 0 := by show i % 1 = 0; omega
    have hs : i < n * (Value.int .u8 0).cells.size := by show i < n * 1; omega
    unfold Builtin.zeroCells
    rw [Array.getElem?_map, Array.getElem?_range, if_pos hs]
    simp only [Option.map_some]
    rw [e]; rfl
  · rw [Array.getElem?_eq_none (by rw [size_zeroCells]; show n * 1 ≤ i; omega), Array.getElem?_eq_none (by rw [bvs_size, zs_len]; omega)]
/-- append(nil, make(n)...) of bytes. -/
theorem s_appendZ {x y : Operand} {t tn e n : Nat} {k kn : IntKind} (hs : Stp P ops W) (hH : Own B H) (hS : H w L) (hw : Region.wanted o (yielded ops a.tmps) = true)
    (hop : o.op = .call { callee := .builtin .append, args := #[x, y], argTypes := #[t, tn] }) (hx : evO a x = some (.slice none 0 0)) (hy : evO a y = some (.int k (n : Int))) (hT : SlT P t e 1 1) (hz : ZeroT P e #[.int .u8 0]) (htn : P.underlying tn = some (.int kn)) (hn : 0 < n ∧ n ≤ 1000000000)
    (hk : ∀ (b' c' : Nat) (w' : World), n ≤ c' → c' ≤ maxLen → H w' ((b', bvs (zs c'), e) :: L) → W rest (a.put o.dst (.slice (some ⟨b', 0, none⟩) n c')) w') : W (o :: rest) a w := by
  obtain ⟨ht, inf, z, hie, hz1, hsz, hby, hzs, hpos⟩ := elemB_iff hT.is
  have hz2 : z.cells = #[.int .u8 0] := by
    have := hz.is
    unfold zeroT at this
    simp [hie, hz1] at this
    exact this
  have hr := Lib.run_append_nil_zeros (P := P) w t tn o.type e inf z k kn ht htn hie hz1 n hn.1 (by omega) (by omega) (by rw [hby]; omega)
  have hcap := grownCap_ge w n 0 e
  have hcm := grownCap_le_maxLen w n 0 e (by unfold maxLen; omega)
  have e2 : Builtin.zeroCells z.cells n ++ Builtin.zeroCells z.cells (grownCap w n 0 e - n) = bvs (zs (grownCap w n 0 e)) := by
    rw [hz2, show #[Value.int .u8 0] = (Value.int .u8 0).cells from rfl, zeroCells_bytes, zeroCells_bytes]
    unfold bvs
    apply Array.ext'
    have : zs n ++ zs (grownCap w n 0 e - n) = zs (grownCap w n 0 e) := by
      unfold zs
      rw [List.replicate_append_replicate]
      congr 1; omega
    rw [← this]
    simp
  rw [e2] at hr
  have e1 : #[x, y].map a.eval = #[.slice none 0 0, .int k (n : Int)] := by simp [evO_eval hx, evO_eval hy]
  have hS1 : H w.drew L := hH.call hS ⟨rfl, rfl, rfl, Nat.le_refl _, fun _ _ => rfl⟩
  refine hs.go (by exact hw) (by unfold isDefer; rw [hop]) ?_ (hk _ _ _ hcap hcm (hH.alloc _ e hS1))
  unfold execOp; rw [hop]
  simp only [resolve, Sem.run_bind, Sem.run_pure, Result.andThen_ok, invoke, builtin, e1, hr]
  rfl
/-- Bytes that a slice holds, out of a block that begins with them. -/
theorem bytesAt_mid {b off n c : Nat} {pre post : List Value} {l : List UInt8} {t : TypeId} {fr : Nat × Nat} {cs : Array Value} (hb : blk w b = some (.cells cs t fr)) (hcs : cs.toList = pre ++ (l.map bv ++ post)) (ho : pre.length = off) (hn : l.length = n) (hc : n ≤ c) : BytesAt w (.slice (some ⟨b, off, none⟩) n c) l :=
  bytesAt_blk hb hn hc fun i x hi => by
    rw [← Array.getElem?_toList, hcs, List.getElem?_append_right (by omega), ho, Nat.add_sub_cancel_left, List.getElem?_append_left (by rw [List.length_map]; exact (List.getElem?_eq_some_iff.1 hi).1), List.getElem?_map, hi]
    rfl
theorem BytesAt.srcs {q : Addr} {n c : Nat} {l : List UInt8} (h : BytesAt w (.slice (some q) n c) l) : ∀ j v, (l.map bv)[j]? = some v → w.cell? (q.add j) = some v := by
  intro j u hj
  rw [List.getElem?_map] at hj
  cases hl : l[j]? with
  | none => rw [hl] at hj; cases hj
  | some x =>
    rw [hl] at hj
    simp only [Option.map_some, Option.some.injEq] at hj
    subst hj
    obtain ⟨p', c', hv, h1, h0, h3⟩ := h
    obtain ⟨b, o, cs, t, e, hp, hb, hx⟩ := h3 (by rintro rfl; simp at hl)
    simp only [Value.slice.injEq] at hv
    rw [hp] at hv
    simp only [Option.some.injEq] at hv
    rw [hv.1, addr_add, cell_of_row w b (o + j) cs t e hb]
    exact hx j x hl
theorem bv_one (l : List UInt8) : ∀ v ∈ l.map bv, v.oneCell' = true := by
  intro v hv
  obtain ⟨x, _, rfl⟩ := List.mem_map.1 hv
  rfl
end
/-! ### Behind a loop over an iterator: the mark for what was deferred stays -/
def StD (w0 : World) (D : Nat) (w : World) (L : List Blk) : Prop := St w0 w L ∧ w.heap[D]? = some (.deferred (some []))
theorem own_stD {w0 : World} {D : Nat} : Own w0.heap.size (StD w0 D) where
  blk := fun i _ _ _ h hi => h.1.blk i hi
  call := fun h hb => ⟨h.1.call hb, (hb.block D (Array.getElem?_eq_some_iff.1 h.2).1).trans h.2⟩
  alloc := fun cs t h => ⟨h.1.alloc cs t, (Below.heap_alloc _ _ _ (Array.getElem?_eq_some_iff.1 h.2).1).trans h.2⟩
  setRow := fun {w} {L} i {b} {cs} {t} cs' h hi => ⟨h.1.setRow i hi cs', (setRow_other w b D cs' (fun e => by
    have h1 : w.heap[b]? = some (.cells cs t (0, 0)) := h.1.blk i hi
    rw [← e, h.2] at h1
    cases h1)).trans h.2⟩
  size := fun h => h.1.1.size
  add := fun h hB hn hb => ⟨h.1.add hB hn hb, h.2⟩
  nodup := fun h => h.1.2.2
  sub := fun h hx hn => ⟨⟨h.1.1, fun x hm => h.1.2.1 x (hx x hm), hn⟩, h.2⟩
theorem StD.far {w0 wr : World} {D : Nat} {L : List Blk} (h : StD w0 D wr L) {b : Nat} {cs : Array Value} {t : TypeId} {fr : Nat × Nat} (hb : Go.Proofs.Ytkfggilildiflab.blk w0 b = some (.cells cs t fr)) : Go.Proofs.Ytkfggilildiflab.blk wr b = some (.cells cs t fr) ∧ (∀ o, wr.cell? ⟨b, o, none⟩ = cs[o]?) ∧ b < w0.heap.size ∧ b < wr.heap.size ∧ ¬ b = wr.heap.size := h.1.far hb
theorem StD.shut {w0 wr : World} {D : Nat} {L : List Blk} (h : StD w0 D wr L) (h0 : w0.heap.size ≤ D) : St w0 (wr.putObj D (.deferred none)) L := h.1.shut h.2 (fun _ _ _ e => by cases e) h0 _
theorem r_conv {P : Program} {o : Oper} {a : Act} {w : World} {s t : TypeId} {x : Operand} {k k' ks : IntKind} {n q : Int} (hop : o.op = .convert s t x) (hx : evO a x = some (.int k n)) (hs : IntT P s ks) (ht : IntT P t k') (hf : fits k' n) (hq : n = q) : (execOp a.eval o).run P w = .ok (.value (.int k' q)) w := by
  unfold execOp; rw [hop]; subst hq
  simp only [evO_eval hx, convert, Sem.run_bind, run_underlying hs.is, run_underlying ht.is, Result.andThen_ok, Conv.intToInt]
  rw [show k'.wrap n = n from hf]
  rfl
end Go.Proofs.Ytkfggilildiflab
