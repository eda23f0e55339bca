/-
  How arguments that are arrays of bytes are opened. Lemmas alone.
-/
import Derived.Test.YtkfbfgjfdjhjdaaTypes
namespace Go.Proofs.Ytkfbfgjfdjhjdaa
open Go.ChangeShapes Go.WideShapes Go.ChangeAt Go.RowKit

/-- Cells that read as an array of bytes are a list of so many bytes. -/
theorem trod_bytes {P : Program} {H : Type} {enc : TypeId × Value → H} {w : World} {base fuel : Nat} {sp : Nat → Bool} {held : Bool} {t n : Nat} {cs : List Value} {x : DataW H × List MemPlace}
    (h : isBytes P t n = true) (hc : P.cellsOf t = n) (hone : ∀ e, P.underlying t = some (.array n e) → P.cellsOf e = 1) (hf : DataW.trod enc P w base sp held fuel t cs = some x) : ∃ l : List UInt8, l.length = n ∧ cs = l.map bv := by
  obtain ⟨e, hu, he, _⟩ := isBytes_iff h
  have h1 := hone e hu
  obtain ⟨xs, m, rfl, hx, hl, hxl, hi⟩ := DataW.trod_array hu hf
  rw [hc] at hl
  have key : ∀ i, i < n → ∃ x : UInt8, cs[i]? = some (bv x) := by
    intro i hin
    have h2 := hi i hin
    rw [h1, Nat.mul_one] at h2
    have hics : i < cs.length := by omega
    have e3 : (cs.drop i).take 1 = [cs[i]] := by
      rw [List.drop_eq_getElem_cons hics]; rfl
    rw [e3, List.getElem?_eq_getElem (by omega)] at h2
    obtain ⟨a, e4, _, wf⟩ := DataW.trod_int he h2
    simp at e4
    rw [List.getElem?_eq_getElem hics, e4]
    have q1 : IntKind.u8.min = 0 := rfl
    have q2 : IntKind.u8.max = 255 := rfl
    simp only [Lit.wf, Bool.and_eq_true, decide_eq_true_eq] at wf
    refine ⟨UInt8.ofNat a.toNat, ?_⟩
    simp only [bv]
    have : ((UInt8.ofNat a.toNat).toNat : Int) = a := by simp; omega
    rw [this]
  refine ⟨(List.range n).map fun i => if hin : i < n then (key i hin).choose else 0, by simp, ?_⟩
  apply List.ext_getElem
  · simp [hl]
  · intro i h3 h4
    have hin : i < n := by omega
    have h5 := (key i hin).choose_spec
    have h6 := (List.getElem?_eq_getElem h3).symm.trans h5
    simp only [Option.some.injEq] at h6
    refine h6.trans ?_
    simp [hin]

/-- An array of bytes that came in by value: it is a list of so many bytes. -/
theorem open_barr {P : Program} {H : Type} {enc : TypeId × Value → H} {w W : World} {r : Reach} {b0 base : Nat} {sp : Nat → Bool} {held : Bool} {t n : Nat} {v : Value} {d : DataW H} {p : List MemPlace}
    (h : isBytes P t n = true) (hc : P.cellsOf t = n) (hone : ∀ e, P.underlying t = some (.array n e) → P.cellsOf e = 1) (hv : Value.okWide P W r b0 t v) (ht : DataW.Trod enc P w base sp held t v d p) :
    ∃ l : List UInt8, l.length = n ∧ v = .agg (bvs l) := by
  obtain ⟨e, hu, _, _⟩ := isBytes_iff h
  unfold Value.okWide at hv
  simp only [hu] at hv
  obtain ⟨cs, rfl, hsz, _⟩ := hv
  obtain ⟨fuel, hf⟩ := ht
  obtain ⟨l, hl, he⟩ := trod_bytes h hc hone hf
  refine ⟨l, hl, ?_⟩
  have he2 : cs.toList = l.map bv := he
  unfold bvs
  rw [← he2, Array.toArray_toList]

/-- A number that fits a byte is a byte's. -/
theorem byte_of {n : Int} (wf : (Lit.int .u8 n).wf = true) : ∃ b : UInt8, n = (b.toNat : Int) := by
  have q1 : IntKind.u8.min = 0 := rfl
  have q2 : IntKind.u8.max = 255 := rfl
  simp only [Lit.wf, Bool.and_eq_true, decide_eq_true_eq] at wf
  refine ⟨UInt8.ofNat n.toNat, ?_⟩
  simp; omega
end Go.Proofs.Ytkfbfgjfdjhjdaa
