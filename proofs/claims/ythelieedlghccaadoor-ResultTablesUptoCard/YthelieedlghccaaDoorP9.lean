/- Own proofs: what those Lean programs compute. No condition. -/
import Derived.Test.YthelieedlghccaaDoorP0
import Derived.Test.YthelieedlghccaaDoorP1
import Derived.Test.YthelieedlghccaaDoorP2
import Derived.Test.YthelieedlghccaaDoorP3
import Derived.Test.YthelieedlghccaaDoorP4
import Derived.Test.YthelieedlghccaaDoorP5
import Derived.Test.YthelieedlghccaaDoorP6
import Derived.Test.YthelieedlghccaaDoorP7
import Derived.Test.YthelieedlghccaaDoorP8
import Derived.WalkKit
import Derived.ProofKit
import Derived.OpenShut
import Derived.ShutString
import Derived.ChangeOld
import Derived.Below
import Derived.SizedLaws
import Derived.Lib.SmallJoins
set_option linter.unusedVariables false
set_option linter.unusedSimpArgs false
namespace Gx
open Go Go.RowKit Go.ChangeShapes Go.WideShapes Go.ChangeAt Go.Joins
set_option linter.unusedVariables false
section
variable {H : Type} {enc : TypeId × Value → H} {P : Program}
theorem ext_below {W W' : World} (he : Ext W.heap W'.heap) (hr : Rest W W') : ∀ k, k < W.heap.size → W'.heap[k]? = W.heap[k]? := he.same
theorem ext_same {W W' : World} (he : Ext W.heap W'.heap) {p : MemPlace} (hp : p.block < W.heap.size) : W.sameAt W' p := by
  cases p with
  | cell b o => exact World.cell?_of_block (w := W) (he.same b hp)
  | map b => exact he.same b hp
theorem ext_trod {t : TypeId} (hl : laidOutB P = true) (hr : P.readableRec t = true) (hrow : t < P.types.size) {W W' : World} {v : Value} {d : DataW H} {ps : List MemPlace}
    (h : DataW.Trod enc P W 0 (fun _ => true) true t v d ps) (he : Ext W.heap W'.heap) :
    DataW.Trod enc P W' 0 (fun b => decide (b < W.heap.size)) true t v d ps := by
  have hlt : ∀ x ∈ ps, x.block < W.heap.size := by
    obtain ⟨m, hm⟩ := h
    exact DataW.trod_lt m _ _ _ hm
  exact WideElems.Trod_stays hl hr hrow h (fun x hx => ext_same he (hlt x hx)) (fun x hx => by simpa using hlt x hx)
theorem ext_frame {W W' : World} (he : Ext W.heap W'.heap) (hr : Rest W W') (may : MemPlace → Prop) : W.keptBut W' may := by
  refine ⟨hr.os, hr.output, fun i hi => ?_⟩
  rw [he.same i hi]
  split <;> simp_all
/-- a byte slice, opened -/
theorem open_bytes {W : World} {t e : TypeId} {n : Nat} {v : Value} {x : DataW H × List MemPlace} {sp : Nat → Bool} {held : Bool} {base : Nat} (ht : P.underlying t = some (.slice e)) (he : P.underlying e = some (.int .u8)) (hc : P.cellsOf e = 1)
    (h : DataW.trod enc P W base sp held n t [v] = some x) : ∃ (s : Sl) (l : List UInt8), v = s.v ∧ Bys W.heap s l ∧ l.length ≤ 9223372036854775807 := by
  rcases open_ints ht he hc h with ⟨h1, _⟩ | ⟨a, len, cap, zs, h1, _, hle, hm, hz, _, hcell, hwf⟩
  · cases h1
    exact ⟨Sl.nil, [], rfl, Bys.nil _, by simp⟩
  · cases h1
    have hlz : len ≤ zs.length := by rw [hz]; split <;> omega
    have hmx : cap ≤ 9223372036854775807 := Nat.le_trans hm (by decide)
    refine ⟨⟨some a, len, cap⟩, (zs.take len).map u8, rfl, ⟨by simp; omega, .inr ⟨a, rfl, fun j w hj => ?_⟩⟩, by simp; omega⟩
    simp only [List.getElem?_map, List.getElem?_take] at hj
    split at hj
    · rename_i hjl
      have hj' : j < zs.length := by omega
      rw [List.getElem?_eq_getElem hj'] at hj
      simp only [Option.map_some, Option.some.injEq] at hj
      have h2 := hcell j hj'
      have h3 := hwf _ (List.getElem_mem hj')
      rw [List.getD_eq_getElem?_getD, List.getElem?_eq_getElem hj'] at h2
      have h4 : 0 ≤ zs[j] ∧ zs[j] ≤ 255 := by simpa [Lit.wf, IntKind.min, IntKind.max, IntKind.signed, IntKind.bits] using h3
      rw [← hj, bv, u8_toNat, show zs[j] % 256 = zs[j] by omega]
      exact h2
    · simp at hj
end
end Gx
