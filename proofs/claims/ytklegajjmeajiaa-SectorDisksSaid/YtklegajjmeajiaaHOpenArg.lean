/- Own proofs: what those Lean programs compute. No condition. -/
import Derived.Test.YtklegajjmeajiaaHRow
import Derived.Test.YtklegajjmeajiaaHSeal2
import Derived.Test.YtklegajjmeajiaaRows
import Derived.KernelRfl
namespace Gx
open Go Go.Proofs Go.RowKit Go.ChangeShapes Go.WideShapes Go.ChangeAt Go.Joins
set_option linter.unusedVariables false
section
variable {H : Type} {enc : TypeId × Value → H}
theorem cells24 : Try.prog.cellsOf 24 = 3 := by kernel_rfl
theorem cells26 : Try.prog.cellsOf 26 = 128 := by kernel_rfl
theorem cells5 : Try.prog.cellsOf 5 = 1 := by kernel_rfl
theorem open_frame {W : World} {v : Value} {d : DataW H} {p : List MemPlace} {r : Reach} {b0 : Nat} {sp : Nat → Bool} {held : Bool} {base : Nat} (hv : Value.okWide Try.prog W r b0 24 v) (h : DataW.Trod enc Try.prog W base sp held 24 v d p) :
    ∃ (k n : Int) (s : Sl) (l : List UInt8), v = .agg (fcells k n s) ∧ Bys W.heap s l ∧ l.length ≤ 9223372036854775807 ∧ n ≤ 9223372036854775807 := by
  obtain ⟨c0, c1, c2, y0, y1, y2, m, rfl, rfl, rfl, h0, h1, h2⟩ := open_agg3 Try.underlying24 (by kernel_rfl) cells24 hv h
  obtain ⟨k, e0, rfl, wk⟩ := DataW.trod_int Try.underlying3 h0
  obtain ⟨n, e1, rfl, wn⟩ := DataW.trod_int Try.underlying2 h1
  obtain ⟨s, l, e2, hb, hl⟩ := open_bytes Try.underlying22 Try.underlying5 cells5 h2
  cases e0; cases e1; subst e2
  have hn : n ≤ 9223372036854775807 := by
    have := wn
    simp [Lit.wf, IntKind.min, IntKind.max, IntKind.signed, IntKind.bits] at this
    omega
  exact ⟨k, n, s, l, rfl, hb, hl, hn⟩
theorem okWide_arr128 {W : World} {v : Value} {r : Reach} {b0 : Nat} (h : Value.okWide Try.prog W r b0 26 v) : ∃ cs, v = .agg cs ∧ cs.size = 128 := by
  simp only [Value.okWide, Try.underlying26] at h
  obtain ⟨cs, h1, h2, _⟩ := h
  exact ⟨cs, h1, by rw [h2, cells26]⟩
theorem open_sector {W : World} {v : Value} {d : DataW H} {p : List MemPlace} {r : Reach} {b0 : Nat} {sp : Nat → Bool} {held : Bool} {base : Nat} (hv : Value.okWide Try.prog W r b0 26 v) (h : DataW.Trod enc Try.prog W base sp held 26 v d p) :
    ∃ l : List UInt8, v = .agg (bcells l) ∧ l.length = 128 := by
  obtain ⟨cs, rfl, hs⟩ := okWide_arr128 hv
  obtain ⟨fuel, hf⟩ := h
  obtain ⟨xs, m, _, hx, hl, hxl, hi⟩ := DataW.trod_array Try.underlying26 hf
  have key : ∀ i, i < 128 → ∃ b : UInt8, cs[i]? = some (bv b) := fun i hi' => by
    have h1 := hi i hi'
    rw [cells5] at h1
    have hxi : xs[i]? = some (xs[i]'(by omega)) := List.getElem?_eq_getElem (by omega)
    rw [hxi] at h1
    obtain ⟨n, e, _, w⟩ := DataW.trod_int Try.underlying5 h1
    have h4 : 0 ≤ n ∧ n ≤ 255 := by simpa [Lit.wf, IntKind.min, IntKind.max, IntKind.signed, IntKind.bits] using w
    refine ⟨u8 n, ?_⟩
    have e2 : (cs.toList.drop (i * 1)).take 1 = [Value.int .u8 n] := e
    rw [Nat.mul_one] at e2
    have e4 : cs.toList[i]? = some (.int .u8 n) := by
      have h0 : ((cs.toList.drop i).take 1)[0]? = some (.int .u8 n) := by rw [e2]; rfl
      rw [List.getElem?_take, if_pos (by decide), List.getElem?_drop] at h0
      exact h0
    rw [Array.getElem?_toList] at e4
    rw [e4, bv, u8_toNat, show n % 256 = n by omega]
  refine ⟨(List.range 128).map fun i => match cs[i]? with | some (Value.int IntKind.u8 n) => u8 n | _ => (0 : UInt8), ?_, by simp⟩
  congr 1
  apply Array.ext_getElem?
  intro i
  rw [bcells_get]
  rcases Nat.lt_or_ge i 128 with hlt | hge
  · obtain ⟨b, hb⟩ := key i hlt
    rw [List.getElem?_map, List.getElem?_range hlt]
    simp only [Option.map_some, hb, bv]
    congr 2
    have := u8_toNat (b.toNat : Int)
    have := b.toNat_lt
    omega
  · rw [Array.getElem?_eq_none (by omega), List.getElem?_eq_none (by simpa using hge)]
    rfl
end
end Gx
