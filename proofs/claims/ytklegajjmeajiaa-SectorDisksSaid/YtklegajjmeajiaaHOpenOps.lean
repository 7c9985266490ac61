/- Own proofs: what those Lean programs compute. No condition. -/
import Derived.Test.YtklegajjmeajiaaHOpenArg
import Derived.Test.YtklegajjmeajiaaHLaw5
namespace Gx
open Go Go.Proofs Go.RowKit Go.ChangeShapes Go.WideShapes Go.ChangeAt Go.Joins
set_option linter.unusedVariables false
section
variable {H : Type} {enc : TypeId × Value → H}
theorem cells59 : Try.prog.cellsOf 59 = 7 := by kernel_rfl
theorem cells3 : Try.prog.cellsOf 3 = 1 := by kernel_rfl
theorem cells2 : Try.prog.cellsOf 2 = 1 := by kernel_rfl
theorem cells22 : Try.prog.cellsOf 22 = 1 := by kernel_rfl
theorem cells34 : Try.prog.cellsOf 34 = 1 := by kernel_rfl
theorem list7 {cs : List Value} (h : cs.length = 7) : ∃ a b c d e f g, cs = [a, b, c, d, e, f, g] := by
  match cs, h with
  | [a, b, c, d, e, f, g], _ => exact ⟨a, b, c, d, e, f, g, rfl⟩
theorem open_op {W : World} {sp : Nat → Bool} {held : Bool} {base m : Nat} {cs : List Value} {x : DataW H × List MemPlace} (h : DataW.trod enc Try.prog W base sp held m 59 cs = some x) :
    ∃ o : OpV, cs = (opCells o).toList ∧ Bys W.heap o.s o.pay ∧ o.pay.length ≤ 9223372036854775807 ∧ o.n ≤ 9223372036854775807 ∧ 0 ≤ o.bits ∧ o.bits < 4294967296 := by
  obtain ⟨xs, n, _, _, hl, hxl, hf⟩ := DataW.trod_struct Try.underlying59 h
  rw [cells59] at hl
  obtain ⟨a, b, c, d, e, f, g, rfl⟩ := list7 hl
  have hxl' : xs.length = 5 := hxl
  have get : ∀ i, i < 5 → ∃ y, xs[i]? = some y := fun i hi => ⟨_, List.getElem?_eq_getElem (by omega)⟩
  obtain ⟨y0, e0⟩ := get 0 (by omega)
  obtain ⟨y1, e1⟩ := get 1 (by omega)
  obtain ⟨y2, e2⟩ := get 2 (by omega)
  obtain ⟨y3, e3⟩ := get 3 (by omega)
  obtain ⟨y4, e4⟩ := get 4 (by omega)
  have h0 : DataW.trod enc Try.prog W base sp held n 3 (([a, b, c, d, e, f, g].drop 0).take (Try.prog.cellsOf 3)) = xs[0]? := hf 0 _ rfl
  have h1 : DataW.trod enc Try.prog W base sp held n 3 (([a, b, c, d, e, f, g].drop 1).take (Try.prog.cellsOf 3)) = xs[1]? := hf 1 _ rfl
  have h2 : DataW.trod enc Try.prog W base sp held n 24 (([a, b, c, d, e, f, g].drop 2).take (Try.prog.cellsOf 24)) = xs[2]? := hf 2 _ rfl
  have h3 : DataW.trod enc Try.prog W base sp held n 3 (([a, b, c, d, e, f, g].drop 5).take (Try.prog.cellsOf 3)) = xs[3]? := hf 3 _ rfl
  have h4 : DataW.trod enc Try.prog W base sp held n 34 (([a, b, c, d, e, f, g].drop 6).take (Try.prog.cellsOf 34)) = xs[4]? := hf 4 _ rfl
  rw [e0, cells3] at h0; rw [e1, cells3] at h1; rw [e2, cells24] at h2; rw [e3, cells3] at h3; rw [e4, cells34] at h4
  obtain ⟨n0, q0, _, _⟩ := DataW.trod_int Try.underlying3 h0
  obtain ⟨n1, q1, _, _⟩ := DataW.trod_int Try.underlying3 h1
  obtain ⟨n3, q3, _, _⟩ := DataW.trod_int Try.underlying3 h3
  obtain ⟨n4, q4, _, w4⟩ := DataW.trod_int Try.underlying34 h4
  obtain ⟨ys, n', _, _, hl2, hyl, hg⟩ := DataW.trod_struct Try.underlying24 h2
  have hyl' : ys.length = 3 := hyl
  have get2 : ∀ i, i < 3 → ∃ y, ys[i]? = some y := fun i hi => ⟨_, List.getElem?_eq_getElem (by omega)⟩
  obtain ⟨z0, f0⟩ := get2 0 (by omega)
  obtain ⟨z1, f1⟩ := get2 1 (by omega)
  obtain ⟨z2, f2⟩ := get2 2 (by omega)
  have g0 : DataW.trod enc Try.prog W base sp held n' 3 (([c, d, e].drop 0).take (Try.prog.cellsOf 3)) = ys[0]? := hg 0 _ rfl
  have g1 : DataW.trod enc Try.prog W base sp held n' 2 (([c, d, e].drop 1).take (Try.prog.cellsOf 2)) = ys[1]? := hg 1 _ rfl
  have g2 : DataW.trod enc Try.prog W base sp held n' 22 (([c, d, e].drop 2).take (Try.prog.cellsOf 22)) = ys[2]? := hg 2 _ rfl
  rw [f0, cells3] at g0; rw [f1, cells2] at g1; rw [f2, cells22] at g2
  obtain ⟨k, q5, _, _⟩ := DataW.trod_int Try.underlying3 g0
  obtain ⟨n, q6, _, w6⟩ := DataW.trod_int Try.underlying2 g1
  have g2' : DataW.trod enc Try.prog W base sp held n' 22 [e] = some z2 := g2
  obtain ⟨s, l, q7, hb, hpl⟩ := open_bytes Try.underlying22 Try.underlying5 cells5 g2'
  have r0 : [a] = [Value.int .i64 n0] := q0
  have r1 : [b] = [Value.int .i64 n1] := q1
  have r3 : [f] = [Value.int .i64 n3] := q3
  have r4 : [g] = [Value.int .u32 n4] := q4
  have r5 : [c] = [Value.int .i64 k] := q5
  have r6 : [d] = [Value.int .i64 n] := q6
  cases r0; cases r1; cases r3; cases r4; cases r5; cases r6; subst q7
  refine ⟨⟨n0, n1, k, n, s, l, n3, n4⟩, rfl, hb, hpl, ?_, ?_⟩
  · have := w6
    simp [Lit.wf, IntKind.min, IntKind.max, IntKind.signed, IntKind.bits] at this
    show n ≤ _
    omega
  · have := w4
    simp [Lit.wf, IntKind.min, IntKind.max, IntKind.signed, IntKind.bits] at this
    show 0 ≤ n4 ∧ n4 < _
    omega
theorem open_ops {W : World} {v : Value} {d : DataW H} {p : List MemPlace} {r : Reach} {b0 : Nat} {sp : Nat → Bool} {held : Bool} {base : Nat} (hv : Value.okWide Try.prog W r b0 54 v) (h : DataW.Trod enc Try.prog W base sp held 54 v d p) :
    ∃ (x : Sl) (ops : List OpV), v = x.v ∧ OpsAt W.heap x ops := by
  obtain ⟨a, len, cap, rfl⟩ := okWide_slice Try.underlying54 hv
  obtain ⟨fuel, hf⟩ := h
  rcases DataW.trod_slice Try.underlying54 hf with ⟨h0, _⟩ | ⟨a', len', cap', elems, rest, n, _, h1, _, _, hle, hm, hlen, hel, _, _⟩
  · have e : [Value.slice a len cap] = [.slice none 0 0] := h0
    cases e
    exact ⟨Sl.nil, [], rfl, rfl, .inl rfl, fun o ho => (by cases ho), by simp⟩
  · have e : [Value.slice a len cap] = [.slice (some a') len' cap'] := h1
    cases e
    rw [cells59] at hel
    have key : ∀ i, i < len → ∃ o : OpV, (∀ j, j < 7 → hcell W.heap (a'.add (i * 7 + j)) = (opCells o)[j]?) ∧ Bys W.heap o.s o.pay ∧ o.pay.length ≤ 9223372036854775807 ∧ o.n ≤ 9223372036854775807 ∧ 0 ≤ o.bits ∧ o.bits < 4294967296 := fun i hi => by
      have h2 := hel i hi
      rw [List.getElem?_eq_getElem (by omega), Option.bind_eq_some_iff] at h2
      obtain ⟨cs, hcs, ht⟩ := h2
      obtain ⟨o, rfl, ho⟩ := open_op ht
      refine ⟨o, fun j hj => ?_, ho⟩
      have h3 := (World.cells?_some hcs).2.2 j hj
      rw [Addr.add_add, Array.getElem?_toList] at h3
      exact h3
    have hmx : cap ≤ 9223372036854775807 := Nat.le_trans hm (by decide)
    refine ⟨⟨some a', len, cap⟩, List.ofFn (fun i : Fin len => Classical.choose (key i i.2)), rfl, by simp, .inr ⟨a', rfl, fun i o hi j hj => ?_⟩, fun o ho => ?_, by simp; omega⟩
    · have hil : i < len := by
        have := (List.getElem?_eq_some_iff.1 hi).1
        simpa using this
      rw [List.getElem?_ofFn, dif_pos hil] at hi
      cases hi
      exact (Classical.choose_spec (key i hil)).1 j hj
    · rw [List.mem_ofFn] at ho
      obtain ⟨i, rfl⟩ := ho
      exact (Classical.choose_spec (key i i.2)).2
end
end Gx
