/- Proved: Rows.WalWholeupto: for every input that the statement speaks of the law returns true and the arguments read as before. No condition. -/
import Derived.Test.YtlmfpnogpolhhaaP0
import Derived.Test.YtlmfpnogpolhhaaP1
import Derived.Test.YtlmfpnogpolhhaaP2
import Derived.Test.YtlmfpnogpolhhaaP3
import Derived.Test.YtlmfpnogpolhhaaP4
import Derived.Test.YtlmfpnogpolhhaaP5
import Derived.Test.YtlmfpnogpolhhaaP6
import Derived.Test.YtlmfpnogpolhhaaP7
import Derived.Test.YtlmfpnogpolhhaaP8
set_option linter.unusedVariables false
set_option linter.unusedSimpArgs false
namespace Go.Proofs.Ytlmfpnogpolhhaa
open Go Go.RowKit Go.ChangeShapes Go.WideShapes Go.ChangeAt Go.Joins Gx
set_option linter.unusedVariables false
set_option maxRecDepth 100000
theorem Own : ownKnob Try.prog.godebug = none := by kernel_rfl
theorem Laid : laidOutB Try.prog = true := by kernel_rfl
theorem cells5 : Try.prog.cellsOf 5 = 1 := by kernel_rfl
theorem cells30 : Try.prog.cellsOf 30 = 1 := by kernel_rfl
theorem cells74 : Try.prog.cellsOf 74 = 6 := by kernel_rfl
theorem cells3 : Try.prog.cellsOf 3 = 1 := by kernel_rfl
theorem cells4 : Try.prog.cellsOf 4 = 1 := by kernel_rfl
theorem cells45 : Try.prog.cellsOf 45 = 1 := by kernel_rfl
theorem cells49 : Try.prog.cellsOf 49 = 1 := by kernel_rfl
theorem cells32 : Try.prog.cellsOf 32 = 1 := by kernel_rfl
theorem flat_sum (L : List (List UInt8)) (f : Nat → Nat) (h : ∀ i l, L[i]? = some l → l.length ≤ f i) : L.flatten.length ≤ ((List.range L.length).map f).sum := by
  induction L generalizing f with
  | nil => simp
  | cons l L ih =>
    rw [List.flatten_cons, List.length_append, List.length_cons, List.range_succ_eq_map, List.map_cons, List.sum_cons, List.map_map]
    have h1 := h 0 l rfl
    have h2 := ih (fun i => f (i + 1)) (fun i l hl => h (i + 1) l (by simpa using hl))
    have e : (f ∘ Nat.succ) = fun i => f (i + 1) := rfl
    rw [e]
    omega
section
variable {H : Type} {enc : TypeId × Value → H}
theorem open_bss {W : World} {v : Value} {x : DataW H × List MemPlace} {n' : Nat} {sp : Nat → Bool} {held : Bool} {base : Nat} (h : DataW.trod enc Try.prog W base sp held n' 32 [v] = some x) :
    ∃ (y : Sl) (L : List (List UInt8)), v = y.v ∧ Bss W.heap y L ∧ L.length ≤ Rows.uptoBulk x.1 ∧ L.flatten.length ≤ Rows.uptoBulk x.1 := by
  rcases DataW.trod_slice Try.underlying32 h with ⟨h0, hx⟩ | ⟨a', len', cap', elems, rest, n, _, h1, hx, _, hle, hm, hlen, hel, _, _⟩
  · cases h0
    exact ⟨Sl.nil, [], rfl, ⟨rfl, .inl rfl⟩, by simp, by simp⟩
  · cases h1
    rw [cells30] at hel
    have hd : x.1 = .slice (elems.map (·.1)) (rest.map (·.1)) := by rw [hx]
    have key : ∀ i, i < len' → ∃ (s : Sl) (l : List UInt8), hcell W.heap (a'.add i) = some s.v ∧ Bys W.heap s l ∧ ∀ y, elems[i]? = some y → l.length + 1 ≤ Rows.uptoBulk y.1 := fun i hi => by
      have h2 := hel i hi
      rw [List.getElem?_eq_getElem (by omega), Option.bind_eq_some_iff] at h2
      obtain ⟨cs, hcs, ht⟩ := h2
      rw [Nat.mul_one] at hcs
      have h3 := (World.cells?_some hcs)
      have hl1 : cs.length = 1 := h3.2.1
      obtain ⟨c, rfl⟩ : ∃ c, cs = [c] := by
        match cs, hl1 with
        | [c], _ => exact ⟨c, rfl⟩
      obtain ⟨s, l, rfl, hb, _, hk⟩ := open_bytes2 Try.underlying30 Try.underlying5 cells5 ht
      refine ⟨s, l, ?_, hb, fun y hy => ?_⟩
      · exact h3.2.2 0 (by omega)
      · rw [List.getElem?_eq_getElem (by omega)] at hy
        cases hy
        exact hk
    let L := List.ofFn (fun i : Fin len' => Classical.choose (Classical.choose_spec (key i i.2)))
    have hL : L.length = len' := by simp [L]
    have hget : ∀ i l, L[i]? = some l → ∃ s : Sl, hcell W.heap (a'.add i) = some s.v ∧ Bys W.heap s l ∧ ∀ y, elems[i]? = some y → l.length + 1 ≤ Rows.uptoBulk y.1 := fun i l hi => by
      have hil : i < len' := by rw [← hL]; exact (List.getElem?_eq_some_iff.1 hi).1
      simp only [L] at hi
      rw [List.getElem?_ofFn, dif_pos hil] at hi
      cases hi
      exact ⟨_, Classical.choose_spec (Classical.choose_spec (key i hil))⟩
    refine ⟨⟨some a', len', cap'⟩, L, rfl, ⟨hL.symm, .inr ⟨a', rfl, fun i l hi => ?_⟩⟩, ?_, ?_⟩
    · obtain ⟨s, h1, h2, _⟩ := hget i l hi
      exact ⟨s, h1, h2⟩
    · rw [hd, hL]
      simp only [Rows.uptoBulk]
      have := bulk_len (elems.map (·.1))
      rw [List.length_map, hlen] at this
      omega
    · rw [hd]
      simp only [Rows.uptoBulk]
      have e1 : (elems.map (·.1)).length = L.length := by rw [List.length_map, hlen, hL]
      have h1 := flat_sum L (fun i => match (elems.map (·.1))[i]? with | some d => Rows.uptoBulk d | none => 0) (fun i l hi => by
        obtain ⟨s, _, _, hk⟩ := hget i l hi
        have hil : i < elems.length := by rw [hlen, ← hL]; exact (List.getElem?_eq_some_iff.1 hi).1
        have h2 := hk _ (List.getElem?_eq_getElem hil)
        simp only [List.getElem?_map, List.getElem?_eq_getElem hil, Option.map_some]
        omega)
      have h2 := bulk_sum (elems.map (·.1)) (fun i => match (elems.map (·.1))[i]? with | some d => Rows.uptoBulk d | none => 0) (fun i d hd => by rw [hd]; exact Nat.le_refl _)
      rw [e1] at h2
      omega
theorem open_bools {W : World} {n : Nat} {v : Value} {x : DataW H × List MemPlace} {sp : Nat → Bool} {held : Bool} {base : Nat}
    (h : DataW.trod enc Try.prog W base sp held n 45 [v] = some x) : ∃ (s : Sl) (l : List Bool), v = s.v ∧ Bls W.heap s l ∧ (l = [] ∨ ∀ i, Sl.on s i → i < W.heap.size) ∧ l.length ≤ 9223372036854775807 := by
  rcases DataW.trod_slice Try.underlying45 h with ⟨h0, hx⟩ | ⟨a, len, cap, elems, rest, m, _, h1, hx, _, hle, hm, hlen, hel, _, _⟩
  · cases h0
    exact ⟨Sl.nil, [], rfl, Bls.nil _, .inl rfl, by simp⟩
  · cases h1
    rw [cells4] at hel
    have key : ∀ i, i < len → ∃ b : Bool, hcell W.heap (a.add i) = some (.bool b) := fun i hi => by
      have h2 := hel i hi
      rw [List.getElem?_eq_getElem (by omega), Option.bind_eq_some_iff] at h2
      obtain ⟨cs, hcs, ht⟩ := h2
      rw [Nat.mul_one] at hcs
      obtain ⟨b, rfl, _⟩ := DataW.trod_bool Try.underlying4 ht
      exact ⟨b, (World.cells?_some hcs).2.2 0 (by omega)⟩
    have hmx : cap ≤ 9223372036854775807 := Nat.le_trans hm (by decide)
    refine ⟨⟨some a, len, cap⟩, List.ofFn (fun i : Fin len => Classical.choose (key i i.2)), rfl, ⟨by simp, .inr ⟨a, rfl, fun i b hi => ?_⟩⟩, ?_, by simp; omega⟩
    · have hil : i < len := by
        have := (List.getElem?_eq_some_iff.1 hi).1
        simpa using this
      rw [List.getElem?_ofFn, dif_pos hil] at hi
      cases hi
      exact Classical.choose_spec (key i hil)
    · rcases Nat.eq_zero_or_pos len with h0 | h0
      · left; subst h0; simp
      · right
        rintro i ⟨a', ha', rfl⟩
        cases ha'
        obtain ⟨b, hb⟩ := key 0 h0
        unfold hcell at hb
        rcases Nat.lt_or_ge a.block W.heap.size with h' | h'
        · exact h'
        · rw [add_block, Array.getElem?_eq_none h'] at hb
          cases hb

theorem list6 {cs : List Value} (h : cs.length = 6) : ∃ a b c d e f, cs = [a, b, c, d, e, f] := by
  match cs, h with
  | [a, b, c, d, e, f], _ => exact ⟨a, b, c, d, e, f, rfl⟩
theorem open_wop {W : World} {sp : Nat → Bool} {held : Bool} {base m : Nat} {cs : List Value} {x : DataW H × List MemPlace} (h : DataW.trod enc Try.prog W base sp held m 74 cs = some x) :
    ∃ o : WOp, cs = (wopc o).toList ∧ Bss W.heap o.r o.R ∧ o.R.length ≤ Rows.uptoBulk x.1 ∧ o.R.flatten.length ≤ Rows.uptoBulk x.1 := by
  obtain ⟨xs, n, _, hx, hl, hxl, hf⟩ := DataW.trod_struct Try.underlying74 h
  rw [cells74] at hl
  obtain ⟨a, b, c, d, e, f, rfl⟩ := list6 hl
  have hxl' : xs.length = 6 := hxl
  have get : ∀ i, i < 6 → ∃ y, xs[i]? = some y := fun i hi => ⟨_, List.getElem?_eq_getElem (by omega)⟩
  obtain ⟨y0, e0⟩ := get 0 (by omega)
  obtain ⟨y1, e1⟩ := get 1 (by omega)
  obtain ⟨y2, e2⟩ := get 2 (by omega)
  obtain ⟨y3, e3⟩ := get 3 (by omega)
  obtain ⟨y4, e4⟩ := get 4 (by omega)
  obtain ⟨y5, e5⟩ := get 5 (by omega)
  have h0 : DataW.trod enc Try.prog W base sp held n 3 (([a, b, c, d, e, f].drop 0).take (Try.prog.cellsOf 3)) = xs[0]? := hf 0 _ rfl
  have h1 : DataW.trod enc Try.prog W base sp held n 32 (([a, b, c, d, e, f].drop 1).take (Try.prog.cellsOf 32)) = xs[1]? := hf 1 _ rfl
  have h2 : DataW.trod enc Try.prog W base sp held n 3 (([a, b, c, d, e, f].drop 2).take (Try.prog.cellsOf 3)) = xs[2]? := hf 2 _ rfl
  have h3 : DataW.trod enc Try.prog W base sp held n 3 (([a, b, c, d, e, f].drop 3).take (Try.prog.cellsOf 3)) = xs[3]? := hf 3 _ rfl
  have h4 : DataW.trod enc Try.prog W base sp held n 45 (([a, b, c, d, e, f].drop 4).take (Try.prog.cellsOf 45)) = xs[4]? := hf 4 _ rfl
  have h5 : DataW.trod enc Try.prog W base sp held n 49 (([a, b, c, d, e, f].drop 5).take (Try.prog.cellsOf 49)) = xs[5]? := hf 5 _ rfl
  rw [e0, cells3] at h0; rw [e1, cells32] at h1; rw [e2, cells3] at h2; rw [e3, cells3] at h3; rw [e4, cells45] at h4; rw [e5, cells49] at h5
  obtain ⟨n0, q0, _, _⟩ := DataW.trod_int Try.underlying3 h0
  obtain ⟨n2, q2, _, _⟩ := DataW.trod_int Try.underlying3 h2
  obtain ⟨n3, q3, _, _⟩ := DataW.trod_int Try.underlying3 h3
  obtain ⟨n5, q5, _, _⟩ := DataW.trod_int Try.underlying49 h5
  have h1' : DataW.trod enc Try.prog W base sp held n 32 [b] = some y1 := h1
  have h4' : DataW.trod enc Try.prog W base sp held n 45 [e] = some y4 := h4
  obtain ⟨s, L, q1, hb, k1, k2⟩ := open_bss h1'
  obtain ⟨s4, _, q4, _, _, _⟩ := open_bools h4'
  have r0 : [a] = [Value.int .i64 n0] := q0
  have r2 : [c] = [Value.int .i64 n2] := q2
  have r3 : [d] = [Value.int .i64 n3] := q3
  have r5 : [f] = [Value.int .u32 n5] := q5
  cases r0; cases r2; cases r3; cases r5; subst q1; subst q4
  have hbk : Rows.uptoBulk y1.1 ≤ Rows.uptoBulk x.1 := by
    rw [hx]
    simp only [Rows.uptoBulk]
    have := mem_bulk (List.mem_map.2 ⟨y1, List.mem_of_getElem? e1, rfl⟩ : y1.1 ∈ xs.map (·.1))
    omega
  exact ⟨⟨n0, s, n2, n3, s4, n5, L⟩, rfl, hb, by show L.length ≤ _; omega, by show L.flatten.length ≤ _; omega⟩
theorem open_wops {W : World} {v : Value} {d : DataW H} {p : List MemPlace} {r : Reach} {b0 : Nat} {sp : Nat → Bool} {held : Bool} {base : Nat} (hv : Value.okWide Try.prog W r b0 71 v) (h : DataW.Trod enc Try.prog W base sp held 71 v d p) :
    ∃ (x : Sl) (ops : List WOp), v = x.v ∧ WOps W.heap x ops ∧ ops.length ≤ Rows.uptoBulk d ∧ ∀ o ∈ ops, o.R.length ≤ Rows.uptoBulk d ∧ o.R.flatten.length ≤ Rows.uptoBulk d := by
  obtain ⟨a, len, cap, rfl⟩ := okWide_slice Try.underlying71 hv
  obtain ⟨fuel, hf⟩ := h
  rcases DataW.trod_slice Try.underlying71 hf with ⟨h0, _⟩ | ⟨a', len', cap', elems, rest, n, _, h1, hx, _, hle, hm, hlen, hel, _, _⟩
  · have e : [Value.slice a len cap] = [.slice none 0 0] := h0
    cases e
    exact ⟨Sl.nil, [], rfl, ⟨rfl, .inl rfl, fun o ho => (by cases ho)⟩, by simp, fun o ho => (by cases ho)⟩
  · have e : [Value.slice a len cap] = [.slice (some a') len' cap'] := h1
    cases e
    rw [cells74] at hel
    have hd : d = .slice (elems.map (·.1)) (rest.map (·.1)) := (Prod.mk.inj hx).1
    have hbk : Rows.uptoBulkAll (elems.map (·.1)) ≤ Rows.uptoBulk d := by
      rw [hd]; simp only [Rows.uptoBulk]; omega
    have key : ∀ i, i < len → ∃ o : WOp, (∀ j, j < 6 → hcell W.heap (a'.add (i * 6 + j)) = (wopc o)[j]?) ∧ Bss W.heap o.r o.R ∧ o.R.length ≤ Rows.uptoBulk d ∧ o.R.flatten.length ≤ Rows.uptoBulk d := fun i hi => by
      have h2 := hel i hi
      rw [List.getElem?_eq_getElem (by omega), Option.bind_eq_some_iff] at h2
      obtain ⟨cs, hcs, ht⟩ := h2
      obtain ⟨o, rfl, hb, k1, k2⟩ := open_wop ht
      have h6 : Rows.uptoBulk (elems[i]'(by omega)).1 ≤ Rows.uptoBulkAll (elems.map (·.1)) := mem_bulk (List.mem_map.2 ⟨_, List.getElem_mem _, rfl⟩)
      refine ⟨o, fun j hj => ?_, hb, by omega, by omega⟩
      have h3 := (World.cells?_some hcs).2.2 j hj
      rw [Addr.add_add, Array.getElem?_toList] at h3
      exact h3
    refine ⟨⟨some a', len, cap⟩, List.ofFn (fun i : Fin len => Classical.choose (key i i.2)), rfl, ⟨by simp, .inr ⟨a', rfl, fun i o hi j hj => ?_⟩, fun o ho => ?_⟩, ?_, fun o ho => ?_⟩
    · have hil : i < len := by
        have := (List.getElem?_eq_some_iff.1 hi).1
        simpa using this
      rw [List.getElem?_ofFn, dif_pos hil] at hi
      cases hi
      exact (Classical.choose_spec (key i hil)).1 j hj
    · rw [List.mem_ofFn] at ho
      obtain ⟨i, rfl⟩ := ho
      exact (Classical.choose_spec (key i i.2)).2.1
    · have := bulk_len (elems.map (·.1))
      rw [List.length_map, hlen] at this
      simp only [List.length_ofFn]; omega
    · rw [List.mem_ofFn] at ho
      obtain ⟨i, rfl⟩ := ho
      exact (Classical.choose_spec (key i i.2)).2.2
end
theorem cbytes_le (L : List (List UInt8)) (h1 : L.length ≤ 1048576) (h2 : L.flatten.length ≤ 1048576) : (cbytes L).length ≤ 1000000000 := by
  have key : ∀ L : List (List UInt8), (∀ l ∈ L, l.length ≤ 1048576) → (L.map rbytes).flatten.length ≤ 9 * L.length + L.flatten.length := by
    intro L
    induction L with
    | nil => simp
    | cons l L ih =>
      intro h
      have hl := h l (by simp)
      have h3 := ih (fun x hx => h x (by simp [hx]))
      have h4 := venc_len 9 l.length (by omega) (by omega)
      rw [List.map_cons, List.flatten_cons, List.flatten_cons, List.length_append, List.length_append, List.length_cons, rbytes, List.length_append]
      omega
  have h3 := key L (fun l hl => by
    obtain ⟨i, hi⟩ := List.getElem?_of_mem hl
    have hlt := (List.getElem?_eq_some_iff.1 hi).1
    have := part_le' L hlt
    rw [(List.getElem?_eq_some_iff.1 hi).2] at this
    omega)
  have h4 := venc_len 9 L.length (by omega) (by omega)
  rw [cbytes, List.length_append]
  omega
set_option maxRecDepth 100000 in
theorem whole_lifted (os : Os) (started : os.Started) (H : Type) (enc : TypeId × Value → H) (F : Stop.Interp) :
    ReturnsInHanded {} Try.checked os 8 .any ((Rows.OpenSpec.upto Rows.walWholeSpec).pre6 enc Try.prog Try.f8 Rows.walWholeUptoRow.domain false) (((Rows.OpenSpec.upto Rows.walWholeSpec).at F).post enc Try.prog Try.f8 false true false false) := by
  refine returnsInHanded_of_cond (C := Try.checked) (s := Rows.OpenSpec.upto Rows.walWholeSpec) (k := Rows.uptoSmall) rfl Own started (by kernel_rfl) Try.func8
    (OpenSpec.witness (enc := enc) (C := Try.checked) (s := Rows.OpenSpec.upto Rows.walWholeSpec) (k := Rows.uptoSmall) rfl false ⟨#[], #[.slice none 0 0, .int .u8 0, .int .i64 0, .slice none 0 0], []⟩ 8 (by kernel_rfl) (by kernel_rfl) (by kernel_rfl)
      (x := ([.nil, .lit (.int .u8 0), .lit (.int .i64 0), .nil], [], [])) (by kernel_rfl) rfl (by kernel_rfl)) ?_
  intro W base args ds gs before hval0 hW hcnd hk _
  have hval : ∀ (j : Nat) t v, Try.f8.params[j]? = some t → args[j]? = some v → Value.okWide Try.prog W .any base t v := hval0
  have hW' := hW
  obtain ⟨p, q, hA0, hV, rfl, hfz, hnd⟩ := hW
  have hA : DataW.TrodAll enc Try.prog W 0 (fun _ => true) true Try.f8.params.toList args.toList ds p := hA0
  rw [Try.params8] at hA hval
  obtain ⟨v0, vs0, d0, ds0, p0, q0, hargs, rfl, rfl, h0, r0⟩ := trodAll_cons hA
  obtain ⟨v1, vs1, d1, ds1, p1, q1, rfl, rfl, rfl, h1, r1⟩ := trodAll_cons r0
  obtain ⟨v2, vs2, d2, ds2, p2, q2, rfl, rfl, rfl, h2, r2⟩ := trodAll_cons r1
  obtain ⟨v3, vs3, d3, ds3, p3, q3, rfl, rfl, rfl, h3, r3⟩ := trodAll_cons r2
  obtain ⟨rfl, rfl, rfl⟩ := trodAll_nil r3
  obtain rfl : args = #[v0, v1, v2, v3] := by cases args; simp_all
  obtain ⟨rfl, rfl⟩ := trodVars_none hV
  have hk' := bulk_bound hk
  simp only [List.cons_append, List.nil_append, Rows.uptoBulkAll] at hk'
  obtain ⟨x0, ops, rfl, hops, ho1, ho2⟩ := open_wops (hval 0 71 v0 rfl rfl) h0
  obtain ⟨n1, rfl, rfl, rfl, w1⟩ := open_int Try.underlying5 (hval 1 5 v1 rfl rfl) h1
  obtain ⟨n2, rfl, rfl, rfl, w2⟩ := open_int Try.underlying3 (hval 2 3 v2 rfl rfl) h2
  obtain ⟨a, len, cap, rfl⟩ := okWide_slice Try.underlying45 (hval 3 45 v3 rfl rfl)
  obtain ⟨fuel, hf⟩ := h3
  obtain ⟨s, keep, hsv, hb, hbd, _⟩ := open_bools hf
  have h3 : DataW.Trod enc Try.prog W 0 (fun _ => true) true 45 (.slice a len cap) d3 p3 := ⟨fuel, hf⟩
  have hs0 : s = ⟨a, len, cap⟩ := by cases s; cases hsv; rfl
  subst hs0
  clear hA0 hval0
  have hw1 : 0 ≤ n1 ∧ n1 ≤ 255 := by simpa [Lit.wf, IntKind.min, IntKind.max, IntKind.signed, IntKind.bits] using w1
  refine (S_ramblelaw06_WalWhole x0 n1 n2 ⟨a, len, cap⟩ W _ (whole_spec hops (by omega) (fun o ho => ⟨cbytes_le _ (by have := ho2 o ho; omega) (by have := ho2 o ho; omega), by have := ho2 o ho; omega⟩) hw1 hb hbd)).mono fun e W' ⟨r, he, ⟨hr, hext⟩, hrest⟩ => ?_
  subst hr
  subst he
  exact ⟨_, rfl, _, _, _, [], _, [], hW', trodAll_mk1 (shut_bool Try.underlying4 _), trodAll_cons_mk (ext_trod Laid (by kernel_rfl) (of_decide_eq_true (by kernel_rfl)) h0 hext) (trodAll_cons_mk (ext_trod Laid (by kernel_rfl) (of_decide_eq_true (by kernel_rfl)) h1 hext) (trodAll_cons_mk (ext_trod Laid (by kernel_rfl) (of_decide_eq_true (by kernel_rfl)) h2 hext) (trodAll_cons_mk (ext_trod Laid (by kernel_rfl) (of_decide_eq_true (by kernel_rfl)) h3 hext) trodAll_mk0))), rfl, ext_frame hext hrest _, fun h => by cases h⟩
theorem whole_holds : Rows.WalWholeUptoSaid :=
  OpenClaim.holds_of_cond 8 Try.f8 rfl rfl rfl rfl rfl rfl rfl ⟨rfl, rfl, rfl, rfl, rfl⟩ rfl rfl rfl rfl rfl (by kernel_rfl) Try.func8 (by kernel_rfl)
    (of_decide_eq_true (by kernel_rfl)) (by unfold Func.isWrapper; first | (rw [if_pos (by decide +kernel)]; kernel_rfl) | (rw [if_neg (by decide +kernel)]; exact ⟨rfl, rfl⟩))
    (fun os started H enc _ F => whole_lifted os started H enc F)
#print axioms whole_holds
end Go.Proofs.Ytlmfpnogpolhhaa
