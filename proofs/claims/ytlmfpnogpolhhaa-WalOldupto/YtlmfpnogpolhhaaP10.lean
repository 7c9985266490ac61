/- Proved: Rows.WalOldUptoSaid: for every input of bulk at most 1048576 the law returns true and the arguments read as before. The statement's own condition is the only one. -/
import Derived.Test.YtlmfpnogpolhhaaP0
import Derived.Test.YtlmfpnogpolhhaaP1
import Derived.Test.YtlmfpnogpolhhaaP2
import Derived.Test.YtlmfpnogpolhhaaP3
import Derived.Test.YtlmfpnogpolhhaaP4
import Derived.Test.YtlmfpnogpolhhaaP5
import Derived.Test.YtlmfpnogpolhhaaP6
import Derived.Test.YtlmfpnogpolhhaaP7
import Derived.Test.YtlmfpnogpolhhaaP8
import Derived.Test.YtlmfpnogpolhhaaP9
set_option linter.unusedVariables false
set_option linter.unusedSimpArgs false
namespace Go.Proofs.Ytlmfpnogpolhhaa
open Go Go.RowKit Go.ChangeShapes Go.WideShapes Go.ChangeAt Go.Joins Gx
set_option linter.unusedVariables false
set_option maxRecDepth 100000
theorem Own : ownKnob Try.prog.godebug = none := by kernel_rfl
theorem Laid : laidOutB Try.prog = true := by kernel_rfl
theorem cells5 : Try.prog.cellsOf 5 = 1 := by kernel_rfl
theorem cells30 : Try.prog.cellsOf 30 = 1 := by kernel_rfl
theorem cells32 : Try.prog.cellsOf 32 = 1 := by kernel_rfl
theorem flat_sum (L : List (List UInt8)) (f : Nat → Nat) (h : ∀ i l, L[i]? = some l → l.length ≤ f i) : L.flatten.length ≤ ((List.range L.length).map f).sum := by
  induction L generalizing f with
  | nil => simp
  | cons l L ih =>
    rw [List.flatten_cons, List.length_append, List.length_cons, List.range_succ_eq_map, List.map_cons, List.sum_cons, List.map_map]
    have h1 := h 0 l rfl
    have h2 := ih (fun i => f (i + 1)) (fun i l hl => h (i + 1) l (by simpa using hl))
    have e : (f ∘ Nat.succ) = fun i => f (i + 1) := rfl
    rw [e]
    omega
section
variable {H : Type} {enc : TypeId × Value → H}
theorem open_bss {W : World} {v : Value} {x : DataW H × List MemPlace} {n' : Nat} {sp : Nat → Bool} {held : Bool} {base : Nat} (h : DataW.trod enc Try.prog W base sp held n' 32 [v] = some x) :
    ∃ (y : Sl) (L : List (List UInt8)), v = y.v ∧ Bss W.heap y L ∧ L.length ≤ Rows.uptoBulk x.1 ∧ L.flatten.length ≤ Rows.uptoBulk x.1 := by
  rcases DataW.trod_slice Try.underlying32 h with ⟨h0, hx⟩ | ⟨a', len', cap', elems, rest, n, _, h1, hx, _, hle, hm, hlen, hel, _, _⟩
  · cases h0
    exact ⟨Sl.nil, [], rfl, ⟨rfl, .inl rfl⟩, by simp, by simp⟩
  · cases h1
    rw [cells30] at hel
    have hd : x.1 = .slice (elems.map (·.1)) (rest.map (·.1)) := by rw [hx]
    have key : ∀ i, i < len' → ∃ (s : Sl) (l : List UInt8), hcell W.heap (a'.add i) = some s.v ∧ Bys W.heap s l ∧ ∀ y, elems[i]? = some y → l.length + 1 ≤ Rows.uptoBulk y.1 := fun i hi => by
      have h2 := hel i hi
      rw [List.getElem?_eq_getElem (by omega), Option.bind_eq_some_iff] at h2
      obtain ⟨cs, hcs, ht⟩ := h2
      rw [Nat.mul_one] at hcs
      have h3 := (World.cells?_some hcs)
      have hl1 : cs.length = 1 := h3.2.1
      obtain ⟨c, rfl⟩ : ∃ c, cs = [c] := by
        match cs, hl1 with
        | [c], _ => exact ⟨c, rfl⟩
      obtain ⟨s, l, rfl, hb, _, hk⟩ := open_bytes2 Try.underlying30 Try.underlying5 cells5 ht
      refine ⟨s, l, ?_, hb, fun y hy => ?_⟩
      · exact h3.2.2 0 (by omega)
      · rw [List.getElem?_eq_getElem (by omega)] at hy
        cases hy
        exact hk
    let L := List.ofFn (fun i : Fin len' => Classical.choose (Classical.choose_spec (key i i.2)))
    have hL : L.length = len' := by simp [L]
    have hget : ∀ i l, L[i]? = some l → ∃ s : Sl, hcell W.heap (a'.add i) = some s.v ∧ Bys W.heap s l ∧ ∀ y, elems[i]? = some y → l.length + 1 ≤ Rows.uptoBulk y.1 := fun i l hi => by
      have hil : i < len' := by rw [← hL]; exact (List.getElem?_eq_some_iff.1 hi).1
      simp only [L] at hi
      rw [List.getElem?_ofFn, dif_pos hil] at hi
      cases hi
      exact ⟨_, Classical.choose_spec (Classical.choose_spec (key i hil))⟩
    refine ⟨⟨some a', len', cap'⟩, L, rfl, ⟨hL.symm, .inr ⟨a', rfl, fun i l hi => ?_⟩⟩, ?_, ?_⟩
    · obtain ⟨s, h1, h2, _⟩ := hget i l hi
      exact ⟨s, h1, h2⟩
    · rw [hd, hL]
      simp only [Rows.uptoBulk]
      have := bulk_len (elems.map (·.1))
      rw [List.length_map, hlen] at this
      omega
    · rw [hd]
      simp only [Rows.uptoBulk]
      have e1 : (elems.map (·.1)).length = L.length := by rw [List.length_map, hlen, hL]
      have h1 := flat_sum L (fun i => match (elems.map (·.1))[i]? with | some d => Rows.uptoBulk d | none => 0) (fun i l hi => by
        obtain ⟨s, _, _, hk⟩ := hget i l hi
        have hil : i < elems.length := by rw [hlen, ← hL]; exact (List.getElem?_eq_some_iff.1 hi).1
        have h2 := hk _ (List.getElem?_eq_getElem hil)
        simp only [List.getElem?_map, List.getElem?_eq_getElem hil, Option.map_some]
        omega)
      have h2 := bulk_sum (elems.map (·.1)) (fun i => match (elems.map (·.1))[i]? with | some d => Rows.uptoBulk d | none => 0) (fun i d hd => by rw [hd]; exact Nat.le_refl _)
      rw [e1] at h2
      omega
theorem open_bcs {W : World} {v : Value} {d : DataW H} {p : List MemPlace} {r : Reach} {b0 : Nat} {sp : Nat → Bool} {held : Bool} {base : Nat} (hv : Value.okWide Try.prog W r b0 22 v) (h : DataW.Trod enc Try.prog W base sp held 22 v d p) :
    ∃ (x : Sl) (css : List (List (List UInt8))), v = x.v ∧ Bcs W.heap x css ∧ css.length ≤ Rows.uptoBulk d ∧ ∀ rs ∈ css, rs.length ≤ Rows.uptoBulk d ∧ rs.flatten.length ≤ Rows.uptoBulk d := by
  obtain ⟨a, len, cap, rfl⟩ := okWide_slice Try.underlying22 hv
  obtain ⟨fuel, hf⟩ := h
  rcases DataW.trod_slice Try.underlying22 hf with ⟨h0, hx⟩ | ⟨a', len', cap', elems, rest, n, _, h1, hx, _, hle, hm, hlen, hel, _, _⟩
  · have e : [Value.slice a len cap] = [.slice none 0 0] := h0
    cases e
    exact ⟨Sl.nil, [], rfl, ⟨rfl, .inl rfl⟩, by simp, fun rs h => (by cases h)⟩
  · have e : [Value.slice a len cap] = [.slice (some a') len' cap'] := h1
    cases e
    rw [cells32] at hel
    have hd : d = .slice (elems.map (·.1)) (rest.map (·.1)) := (Prod.mk.inj hx).1
    have hb : Rows.uptoBulkAll (elems.map (·.1)) ≤ Rows.uptoBulk d := by
      rw [hd]; simp only [Rows.uptoBulk]; omega
    have key : ∀ i, i < len → ∃ (s : Sl) (rs : List (List UInt8)), hcell W.heap (a'.add i) = some s.v ∧ Bss W.heap s rs ∧ rs.length ≤ Rows.uptoBulk d ∧ rs.flatten.length ≤ Rows.uptoBulk d := fun i hi => by
      have h2 := hel i hi
      rw [List.getElem?_eq_getElem (by omega), Option.bind_eq_some_iff] at h2
      obtain ⟨cs, hcs, ht⟩ := h2
      rw [Nat.mul_one] at hcs
      have h3 := (World.cells?_some hcs)
      have hl1 : cs.length = 1 := h3.2.1
      obtain ⟨c, rfl⟩ : ∃ c, cs = [c] := by
        match cs, hl1 with
        | [c], _ => exact ⟨c, rfl⟩
      obtain ⟨s, rs, rfl, hb', h4, h5⟩ := open_bss ht
      have h6 : Rows.uptoBulk (elems[i]'(by omega)).1 ≤ Rows.uptoBulkAll (elems.map (·.1)) := mem_bulk (List.mem_map.2 ⟨_, List.getElem_mem _, rfl⟩)
      exact ⟨s, rs, h3.2.2 0 (by omega), hb', by omega, by omega⟩
    let css := List.ofFn (fun i : Fin len => Classical.choose (Classical.choose_spec (key i i.2)))
    have hL : css.length = len := by simp [css]
    have hget : ∀ i rs, css[i]? = some rs → ∃ s : Sl, hcell W.heap (a'.add i) = some s.v ∧ Bss W.heap s rs ∧ rs.length ≤ Rows.uptoBulk d ∧ rs.flatten.length ≤ Rows.uptoBulk d := fun i rs hi => by
      have hil : i < len := by rw [← hL]; exact (List.getElem?_eq_some_iff.1 hi).1
      simp only [css] at hi
      rw [List.getElem?_ofFn, dif_pos hil] at hi
      cases hi
      exact ⟨_, Classical.choose_spec (Classical.choose_spec (key i hil))⟩
    refine ⟨⟨some a', len, cap⟩, css, rfl, ⟨hL.symm, .inr ⟨a', rfl, fun i rs hi => ?_⟩⟩, ?_, fun rs hrs => ?_⟩
    · obtain ⟨s, h1, h2, _⟩ := hget i rs hi
      exact ⟨s, h1, h2⟩
    · have := bulk_len (elems.map (·.1))
      rw [List.length_map, hlen] at this
      rw [hL]; omega
    · obtain ⟨i, hi⟩ := List.getElem?_of_mem hrs
      obtain ⟨s, _, _, h3⟩ := hget i rs hi
      exact h3
end
theorem cbytes_le (L : List (List UInt8)) (h1 : L.length ≤ 1048576) (h2 : L.flatten.length ≤ 1048576) : (cbytes L).length ≤ 1000000000 := by
  have key : ∀ L : List (List UInt8), (∀ l ∈ L, l.length ≤ 1048576) → (L.map rbytes).flatten.length ≤ 9 * L.length + L.flatten.length := by
    intro L
    induction L with
    | nil => simp
    | cons l L ih =>
      intro h
      have hl := h l (by simp)
      have h3 := ih (fun x hx => h x (by simp [hx]))
      have h4 := venc_len 9 l.length (by omega) (by omega)
      rw [List.map_cons, List.flatten_cons, List.flatten_cons, List.length_append, List.length_append, List.length_cons, rbytes, List.length_append]
      omega
  have h3 := key L (fun l hl => by
    obtain ⟨i, hi⟩ := List.getElem?_of_mem hl
    have hlt := (List.getElem?_eq_some_iff.1 hi).1
    have := part_le' L hlt
    rw [(List.getElem?_eq_some_iff.1 hi).2] at this
    omega)
  have h4 := venc_len 9 L.length (by omega) (by omega)
  rw [cbytes, List.length_append]
  omega
set_option maxRecDepth 100000 in
theorem old_lifted (os : Os) (started : os.Started) (H : Type) (enc : TypeId × Value → H) (F : Stop.Interp) :
    ReturnsInHanded {} Try.checked os 3 .any ((Rows.OpenSpec.upto Rows.walOldSpec).pre6 enc Try.prog Try.f3 Rows.walOldUptoRow.domain false) (((Rows.OpenSpec.upto Rows.walOldSpec).at F).post enc Try.prog Try.f3 false true false false) := by
  refine returnsInHanded_of_cond (C := Try.checked) (s := Rows.OpenSpec.upto Rows.walOldSpec) (k := Rows.uptoSmall) rfl Own started (by kernel_rfl) Try.func3
    (OpenSpec.witness (enc := enc) (C := Try.checked) (s := Rows.OpenSpec.upto Rows.walOldSpec) (k := Rows.uptoSmall) rfl false ⟨#[], #[.slice none 0 0, .slice none 0 0], []⟩ 8 (by kernel_rfl) (by kernel_rfl) (by kernel_rfl)
      (x := ([.nil, .nil], [], [])) (by kernel_rfl) rfl (by kernel_rfl)) ?_
  intro W base args ds gs before hval0 hW hcnd hk _
  have hval : ∀ (j : Nat) t v, Try.f3.params[j]? = some t → args[j]? = some v → Value.okWide Try.prog W .any base t v := hval0
  have hW' := hW
  obtain ⟨p, q, hA0, hV, rfl, hfz, hnd⟩ := hW
  have hA : DataW.TrodAll enc Try.prog W 0 (fun _ => true) true Try.f3.params.toList args.toList ds p := hA0
  rw [Try.params3] at hA hval
  obtain ⟨v0, vs0, d0, ds0, p0, q0, hargs, rfl, rfl, h0, r0⟩ := trodAll_cons hA
  obtain ⟨v1, vs1, d1, ds1, p1, q1, rfl, rfl, rfl, h1, r1⟩ := trodAll_cons r0
  obtain ⟨rfl, rfl, rfl⟩ := trodAll_nil r1
  obtain rfl : args = #[v0, v1] := by cases args; simp_all
  obtain ⟨rfl, rfl⟩ := trodVars_none hV
  have hk' := bulk_bound hk
  simp only [List.cons_append, List.nil_append, Rows.uptoBulkAll] at hk'
  obtain ⟨x0, fs, rfl, hx0, hf1, hf2⟩ := open_bcs (hval 0 22 v0 rfl rfl) h0
  obtain ⟨x1, ts, rfl, hx1, ht1, ht2⟩ := open_bcs (hval 1 22 v1 rfl rfl) h1
  clear hA0 hval0
  refine (S_ramblelaw06_WalOld x0 x1 W _ (old_spec hx0 (by omega) (fun rs hrs => ⟨cbytes_le rs (by have := hf2 rs hrs; omega) (by have := hf2 rs hrs; omega), by have := hf2 rs hrs; omega⟩) hx1 (by omega) (fun rs hrs => ⟨cbytes_le rs (by have := ht2 rs hrs; omega) (by have := ht2 rs hrs; omega), by have := ht2 rs hrs; omega⟩))).mono fun e W' ⟨r, he, ⟨hr, hext⟩, hrest⟩ => ?_
  subst hr
  subst he
  exact ⟨_, rfl, _, _, _, [], _, [], hW', trodAll_mk1 (shut_bool Try.underlying4 _), trodAll_cons_mk (ext_trod Laid (by kernel_rfl) (of_decide_eq_true (by kernel_rfl)) h0 hext) (trodAll_cons_mk (ext_trod Laid (by kernel_rfl) (of_decide_eq_true (by kernel_rfl)) h1 hext) trodAll_mk0), rfl, ext_frame hext hrest _, fun h => by cases h⟩
theorem old_holds : Rows.WalOldUptoSaid :=
  OpenClaim.holds_of_cond 3 Try.f3 rfl rfl rfl rfl rfl rfl rfl ⟨rfl, rfl, rfl, rfl, rfl⟩ rfl rfl rfl rfl rfl (by kernel_rfl) Try.func3 (by kernel_rfl)
    (of_decide_eq_true (by kernel_rfl)) (by unfold Func.isWrapper; first | (rw [if_pos (by decide +kernel)]; kernel_rfl) | (rw [if_neg (by decide +kernel)]; exact ⟨rfl, rfl⟩))
    (fun os started H enc _ F => old_lifted os started H enc F)
#print axioms old_holds
end Go.Proofs.Ytlmfpnogpolhhaa
