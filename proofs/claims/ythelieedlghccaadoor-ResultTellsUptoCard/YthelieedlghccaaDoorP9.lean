/- Proved: Rows.ResultTellsUptoCard: for every input that the statement speaks of the law returns true and the arguments read as before. No condition. -/
import Derived.Test.YthelieedlghccaaDoorP0
import Derived.Test.YthelieedlghccaaDoorP1
import Derived.Test.YthelieedlghccaaDoorP2
import Derived.Test.YthelieedlghccaaDoorP3
import Derived.Test.YthelieedlghccaaDoorP4
import Derived.Test.YthelieedlghccaaDoorP5
import Derived.Test.YthelieedlghccaaDoorP6
import Derived.Test.YthelieedlghccaaDoorP7
import Derived.Test.YthelieedlghccaaDoorP8
import Derived.Test.YthelieedlghccaaDoorCards
import Derived.Test.YthelieedlghccaaDoorTie
import Derived.KernelRfl
import Derived.ChangeArms
import Derived.DataReads
import Derived.Deep.DeepHandedRow
import Derived.Lib.LaidTab
import Derived.JoinedCond
import Derived.SevenTiedAt
set_option linter.unusedVariables false
set_option linter.unusedSimpArgs false
namespace Go.Proofs.YthelieedlghccaaDoor
open Go Go.RowKit Go.ChangeShapes Go.WideShapes Go.ChangeAt Go.Joins Gx
set_option linter.unusedVariables false
set_option maxRecDepth 100000
theorem Own : ownKnob Tryd.prog.godebug = none := by kernel_rfl
theorem Laid : laidOutB Tryd.prog = true := by kernel_rfl
theorem gPow : Tryd.prog.globalNamed "internal/strconv.uint64pow10" = some 1 := by kernel_rfl
theorem gDb : Tryd.prog.globalNamed "math/bits.deBruijn64tab" = some 3 := by kernel_rfl
theorem laid_tail {P : Program} {x : String × DataW Unit} {r : List (String × DataW Unit)} {W : World} (h : laidMet P (x :: r) W) : laidMet P r W := by
  obtain ⟨ps, h1, h2, h3⟩ := h
  obtain ⟨n, d⟩ := x
  obtain ⟨g, t, cs, fuel, p, q, a1, a2, a3, a4, a5, rfl⟩ := h1
  exact ⟨q, a5, (List.nodup_append.1 h2).2.1, fun b off hb => h3 b off (List.mem_append.2 (.inr hb))⟩
theorem pow_tab {W : World} (h : laidMet Tryd.prog Rows.resultTellsUptoRow.laid W) : PowTab W.heap := by
  have h1 : Lib.TabIs Tryd.prog W "internal/strconv.uint64pow10" .u64 [1, 10, 100, 1000, 10000, 100000, 1000000, 10000000, 100000000, 1000000000, 10000000000, 100000000000, 1000000000000, 10000000000000, 100000000000000, 1000000000000000, 10000000000000000, 100000000000000000, 1000000000000000000, 10000000000000000000] :=
    Lib.tabIs_of_head (rest := []) gPow (by kernel_rfl : (Tryd.prog.globals[1]?).map (·.type) = some 134) Tryd.underlying134 Tryd.underlying95 (by kernel_rfl) (by kernel_rfl) (laid_tail (laid_tail h))
  unfold Lib.TabIs at h1
  simp only [World.var?, gPow, Option.bind_some] at h1
  split at h1
  · rename_i cs t fz hh
    cases h1
    exact ⟨fz, t, hh⟩
  · cases h1
theorem db_tab {W : World} (h : laidMet Tryd.prog Rows.resultTellsUptoRow.laid W) : DbTab W.heap := by
  have h1 : Lib.TabIs Tryd.prog W "math/bits.deBruijn64tab" .u8 [0, 1, 56, 2, 57, 49, 28, 3, 61, 58, 42, 50, 38, 29, 17, 4, 62, 47, 59, 36, 45, 43, 51, 22, 53, 39, 33, 30, 24, 18, 12, 5, 63, 55, 48, 27, 60, 41, 37, 16, 46, 35, 44, 21, 52, 32, 23, 11, 54, 26, 40, 15, 34, 20, 31, 10, 25, 14, 19, 9, 13, 8, 7, 6] :=
    Lib.tabIs_of_head (rest := [("internal/strconv.uint64pow10", Rows.laid_internal_strconv_uint64pow10)]) gDb (by kernel_rfl : (Tryd.prog.globals[3]?).map (·.type) = some 137) Tryd.underlying137 Tryd.underlying5 (by kernel_rfl) (by kernel_rfl) (laid_tail h)
  unfold Lib.TabIs at h1
  simp only [World.var?, gDb, Option.bind_some] at h1
  split at h1
  · rename_i cs t fz hh
    cases h1
    exact ⟨_, t, fz, hh, rfl⟩
  · cases h1
def layCells (cs : Array Value) : Obj → Obj
  | .cells _ t frozen => .cells cs t frozen
  | o => o
/-- a world for the witness: the settled one, the tables laid -/
noncomputable def laidWorld (os : Os) (args : Array Value) : World :=
  { World.holding Tryd.prog os ⟨#[], args, []⟩ with heap := (((World.holding Tryd.prog os ⟨#[], args, []⟩).heap.modify 1 (layCells #[.int .u64 1, .int .u64 10, .int .u64 100, .int .u64 1000, .int .u64 10000, .int .u64 100000, .int .u64 1000000, .int .u64 10000000, .int .u64 100000000, .int .u64 1000000000, .int .u64 10000000000, .int .u64 100000000000, .int .u64 1000000000000, .int .u64 10000000000000, .int .u64 100000000000000, .int .u64 1000000000000000, .int .u64 10000000000000000, .int .u64 100000000000000000, .int .u64 1000000000000000000, .int .u64 10000000000000000000])).modify 2 (layCells #[.int .u8 0, .int .u8 1, .int .u8 28, .int .u8 2, .int .u8 29, .int .u8 14, .int .u8 24, .int .u8 3, .int .u8 30, .int .u8 22, .int .u8 20, .int .u8 15, .int .u8 25, .int .u8 17, .int .u8 4, .int .u8 8, .int .u8 31, .int .u8 27, .int .u8 13, .int .u8 23, .int .u8 21, .int .u8 19, .int .u8 16, .int .u8 7, .int .u8 26, .int .u8 12, .int .u8 18, .int .u8 6, .int .u8 11, .int .u8 5, .int .u8 10, .int .u8 9])).modify 3 (layCells #[.int .u8 0, .int .u8 1, .int .u8 56, .int .u8 2, .int .u8 57, .int .u8 49, .int .u8 28, .int .u8 3, .int .u8 61, .int .u8 58, .int .u8 42, .int .u8 50, .int .u8 38, .int .u8 29, .int .u8 17, .int .u8 4, .int .u8 62, .int .u8 47, .int .u8 59, .int .u8 36, .int .u8 45, .int .u8 43, .int .u8 51, .int .u8 22, .int .u8 53, .int .u8 39, .int .u8 33, .int .u8 30, .int .u8 24, .int .u8 18, .int .u8 12, .int .u8 5, .int .u8 63, .int .u8 55, .int .u8 48, .int .u8 27, .int .u8 60, .int .u8 41, .int .u8 37, .int .u8 16, .int .u8 46, .int .u8 35, .int .u8 44, .int .u8 21, .int .u8 52, .int .u8 32, .int .u8 23, .int .u8 11, .int .u8 54, .int .u8 26, .int .u8 40, .int .u8 15, .int .u8 34, .int .u8 20, .int .u8 31, .int .u8 10, .int .u8 25, .int .u8 14, .int .u8 19, .int .u8 9, .int .u8 13, .int .u8 8, .int .u8 7, .int .u8 6]) }
theorem laid_met (os : Os) : laidMet Tryd.prog Rows.resultTellsUptoRow.laid ((laidWorld os #[.string ⟨#[]⟩, .int .u8 0]).forCall (fun _ _ => 0) ⟨#[], #[.string ⟨#[]⟩, .int .u8 0], []⟩).memory :=
  laidMet_of_run' 8 (by kernel_rfl) (by kernel_rfl)
theorem reads (os : Os) {H : Type} (enc : TypeId × Value → H) : ∃ places, DataW.whole enc Tryd.prog ((laidWorld os #[.string ⟨#[]⟩, .int .u8 0]).forCall (fun _ _ => 0) ⟨#[], #[.string ⟨#[]⟩, .int .u8 0], []⟩).memory Tryd.f4.params.toList Rows.resultTellsSpec.vars false #[Value.string ⟨#[]⟩, .int .u8 0].toList 8 = some ([.lit (.string []), .lit (.int .u8 0)], [], places) :=
  ⟨[], by kernel_rfl⟩
theorem bulk_bound {H : Type} {l : List (DataW H)} (hk : Rows.uptoSmall H l = true) : Rows.uptoBulkAll l ≤ 1048576 := of_decide_eq_true hk
section
variable {H : Type} {enc : TypeId × Value → H}
theorem trod_str {W : World} {t : TypeId} {n : Nat} {c : Value} {x : DataW H × List MemPlace} {sp : Nat → Bool} {held : Bool} {base : Nat} (ht : Tryd.prog.underlying t = some .string) (h : DataW.trod enc Tryd.prog W base sp held n t [c] = some x) : ∃ s : ByteArray, c = .string s ∧ s.size ≤ maxLen ∧ Rows.uptoBulk x.1 = s.data.toList.length + 1 := by
  cases n with
  | zero => simp [DataW.trod] at h
  | succ n =>
    unfold DataW.trod at h
    rw [ht] at h
    cases c with
    | string s =>
      simp only at h
      split at h
      · rename_i hk
        cases h
        exact ⟨s, rfl, hk, by simp [Rows.uptoBulk]⟩
      · cases h
    | _ => simp at h
theorem trod_u8 {W : World} {t : TypeId} {n : Nat} {c : Value} {x : DataW H × List MemPlace} {sp : Nat → Bool} {held : Bool} {base : Nat} (ht : Tryd.prog.underlying t = some (.int .u8)) (h : DataW.trod enc Tryd.prog W base sp held n t [c] = some x) : ∃ z : Nat, c = .int .u8 (z : Int) ∧ z ≤ 255 := by
  cases n with
  | zero => simp [DataW.trod] at h
  | succ n =>
    unfold DataW.trod at h
    rw [ht] at h
    cases c with
    | int k z =>
      simp only at h
      split at h
      · rename_i hk
        obtain ⟨rfl, hw⟩ := hk
        cases h
        have : 0 ≤ z ∧ z ≤ 255 := by simpa [Lit.wf, IntKind.min, IntKind.max, IntKind.signed, IntKind.bits] using hw
        exact ⟨z.toNat, by rw [Int.toNat_of_nonneg this.1], by omega⟩
      · cases h
    | _ => simp at h
end
theorem tells_lifted (os : Os) (started : os.Started) (H : Type) (enc : TypeId × Value → H) (F : Stop.Interp) :
    ReturnsInHanded {} Tryd.checked os 4 .any ((Rows.OpenSpec.upto Rows.resultTellsSpec).preRow enc Tryd.prog Tryd.f4 Rows.resultTellsUptoRow.domain false Rows.resultTellsUptoRow.laid) (((Rows.OpenSpec.upto Rows.resultTellsSpec).at F).post enc Tryd.prog Tryd.f4 false true false false) := by
  obtain ⟨places, hx⟩ := reads os enc
  refine returnsInHanded_of_row (C := Tryd.checked) (s := Rows.OpenSpec.upto Rows.resultTellsSpec) Own started (by kernel_rfl) Tryd.func4
    (witness_row_at (enc := enc) (C := Tryd.checked) false (laidWorld os #[.string ⟨#[]⟩, .int .u8 0]) #[.string ⟨#[]⟩, .int .u8 0] rfl (by kernel_rfl) (by kernel_rfl) (by kernel_rfl)
      (OpenSpec.preRow_of_cond 8 hx (by kernel_rfl) (fun k hk => by cases hk; kernel_rfl) (by kernel_rfl) (laid_met os))) ?_
  intro W base args ds gs before hval0 hW _ hcond _ hL _ _
  have hval : ∀ (j : Nat) t v, Tryd.f4.params[j]? = some t → args[j]? = some v → Value.okWide Tryd.prog W .any base t v := hval0
  have hW' := hW
  obtain ⟨p, q, hA0, hV, rfl, hfz, hnd⟩ := hW
  have hA : DataW.TrodAll enc Tryd.prog W 0 (fun _ => true) true Tryd.f4.params.toList args.toList ds p := hA0
  rw [Tryd.params4] at hA hval
  obtain ⟨v0, vs0, d0, ds0, p0, q0, hargs, rfl, rfl, h0, r0⟩ := trodAll_cons hA
  obtain ⟨v1, vs1, d1, ds1, p1, q1, hargs1, rfl, rfl, h1, r1⟩ := trodAll_cons r0
  obtain ⟨rfl, rfl, rfl⟩ := trodAll_nil r1
  obtain rfl : args = #[v0, v1] := by cases args; simp_all
  obtain ⟨rfl, rfl⟩ := trodVars_none hV
  have hk' := bulk_bound (hcond _ rfl)
  simp only [List.cons_append, List.nil_append, Rows.uptoBulkAll] at hk'
  obtain ⟨s0, rfl⟩ := okWide_string Tryd.underlying9 (hval 0 9 v0 rfl rfl)
  obtain ⟨z0, rfl⟩ := okWide_int Tryd.underlying5 (hval 1 5 v1 rfl rfl)
  obtain ⟨fuel, hf⟩ := h0
  obtain ⟨fuel1, hf1⟩ := h1
  obtain ⟨s, hs0, hsz, hb⟩ := trod_str Tryd.underlying9 hf
  obtain ⟨z, hz0, hz⟩ := trod_u8 Tryd.underlying5 hf1
  cases hs0
  cases hz0
  have h0 : DataW.Trod enc Tryd.prog W 0 (fun _ => true) true 9 (.string s0) d0 p0 := ⟨fuel, hf⟩
  have h1 : DataW.Trod enc Tryd.prog W 0 (fun _ => true) true 5 (.int .u8 z) d1 p1 := ⟨fuel1, hf1⟩
  clear hA0 hval0
  have hb : s0.data.toList.length + 1 ≤ Rows.uptoBulk d0 := by have hb : Rows.uptoBulk d0 = s0.data.toList.length + 1 := hb; omega
  have hsb : bs s0.data.toList = s0 := by simp [bs]
  refine (S_ramblelaw23_ResultTells s0 z W (fun r h' => r = true ∧ Ext W.heap h') (by rw [← hsb]; exact tells_law (pow_tab hL) (db_tab hL) (by omega) (by omega) (fun h' e => ⟨rfl, e⟩))).mono fun e W' ⟨r, he, ⟨hr, hext⟩, hrest⟩ => ?_
  subst hr
  subst he
  exact ⟨_, rfl, _, _, _, [], _, [], hW', trodAll_mk1 (shut_bool Tryd.underlying4 _), trodAll_cons_mk (ext_trod Laid (by kernel_rfl) (of_decide_eq_true (by kernel_rfl)) h0 hext) (trodAll_cons_mk (ext_trod Laid (by kernel_rfl) (of_decide_eq_true (by kernel_rfl)) h1 hext) trodAll_mk0), rfl, ext_frame hext hrest _, fun h => by cases h⟩
theorem tells_upto : Rows.ResultTellsUptoSaid :=
  OpenClaim.holds_of_cond 4 Tryd.f4 rfl rfl rfl rfl rfl rfl rfl ⟨rfl, rfl, rfl, rfl, rfl⟩ rfl rfl rfl rfl rfl (by kernel_rfl) Tryd.func4 (by kernel_rfl)
    (of_decide_eq_true (by kernel_rfl)) (by unfold Func.isWrapper; first | (rw [if_pos (by decide +kernel)]; kernel_rfl) | (rw [if_neg (by decide +kernel)]; exact ⟨rfl, rfl⟩))
    (fun os started H enc _ F => by rw [OpenClaim.pre_eq_preRow]; exact tells_lifted os started H enc F)
theorem tells_plain (f : FuncId) (fn : Func) (hf : Tryd.pinned.checked.prog.funcNamed "ramble/ramblelaw23.ResultTells" = some f) (hfn : Tryd.pinned.checked.prog.funcs[f]? = some fn) :
    false = Tryd.pinned.checked.prog.looks [] ∧ ∀ (j : Nat) t, fn.params[j]? = some t → Tryd.pinned.checked.prog.wantsStandIn t = false := by
  obtain rfl : f = 4 := Option.some.inj ((show Tryd.prog.funcNamed "ramble/ramblelaw23.ResultTells" = some 4 by kernel_rfl).symm.trans hf) |>.symm
  obtain rfl : fn = Tryd.f4 := (Option.some.inj (Tryd.func4.symm.trans hfn)).symm
  refine ⟨by kernel_rfl, fun j t ht => ?_⟩
  rw [Tryd.params4] at ht
  have ht : t = 9 ∨ t = 5 := by simpa using Array.mem_of_getElem? ht
  rcases ht with rfl | rfl
  · exact (show Tryd.prog.wantsStandIn 9 = false by kernel_rfl)
  · exact (show Tryd.prog.wantsStandIn 5 = false by kernel_rfl)
theorem tells_card : Rows.ResultTellsUptoCardSaid :=
  Claim7.holds_tied_plain_at .later [] _ _ _ _ tells_upto (fun _ h => by cases h) (by kernel_rfl) (fun _ h => by cases h) resultTellsUpto_row_tie rfl ⟨rfl, rfl⟩ (by kernel_rfl) rfl tells_plain (by kernel_rfl)
#print axioms tells_card
end Go.Proofs.YthelieedlghccaaDoor
