/- Proved: Rows.DiskAwaySaid: for every input that the statement speaks of the law returns true and the arguments read as before. No condition. -/
import Derived.Test.YtlmfpnogpolhhaaP0
import Derived.Test.YtlmfpnogpolhhaaP1
import Derived.Test.YtlmfpnogpolhhaaP2
import Derived.Test.YtlmfpnogpolhhaaP3
import Derived.Test.YtlmfpnogpolhhaaP4
import Derived.Test.YtlmfpnogpolhhaaP5
import Derived.Test.YtlmfpnogpolhhaaP6
set_option linter.unusedVariables false
set_option linter.unusedSimpArgs false
namespace Go.Proofs.Ytlmfpnogpolhhaa
open Go.ChangeShapes Go.WideShapes Go.ChangeAt Go.RowKit Gx
set_option linter.unusedVariables false
theorem Own : ownKnob Try.prog.godebug = none := by kernel_rfl
theorem Laid : laidOutB Try.prog = true := by kernel_rfl
set_option maxRecDepth 100000 in
theorem away_lifted (os : Os) (started : os.Started) (H : Type) (enc : TypeId × Value → H) :
    ReturnsInHanded {} Try.checked os 6 .any (Rows.diskAwaySpec.pre6 enc Try.prog Try.f6 Rows.diskAwayRow.domain false) (Rows.diskAwaySpec.post enc Try.prog Try.f6 false true false false) := by
  refine returnsInHanded_of_change_sized (C := Try.checked) Own started (by kernel_rfl) Try.func6
    (ChangeSpec.witness6 (enc := enc) (C := Try.checked) false ⟨#[], #[.int .u8 0, .slice none 0 0], []⟩ 8 (by kernel_rfl) (by kernel_rfl) (by kernel_rfl) (by kernel_rfl)) ?_
  intro W base args ds gs before hval0 hW hcnd hsz0 _
  have hval : ∀ (j : Nat) t v, Try.f6.params[j]? = some t → args[j]? = some v → Value.okWide Try.prog W .any base t v := hval0
  have hW' := hW
  obtain ⟨p, q, hA0, hV, rfl, hfz, hnd⟩ := hW
  have hA : DataW.TrodAll enc Try.prog W 0 (fun _ => true) true Try.f6.params.toList args.toList ds p := hA0
  rw [Try.params6] at hA hval
  obtain ⟨v0, vs0, d0, ds0, p0, q0, hargs, rfl, rfl, h0, r0⟩ := trodAll_cons hA
  obtain ⟨v1, vs1, d1, ds1, p1, q1, rfl, rfl, rfl, h1, r1⟩ := trodAll_cons r0
  obtain ⟨rfl, rfl, rfl⟩ := trodAll_nil r1
  obtain rfl : args = #[v0, v1] := by cases args; simp_all
  obtain ⟨rfl, rfl⟩ := trodVars_none hV
  obtain ⟨n, rfl, rfl, rfl, w0⟩ := open_int Try.underlying5 (hval 0 5 v0 rfl rfl) h0
  have hw0 : 0 ≤ n ∧ n ≤ 255 := by simpa [Lit.wf, IntKind.min, IntKind.max, IntKind.signed, IntKind.bits] using w0
  obtain ⟨x, ops, rfl, hops⟩ := open_dops (hval 1 44 v1 rfl rfl) h1
  clear hA0 hval0 hsz0
  have e : n = ((u8 n).toNat : Int) := by rw [u8_toNat]; omega
  have hs := away_spec (f := u8 n) hops
  rw [← e] at hs
  refine (S_ramblelaw04_DiskAway n x W _ hs).mono fun e W' ⟨r, he, ⟨hr, hext⟩, hrest⟩ => ?_
  subst hr
  subst he
  exact ⟨_, rfl, _, _, _, [], _, [], hW', trodAll_mk1 (shut_bool Try.underlying4 _), trodAll_cons_mk (ext_trod Laid (by kernel_rfl) (of_decide_eq_true (by kernel_rfl)) h0 hext) (trodAll_cons_mk (ext_trod Laid (by kernel_rfl) (of_decide_eq_true (by kernel_rfl)) h1 hext) trodAll_mk0), rfl, ext_frame hext hrest _, fun h => by cases h⟩
theorem away_holds : Rows.DiskAwaySaid :=
  OpenClaim.holds_of_wide 6 Try.f6 rfl rfl rfl rfl rfl rfl rfl ⟨rfl, rfl, rfl, rfl, rfl⟩ rfl rfl rfl rfl rfl (by kernel_rfl) Try.func6 (by kernel_rfl)
    (of_decide_eq_true (by kernel_rfl)) (by unfold Func.isWrapper; first | (rw [if_pos (by decide +kernel)]; kernel_rfl) | (rw [if_neg (by decide +kernel)]; exact ⟨rfl, rfl⟩))
    (fun os started H enc _ => away_lifted os started H enc)
#print axioms away_holds
end Go.Proofs.Ytlmfpnogpolhhaa
