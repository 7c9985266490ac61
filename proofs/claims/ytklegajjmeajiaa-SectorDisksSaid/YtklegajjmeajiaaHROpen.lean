/- Own proofs: what those Lean programs compute. No condition. -/
import Derived.Test.YtklegajjmeajiaaHOpen
namespace Gx
open Go
set_option linter.unusedVariables false
theorem ropen_tail {l : List UInt8} {r : Sl} {b1 b2 b4 : Nat} {h0 h : Heap} {Q : Array Value × Int → Heap → Prop} (hl : l.length = 128) (hm : m0 l ≤ 112) (hE : Ext h0 h) (h1 : BB h b1 ty_api_Sector l) (h2 : FB h b2 0 0 Sl.nil) (h4 : FB h b4 (k0 l) (n0 l) Sl.nil) (hr : Bys h r (p0 l))
    (n12 : b1 ≠ b2) (n14 : b1 ≠ b4) (n24 : b2 ≠ b4) (g1 : h0.size ≤ b1) (g2 : h0.size ≤ b2) (g4 : h0.size ≤ b4) (hrb : ∀ a, r.base = some a → a.block ≠ b2 ∧ a.block ≠ b4)
    (H1 : openOk l = false → ∀ h', Ext h0 h' → Q (fcells 0 0 Sl.nil, 50) h') (H2 : openOk l = true → ∀ h', Ext h0 h' → Bys h' r (p0 l) → Q (fcells (k0 l) (n0 l) r, 0) h') :
    (do
        stV ((⟨b4, 0, none⟩ : Addr).add 2) ((r : Sl).v)
        let x40_38 ← ldG 3 ⟨b4, 0, none⟩
        let x41_39 ← rambleref05_Seal x40_38
        let x6_40 ← mkB ty_api_Sector (Array.replicate 128 (.int .u8 0) : Array Value)
        M.need (x41_39.1.size = 128)
        stG x6_40 x41_39.1
        let x50_44 ← M.ite (x41_39.2 != 0) (do
          M.pure true
          ) (do
          let x47_45 ← ldG 128 x6_40
          let x48_46 ← ldG 128 ⟨b1, 0, none⟩
          let x49_47 ← eqA .u8 128 x47_45 x48_46
          M.pure (!x49_47)
          )
        M.ite x50_44 (do
          M.need ((#[.int .i64 0, .int .i64 0, .slice none 0 0] : Array Value).size = 3)
          stG ⟨b2, 0, none⟩ (#[.int .i64 0, .int .i64 0, .slice none 0 0] : Array Value)
          let r2_50 ← ldG 3 ⟨b2, 0, none⟩
          M.pure (r2_50, 50)
          ) (do
          let x52_52 ← ldG 3 ⟨b4, 0, none⟩
          M.need (x52_52.size = 3)
          stG ⟨b2, 0, none⟩ x52_52
          let r2_54 ← ldG 3 ⟨b2, 0, none⟩
          M.pure (r2_54, 0)
          ) : M (Array Value × Int)).wp h Q := by
  have hpl := p0_len hl hm
  rw [add_mk, Nat.zero_add]
  refine stV_b (x := Sl.nil.v) (by rw [h4.cell]; rfl) (hfrozen_blk h4) rfl ?_
  have u5 := Upd.hset h b4 2 r.v
  have h5' : FB (Gx.hset h ⟨b4, 2, none⟩ r.v) b4 (k0 l) (n0 l) r := by
    unfold FB
    rw [hset_at h4]
    rfl
  generalize Gx.hset h ⟨b4, 2, none⟩ r.v = H5 at u5 h5' ⊢
  have hr5 : Bys H5 r (p0 l) := hr.upd u5 (fun a ha => (hrb a ha).2)
  refine ldF h5' ?_
  refine bind_w (rseal_spec rfl hr5 (by omega) (n0_le l) (fun H6 e6 => ?_))
  refine mkB_b ?_
  have e7 : Ext H5 (H6.push (.cells (Array.replicate 128 (.int .u8 0)) ty_api_Sector)) := e6.pushed _
  have h9 : BB (H6.push (.cells (Array.replicate 128 (.int .u8 0)) ty_api_Sector)) H6.size ty_api_Sector zeros := by
    unfold BB; rw [get_push_eq, zeros_cells]
  have hs6 := e6.size
  have lt1 : b1 < H5.size := by rw [u5.size]; exact blk_lt h1
  have lt2 : b2 < H5.size := by rw [u5.size]; exact blk_lt h2
  have lt5 : b4 < H5.size := by rw [u5.size]; exact blk_lt h4
  generalize H6.push (.cells (Array.replicate 128 (.int .u8 0)) ty_api_Sector) = H7 at e7 h9 ⊢
  have hE7 : Ext h0 H7 := (hE.upd u5 g4).trans e7
  obtain ⟨L, hL, hLl⟩ : ∃ L, (sealOut (k0 l) (n0 l) (p0 l)).1 = bcells L ∧ L.length = 128 := by
    unfold sealOut
    split
    · exact ⟨zeros, rfl, rfl⟩
    · exact ⟨_, rfl, sealed_length (by omega)⟩
  rw [hL]
  refine need_b (by rw [bcells_size]; exact hLl) ?_
  refine stB128 h9 rfl hLl (fun H8 u8 h9' => ?_)
  have h1' : BB H8 b1 ty_api_Sector l := ((h1.upd u5 n14).ext e7).upd u8 (by omega)
  have h2' : FB H8 b2 0 0 Sl.nil := ((h2.upd u5 n24).ext e7).upd u8 (by omega)
  have h5'' : FB H8 b4 (k0 l) (n0 l) r := (h5'.ext e7).upd u8 (by omega)
  have hr8 : Bys H8 r (p0 l) := by
    have hr7 := hr5.ext e7
    refine ⟨hr.len, ?_⟩
    rcases hr5.at_ with e | ⟨a, ha, hc⟩
    · exact .inl e
    · refine .inr ⟨a, ha, fun j v hj => ?_⟩
      have h1 := hc j v hj
      have hlt : a.block < H5.size := by
        rcases Nat.lt_or_ge a.block H5.size with h' | h'
        · exact h'
        · simp only [hcell, add_block, Array.getElem?_eq_none h'] at h1; cases h1
      have h2 := e7.cell h1
      simp only [hcell, add_block] at h2 ⊢
      rw [u8.ne _ (by omega)]
      exact h2
  have hE8 : Ext h0 H8 := hE7.upd u8 (by have := hE.size; rw [← u5.size] at this; omega)
  have hcond : ∀ {f : Bool → M (Array Value × Int)}, (f (!openOk l)).wp H8 Q → ((M.ite ((sealOut (k0 l) (n0 l) (p0 l)).2 != 0) (M.pure true) (do
      let x48_50 ← ldG 128 ⟨H6.size, 0, none⟩
      let x49_51 ← ldG 128 ⟨b1, 0, none⟩
      let x50_52 ← eqA .u8 128 x48_50 x49_51
      M.pure (!x50_52))) >>= f).wp H8 Q := by
    intro f hf
    rw [← ok_eq] at hf
    by_cases hb : ((sealOut (k0 l) (n0 l) (p0 l)).2 != 0) = true
    · rw [hb] at hf ⊢
      exact hf
    · have hb' : ((sealOut (k0 l) (n0 l) (p0 l)).2 != 0) = false := by simpa using hb
      rw [hb'] at hf ⊢
      have hbad : badF (k0 l) (n0 l) (p0 l) = false := by
        unfold sealOut at hb'
        cases hx : badF (k0 l) (n0 l) (p0 l) with
        | false => rfl
        | true => rw [hx] at hb'; simp at hb'
      have hLs : L = sealed (k0 l) (n0 l) (p0 l) := by
        unfold sealOut at hL
        rw [hbad] at hL
        have hq2 : bcells (sealed (k0 l) (n0 l) (p0 l)) = bcells L := hL
        have h3 : (sealed (k0 l) (n0 l) (p0 l)).length = 128 := sealed_length (by omega)
        have := aEq_bcells (sealed (k0 l) (n0 l) (p0 l)) L h3 hLl
        rw [hq2, aEq_bcells _ _ hLl hLl] at this
        simp at this
        exact this.symm
      show ((ldG 128 ⟨H6.size, 0, none⟩ >>= fun x48_50 => (ldG 128 ⟨b1, 0, none⟩ >>= fun x49_51 => eqA .u8 128 x48_50 x49_51 >>= fun x50_52 => M.pure (!x50_52))) >>= f).wp H8 Q
      refine assoc_b (ldB128 h9' hLl ?_)
      refine assoc_b (ldB128 h1' hl ?_)
      refine assoc_b (eqA_b (nums_bcells _ (by omega)) (nums_bcells _ (by omega)) ?_)
      rw [aEq_bcells _ _ hLl hl, hLs]
      exact hf
  refine hcond ?_
  refine ite_w (fun hc => ?_) (fun hc => ?_)
  · refine need_b rfl ?_
    refine stF (k' := 0) (n' := 0) (s' := Sl.nil) h2' (fun H9 u9 h2'' => ?_)
    refine ldF h2'' ?_
    exact H1 (by simpa using hc) _ (hE8.upd u9 g2)
  · refine ldF h5'' ?_
    refine need_b rfl ?_
    refine stF h2' (fun H9 u9 h2'' => ?_)
    refine ldF h2'' ?_
    exact H2 (by simpa using hc) _ (hE8.upd u9 g2) (hr8.upd u9 (fun a ha => (hrb a ha).1))

theorem ropen_spec {x0 : Array Value} {l : List UInt8} {h : Heap} {Q : Array Value × Int → Heap → Prop} (hx : x0 = bcells l) (hl : l.length = 128)
    (H1 : openOk l = false → ∀ h', Ext h h' → Q (fcells 0 0 Sl.nil, 50) h') (H2 : openOk l = true → ∀ h' s, Ext h h' → Bys h' s (p0 l) → Q (fcells (k0 l) (n0 l) s, 0) h') : (rambleref05_Open x0).wp h Q := by
  subst hx
  unfold rambleref05_Open
  refine mkB_b ?_
  have e1 : Ext h (h.push (.cells (bcells l) ty_api_Sector)) := Ext.push _ _
  have hB1 : BB (h.push (.cells (bcells l) ty_api_Sector)) h.size ty_api_Sector l := get_push_eq
  have s1 : (h.push (Obj.cells (bcells l) ty_api_Sector)).size = h.size + 1 := by simp
  generalize h.push (Obj.cells (bcells l) ty_api_Sector) = h1 at e1 hB1 s1 ⊢
  refine mkB_b ?_
  have e2 : Ext h (h1.push (.cells (fcells 0 0 Sl.nil) ty_api_Frame)) := e1.trans (Ext.push _ _)
  have hB2 : BB (h1.push (.cells (fcells 0 0 Sl.nil) ty_api_Frame)) h.size ty_api_Sector l := hB1.ext (Ext.push _ _)
  have hF2 : FB (h1.push (.cells (fcells 0 0 Sl.nil) ty_api_Frame)) (h.size + 1) 0 0 Sl.nil := by rw [← s1]; exact FB.mk
  have s2 : (h1.push (.cells (fcells 0 0 Sl.nil) ty_api_Frame)).size = h.size + 2 := by simp [s1]
  rw [s1]
  change M.wp _ (h1.push (.cells (fcells 0 0 Sl.nil) ty_api_Frame)) Q
  generalize h1.push (.cells (fcells 0 0 Sl.nil) ty_api_Frame) = h2 at e2 hB2 hF2 s2 ⊢
  clear hB1 e1 s1
  refine ixA_b (by omega) (by omega) ?_
  rw [show ((0 : Int).toNat * 1) = 0 from rfl, add_mk, Nat.zero_add]
  have g1 : l[1]? = some (l.getD 1 0) := by
    rw [List.getD_eq_getElem?_getD, List.getElem?_eq_getElem (by omega)]; rfl
  have g0 : l[0]? = some (l.getD 0 0) := by
    rw [List.getD_eq_getElem?_getD, List.getElem?_eq_getElem (by omega)]; rfl
  have c1 : ∀ {H : Heap}, BB H h.size ty_api_Sector l → hcell H ⟨h.size, 1, none⟩ = some (.int .u8 (m0 l : Int)) := fun hb => by
    rw [hcell_blk hb, bcells_get, g1]; rfl
  have c0 : ∀ {H : Heap}, BB H h.size ty_api_Sector l → hcell H ⟨h.size, 0, none⟩ = some (.int .u8 (k0 l)) := fun hb => by
    rw [hcell_blk hb, bcells_get, g0]; rfl
  refine ldI_b (c0 hB2) ?_
  have hm256 : m0 l < 256 := UInt8.toNat_lt _
  have w1 : IntKind.wrap .i64 (m0 l : Int) = (m0 l : Int) := w64 (by omega) (by omega)
  have hk : IntKind.wrap .i64 (k0 l) = k0 l := w64 (by unfold k0; omega) (by unfold k0; have := UInt8.toNat_lt (l.getD 0 0); omega)
  rw [hk]
  refine mkB_b ?_
  have e3 : Ext h (h2.push (.cells (fcells 0 0 Sl.nil) ty_api_Frame)) := e2.trans (Ext.push _ _)
  have hB3 : BB (h2.push (.cells (fcells 0 0 Sl.nil) ty_api_Frame)) h.size ty_api_Sector l := hB2.ext (Ext.push _ _)
  have hF3 : FB (h2.push (.cells (fcells 0 0 Sl.nil) ty_api_Frame)) (h.size + 1) 0 0 Sl.nil := hF2.ext (Ext.push _ _)
  have hF4 : FB (h2.push (.cells (fcells 0 0 Sl.nil) ty_api_Frame)) (h.size + 2) 0 0 Sl.nil := by rw [← s2]; exact FB.mk
  have s3 : (h2.push (.cells (fcells 0 0 Sl.nil) ty_api_Frame)).size = h.size + 3 := by simp [s2]
  rw [s2]
  change M.wp _ (h2.push (.cells (fcells 0 0 Sl.nil) ty_api_Frame)) Q
  generalize h2.push (.cells (fcells 0 0 Sl.nil) ty_api_Frame) = h3 at e3 hB3 hF3 hF4 s3 ⊢
  clear hB2 e2 s2 hF2
  refine need_b rfl ?_
  refine stF (k' := k0 l) (n' := 0) (s' := Sl.nil) hF4 (fun h4 u4 hG4 => ?_)
  generalize hq : (l.drop 2).take 8 = q8
  have hql : q8.length = 8 := by rw [← hq]; simp; omega
  have hGs : FB h4 (h.size + 2) (k0 l) (IntKind.wrap .i64 ((beN (q8.take 0) : Nat) : Int)) Sl.nil := hG4
  refine M.loop_inv (fun (t' : Int) h' => ∃ j : Nat, j ≤ 8 ∧ t' = (j : Int) ∧ Upd (h.size + 2) h3 h' ∧ FB h' (h.size + 2) (k0 l) (IntKind.wrap .i64 ((beN (q8.take j) : Nat) : Int)) Sl.nil) (fun t' _ => (8 - t').toNat) ?_ ⟨0, by omega, rfl, u4, hGs⟩
  clear u4 hG4 hGs
  rintro t' h' ⟨j, hj, rfl, hu, hF⟩ self hself
  have hB := hB3.upd hu (by omega)
  have hF2 := hF3.upd hu (by omega)
  have hEu := e3.upd hu (by omega)
  unfold rambleref05_Open_l1
  refine ite_w (fun hc => ?_) (fun hc => ?_)
  · have hlt : j < 8 := by have := of_decide_eq_true hc; omega
    have e1 : IntKind.wrap .i64 (2 + (j : Int)) = ((2 + j : Nat) : Int) := by rw [w64 (by omega) (by omega)]; omega
    have e2 : IntKind.wrap .i64 ((j : Int) + 1) = ((j + 1 : Nat) : Int) := by rw [w64 (by omega) (by omega)]; rfl
    rw [e1, e2]
    refine ixA_b (by omega) (by omega) ?_
    rw [show (((2 + j : Nat) : Int).toNat * 1) = 2 + j by omega, add_mk, Nat.zero_add, add_mk, Nat.zero_add]
    refine ldI_b (n := IntKind.wrap .i64 ((beN (q8.take j) : Nat) : Int)) (by rw [hF.cell]; rfl) ?_
    have hgj : l[2 + j]? = some q8[j] := by
      rw [← List.getElem?_eq_getElem (show j < q8.length by omega), ← hq, List.getElem?_take, if_pos hlt, List.getElem?_drop]
    refine ldI_b (n := (q8[j].toNat : Int)) (by rw [hcell_blk hB, bcells_get, hgj]; rfl) ?_
    rw [step_i64]
    refine stV_b (x := .int .i64 (IntKind.wrap .i64 ((beN (q8.take j) : Nat) : Int))) (by rw [hF.cell]; rfl) (hfrozen_blk hF) rfl ?_
    refine hself _ _ ⟨j + 1, by omega, rfl, hu.trans (Upd.hset _ _ _ _), ?_⟩ (by omega)
    unfold FB
    rw [hset_at hF, take_snoc (by omega), beN_snoc]
    rfl
  · have : j = 8 := by have := of_decide_eq_false hc; omega
    subst this
    rw [List.take_of_length_le (by omega)] at hF
    have hn0 : IntKind.wrap .i64 ((beN q8 : Nat) : Int) = n0 l := by rw [n0, hq]
    rw [hn0] at hF
    refine ixA_b (by omega) (by omega) ?_
    rw [show ((1 : Int).toNat * 1) = 1 from rfl, add_mk, Nat.zero_add]
    refine ldI_b (c1 hB) ?_
    refine ite_w (fun hc => ?_) (fun hc => ?_)
    · refine need_b rfl ?_
      refine stF (k' := 0) (n' := 0) (s' := Sl.nil) hF2 (fun H9 u9 h2'' => ?_)
      refine ldF h2'' ?_
      exact H1 (ok_bad hl (by have := of_decide_eq_true hc; omega)) _ (hEu.upd u9 (by omega))
    · have hm : m0 l ≤ 112 := by have := of_decide_eq_false hc; omega
      refine ixA_b (by omega) (by omega) ?_
      rw [show ((1 : Int).toNat * 1) = 1 from rfl, add_mk, add_mk, Nat.zero_add, Nat.zero_add]
      refine ldL_b (n := Sl.nil) (by rw [hF.cell]; rfl) ?_
      refine ldI_b (c1 hB) ?_
      have w2 : IntKind.wrap .i64 (10 + (m0 l : Int)) = ((10 + m0 l : Nat) : Int) := by rw [w64 (by omega) (by omega)]; omega
      rw [w1, w2]
      refine slA_b (by omega) (by omega) (by omega) ?_
      rw [show (⟨some (if 128 = (10 : Int).toNat then (⟨h.size, 0, none⟩ : Addr) else (⟨h.size, 0, none⟩ : Addr).add ((10 : Int).toNat * 1)), ((10 + m0 l : Nat) : Int).toNat - (10 : Int).toNat, 128 - (10 : Int).toNat⟩ : Sl) = ⟨some ⟨h.size, 10, none⟩, m0 l, 118⟩ by
        have : ((10 + m0 l : Nat) : Int).toNat - (10 : Int).toNat = m0 l := by omega
        rw [this]; rfl]
      have hby := hB.bys 10 (m0 l) 118 (by omega)
      have hpl := p0_len hl hm
      have hpe : (List.drop 10 l).take (m0 l) = p0 l := rfl
      rw [hpe] at hby
      refine bind_w (ap_empty rfl rfl hby (by omega) (fun h5 r e5 hr hf => ?_))
      have hsu := hu.size
      have s5 := e5.size
      have hrb : ∀ a, r.base = some a → a.block ≠ h.size + 1 ∧ a.block ≠ h.size + 2 := fun a ha => by
        rcases hf with ⟨e, _⟩ | hf
        · subst e; cases ha
        · have := hf a ha; omega
      exact ropen_tail hl hm (hEu.trans e5) (hB.ext e5) (hF2.ext e5) (hF.ext e5) hr (by omega) (by omega) (by omega) (by omega) (by omega) (by omega) hrb H1 (fun h1 h' e' b' => H2 h1 h' r e' b')
end Gx
