/- Own proofs: what those Lean programs compute. No condition. -/
import Derived.Test.YtklegajjmeajiaaHSeal2
namespace Gx
open Go
set_option linter.unusedVariables false
theorem rseal_end {Q : Array Value × Int → Heap → Prop} {b2 b4 : Nat} {t2 t4 : TypeId} {l z : List UInt8} {c : BitVec 32} {h : Heap} (hne : b2 ≠ b4) (hl : l.length = 124) (hz : z.length = 128)
    (h2 : BB h b2 t2 z) (h4 : BB h b4 t4 (l ++ List.replicate 4 0)) (H : ∀ h' h'', Upd b4 h h' → Upd b2 h' h'' → Q (bcells (l ++ le4 c), 0) h'') :
    (M.loop (rambleref05_Seal_l3 ⟨b2, 0, none⟩ ⟨b4, 0, none⟩ (wi c)) 0).wp h Q := by
  have hl4 := le4_length c
  refine M.loop_inv (fun t' h' => ∃ j : Nat, j ≤ 4 ∧ t' = (j : Int) ∧ Upd b4 h h' ∧ BB h' b4 t4 ((l ++ List.replicate 4 0).take 124 ++ (le4 c).take j ++ (l ++ List.replicate 4 0).drop (124 + j))) (fun t' _ => (4 - t').toNat) ?_ ⟨0, by omega, rfl, Upd.refl _ _, by simpa using h4⟩
  rintro t' h' ⟨j, hj, rfl, hu, hB⟩ self hself
  unfold rambleref05_Seal_l3
  refine ite_w (fun hc => ?_) (fun hc => ?_)
  · have hlt : j < 4 := by have := of_decide_eq_true hc; omega
    have e1 : IntKind.wrap .i64 (8 * (j : Int)) = ((8 * j : Nat) : Int) := by rw [w64 (by omega) (by omega)]; omega
    have e2 : IntKind.wrap .i64 ((j : Int) + 1) = ((j + 1 : Nat) : Int) := by rw [w64 (by omega) (by omega)]; rfl
    have e3 : IntKind.wrap .i64 (124 + (j : Int)) = ((124 + j : Nat) : Int) := by rw [w64 (by omega) (by omega)]; omega
    refine pShr_b (by rw [e1]; omega) ?_
    rw [e1, iShr_nn (by simp [wi]) (show 8 * j ≤ 32 by omega), e3, e2]
    refine ixA_b (by omega) (by omega) ?_
    rw [show (((124 + j : Nat) : Int).toNat * 1) = 124 + j by omega, add_mk, Nat.zero_add]
    refine stB_b hB (by simp; omega) ?_
    refine hself _ _ ⟨j + 1, by omega, rfl, hu.trans (Upd.hset _ _ _ _), ?_⟩ (by omega)
    have eq := splice_step (l := l ++ List.replicate 4 0) (vs := le4 c) (o := 124) (j := j) (by omega) (by simp; omega)
    have hx : (le4 c)[j]'(by omega) = u8 (wi c / 2 ^ (8 * j)) := by simp [le4]
    rw [← hx, ← eq]
    exact hB.set (124 + j) _
  · have : j = 4 := by have := of_decide_eq_false hc; omega
    subst this
    have e : (l ++ List.replicate 4 0).take 124 ++ (le4 c).take 4 ++ (l ++ List.replicate 4 (0 : UInt8)).drop (124 + 4) = l ++ le4 c := by
      rw [List.take_of_length_le (by omega : (le4 c).length ≤ 4), List.drop_eq_nil_of_le (by simp; omega), List.append_nil]
      congr 1
      rw [List.take_append_of_le_length (by omega), List.take_of_length_le (by omega)]
    rw [e] at hB
    refine ldB128 hB (by simp; omega) ?_
    refine need_b (by rw [bcells_size]; simp; omega) ?_
    refine stB128 (h2.upd hu hne) hz (by simp; omega) (fun h'' u2 hB2 => ?_)
    refine ldB128 hB2 (by simp; omega) ?_
    exact H _ _ hu u2

theorem rseal_spec {x0 : Array Value} {k n : Int} {s : Sl} {pay : List UInt8} {h : Heap} {Q : Array Value × Int → Heap → Prop} (hx : x0 = fcells k n s) (hb : Bys h s pay) (hlen : pay.length ≤ 9223372036854775807) (hn : n ≤ 9223372036854775807)
    (H : ∀ h', Ext h h' → Q (sealOut k n pay) h') : (rambleref05_Seal x0).wp h Q := by
  subst hx
  unfold rambleref05_Seal
  refine mkB_b (mkB_b (mkB_b ?_))
  have hsz : (h.push (.cells (fcells k n s) ty_api_Frame)).size = h.size + 1 := by simp
  generalize hh2 : (h.push (.cells (fcells k n s) ty_api_Frame)).push (.cells (Array.replicate 128 (.int .u8 0)) ty_api_Sector) = h2
  rw [hsz]
  have hs2 : h2.size = h.size + 2 := by rw [← hh2]; simp
  have hF : h2[h.size]? = some (.cells (fcells k n s) ty_api_Frame (0, 0)) := by
    rw [← hh2, get_push_lt (by simp), get_push_eq]
  have hZ : BB h2 (h.size + 1) ty_api_Sector zeros := by
    unfold BB
    rw [← hh2, ← zeros_cells]
    conv => lhs; rw [← hsz]
    rw [get_push_eq]
  have hE : Ext h h2 := by rw [← hh2]; exact ((Ext.refl h).pushed _).pushed _
  clear hh2
  generalize hh3 : h2.push (.cells (Array.replicate 128 (.int .u8 0)) ty_api_Sector) = h3
  rw [hs2]
  have hE3 : Ext h2 h3 := by rw [← hh3]; exact Ext.push _ _
  have hF3 := hE3.blk hF
  have hZ3 : BB h3 (h.size + 1) ty_api_Sector zeros := hE3.blk hZ
  have h4 : BB h3 (h.size + 2) ty_api_Sector zeros := by
    unfold BB
    rw [← hh3, ← zeros_cells, ← hs2, get_push_eq]
  clear hh3
  have c0 : ∀ {H : Heap}, H[h.size]? = some (.cells (fcells k n s) ty_api_Frame (0, 0)) → hcell H ((⟨h.size, 0, none⟩ : Addr).add 0) = some (.int .i64 k) := fun hH => by rw [add_mk, hcell_blk hH]; rfl
  have c1 : ∀ {H : Heap}, H[h.size]? = some (.cells (fcells k n s) ty_api_Frame (0, 0)) → hcell H ((⟨h.size, 0, none⟩ : Addr).add 1) = some (.int .i64 n) := fun hH => by rw [add_mk, hcell_blk hH]; rfl
  have c2 : ∀ {H : Heap}, H[h.size]? = some (.cells (fcells k n s) ty_api_Frame (0, 0)) → hcell H ((⟨h.size, 0, none⟩ : Addr).add 2) = some s.v := fun hH => by rw [add_mk, hcell_blk hH]; rfl
  refine ldI_b (c0 hF3) ?_
  refine or_b (c := decide (k > 255)) (fun _ Q' hq => ldI_b (c0 hF3) hq) ?_
  refine or_b (c := decide (n < 0)) (fun _ Q' hq => ldI_b (c1 hF3) hq) ?_
  refine or_b (c := decide ((s.len : Int) > 112)) (fun _ Q' hq => ldL_b (c2 hF3) hq) ?_
  have hbad : (decide (k < 1) || decide (k > 255) || decide (n < 0) || decide ((s.len : Int) > 112)) = badF k n pay := by rw [hb.len]; rfl
  rw [hbad]
  refine ite_w (fun hc => ?_) (fun hc => ?_)
  · refine ldB128 h4 rfl ?_
    refine need_b (by rw [bcells_size]; rfl) ?_
    refine stB128 hZ3 rfl rfl (fun h3 u3 hB3 => ?_)
    refine ldB128 hB3 rfl ?_
    have := H h3 ((hE.trans hE3).upd u3 (by omega))
    rw [sealOut, if_pos hc] at this
    exact this
  · have hgood : 1 ≤ k ∧ k ≤ 255 ∧ 0 ≤ n ∧ pay.length ≤ 112 := by
      unfold badF at hc
      simp only [Bool.or_eq_false_iff, decide_eq_false_iff_not] at hc
      omega
    obtain ⟨g1, g2, g3, g4⟩ := hgood
    refine ldI_b (c0 hF3) ?_
    refine ixA_b (by omega) (by omega) ?_
    rw [show ((0 : Int).toNat * 1) = 0 by rfl, add_mk, Nat.zero_add]
    refine stB_b h4 (by simp [zeros]) ?_
    have u4 := Upd.hset h3 (h.size + 2) 0 (bv (u8 k))
    have h5 := h4.set 0 (u8 k)
    generalize Gx.hset h3 ⟨h.size + 2, 0, none⟩ (bv (u8 k)) = H4 at u4 h5 ⊢
    have hF4 := hF3; rw [← u4.ne h.size (by omega)] at hF4
    refine ldL_b (c2 hF4) ?_
    refine ixA_b (by omega) (by omega) ?_
    rw [show ((1 : Int).toNat * 1) = 1 by rfl, add_mk, Nat.zero_add, hb.len]
    refine stB_b h5 (by simp [zeros]) ?_
    have u5 := u4.trans (Upd.hset H4 (h.size + 2) 1 (bv (u8 pay.length)))
    have h6 := h5.set 1 (u8 pay.length)
    generalize Gx.hset H4 ⟨h.size + 2, 1, none⟩ (bv (u8 pay.length)) = H5 at u5 h6 ⊢
    have hl8 := be8_length n
    generalize hl2 : (zeros.set 0 (u8 k)).set 1 (u8 pay.length) = L2 at h6
    have hL2 : L2.length = 128 := by rw [← hl2]; simp [zeros]
    refine M.loop_inv (fun t' h' => ∃ j : Nat, j ≤ 8 ∧ t' = (j : Int) ∧ Upd (h.size + 2) h3 h' ∧ BB h' (h.size + 2) ty_api_Sector (L2.take 2 ++ (be8 n).take j ++ L2.drop (2 + j))) (fun t' _ => (8 - t').toNat) ?_ ⟨0, by omega, rfl, u5, by simpa using h6⟩
    rintro t' h' ⟨j, hj, rfl, hu, hB⟩ self hself
    have hF5 := hF3; rw [← hu.ne h.size (by omega)] at hF5
    unfold rambleref05_Seal_l1
    refine ite_w (fun hc1 => ?_) (fun hc1 => ?_)
    · have hlt : j < 8 := by have := of_decide_eq_true hc1; omega
      refine ldI_b (c1 hF5) ?_
      have e1 : IntKind.wrap .i64 (56 - (IntKind.wrap .i64 (8 * (j : Int)))) = ((56 - 8 * j : Nat) : Int) := by
        rw [w64 (n := 8 * (j : Int)) (by omega) (by omega), w64 (by omega) (by omega)]
        omega
      have e2 : IntKind.wrap .i64 ((j : Int) + 1) = ((j + 1 : Nat) : Int) := by rw [w64 (by omega) (by omega)]; rfl
      have e3 : IntKind.wrap .i64 (2 + (j : Int)) = ((2 + j : Nat) : Int) := by rw [w64 (by omega) (by omega)]; omega
      refine pShr_b (by rw [e1]; omega) ?_
      rw [e1, iShr_nn g3 (show 56 - 8 * j ≤ 64 by omega), e3, e2]
      refine ixA_b (by omega) (by omega) ?_
      rw [show (((2 + j : Nat) : Int).toNat * 1) = 2 + j by omega, add_mk, Nat.zero_add]
      refine stB_b hB (by simp; omega) ?_
      refine hself _ _ ⟨j + 1, by omega, rfl, hu.trans (Upd.hset _ _ _ _), ?_⟩ (by omega)
      have eq := splice_step (l := L2) (vs := be8 n) (o := 2) (j := j) (by omega) (by omega)
      have hx : (be8 n)[j]'(by omega) = u8 (n / 2 ^ (56 - 8 * j)) := by simp [be8]
      rw [← hx, ← eq]
      exact hB.set (2 + j) _
    · have : j = 8 := by have := of_decide_eq_false hc1; omega
      subst this
      rw [List.take_of_length_le (by omega : (be8 n).length ≤ 8)] at hB
      generalize hl3 : L2.take 2 ++ be8 n ++ L2.drop (2 + 8) = L3 at hB
      have hL3 : L3.length = 128 := by rw [← hl3]; simp; omega
      clear hself
      refine M.loop_inv (fun t' h' => ∃ j : Nat, j ≤ pay.length ∧ t' = (j : Int) ∧ Upd (h.size + 2) h3 h' ∧ BB h' (h.size + 2) ty_api_Sector (L3.take 10 ++ pay.take j ++ L3.drop (10 + j))) (fun t' _ => ((pay.length : Int) - t').toNat) ?_ ⟨0, by omega, rfl, hu, by simpa using hB⟩
      clear hu hB hF5
      rintro t' h' ⟨j, hj, rfl, hu, hB⟩ self hself
      have hF5 := hF3; rw [← hu.ne h.size (by omega)] at hF5
      unfold rambleref05_Seal_l2
      refine ldL_b (c2 hF5) ?_
      rw [hb.len]
      refine ite_w (fun hc2 => ?_) (fun hc2 => ?_)
      · have hlt : j < pay.length := by have := of_decide_eq_true hc2; omega
        refine ldL_b (c2 hF5) ?_
        have hb5 : Bys h' s pay := hb.ext ((hE.trans hE3).upd hu (by omega))
        obtain ⟨a, ha, hcell⟩ := hb5.get hlt
        refine ixL_b (by omega) (by rw [hb.len]; omega) ha ?_
        refine ldI_b (n := (pay[j].toNat : Int)) (by rw [show ((j : Int).toNat * 1) = j by omega]; exact hcell) ?_
        have e2 : IntKind.wrap .i64 ((j : Int) + 1) = ((j + 1 : Nat) : Int) := by rw [w64 (by omega) (by omega)]; rfl
        have e3 : IntKind.wrap .i64 (10 + (j : Int)) = ((10 + j : Nat) : Int) := by rw [w64 (by omega) (by omega)]; omega
        rw [e3, e2]
        refine ixA_b (by omega) (by omega) ?_
        rw [show (((10 + j : Nat) : Int).toNat * 1) = 10 + j by omega, add_mk, Nat.zero_add]
        refine stV_b (hB.cell (by simp; omega)) (hB.frozen _) rfl ?_
        refine hself _ _ ⟨j + 1, by omega, rfl, hu.trans (Upd.hset _ _ _ _), ?_⟩ (by omega)
        have eq := splice_step (l := L3) (vs := pay) (o := 10) (j := j) (by omega) (by omega)
        rw [← eq]
        exact hB.set (10 + j) _
      · have : j = pay.length := by have := of_decide_eq_false hc2; omega
        subst this
        rw [List.take_of_length_le (Nat.le_refl _)] at hB
        have hlist : L3.take 10 ++ pay ++ L3.drop (10 + pay.length) = hd k n pay ++ List.replicate 4 0 := by
          have z2 : L2.take 2 = [u8 k, u8 pay.length] := by rw [← hl2]; rfl
          have zd : L2.drop (2 + 8) = List.replicate 118 0 := by rw [← hl2]; rfl
          rw [← hl3, z2, zd, List.take_append_of_le_length (by simp [be8_length]), List.take_of_length_le (by simp [be8_length])]
          have hl10 : ([u8 k, u8 pay.length] ++ be8 n).length = 10 := by simp [be8_length]
          rw [List.drop_append, hl10, List.drop_eq_nil_of_le (by rw [hl10]; omega), List.nil_append, List.drop_replicate]
          unfold hd
          rw [List.append_assoc (([u8 k, u8 pay.length] ++ be8 n) ++ pay), List.replicate_append_replicate]
          congr 2
          omega
        rw [hlist] at hB
        refine slA_b (by omega) (by omega) (by omega) ?_
        rw [show (⟨some (if 128 = (0 : Int).toNat then (⟨h.size + 2, 0, none⟩ : Addr) else (⟨h.size + 2, 0, none⟩ : Addr).add ((0 : Int).toNat * 1)), (124 : Int).toNat - (0 : Int).toNat, 128 - (0 : Int).toNat⟩ : Sl) = ⟨some ⟨h.size + 2, 0, none⟩, 124, 128⟩ from rfl]
        have hl := hd_length (k := k) (n := n) g4
        have hbs := hB.bys 0 124 128 (by simp; omega)
        rw [List.drop_zero, List.take_append_of_le_length (by omega), List.take_of_length_le (by omega)] at hbs
        refine bind_w (rsum_spec hbs (by omega) ?_)
        have hZ7 : BB h' (h.size + 1) ty_api_Sector zeros := hZ3.upd hu (by omega)
        refine rseal_end (by omega) hl rfl hZ7 hB (fun h' h'' v1 v2 => ?_)
        have hE' := ((hE.trans hE3).upd hu (by omega)).upd v1 (by omega) |>.upd v2 (by omega)
        have := H _ hE'
        rw [sealOut, hc] at this
        exact this
end Gx
