/- Own proofs: what those Lean programs compute. No condition. -/
import Derived.Test.YtklegajjmeajiaaHSeal
namespace Gx
open Go
set_option linter.unusedVariables false
theorem or_b {β : Type} {h : Heap} {Q : β → Heap → Prop} {b c : Bool} {m : M Bool} {f : Bool → M β} (hm : b = false → ∀ Q' : Bool → Heap → Prop, Q' c h → m.wp h Q') (H : (f (b || c)).wp h Q) : ((M.ite b (M.pure true) m) >>= f).wp h Q := by
  cases b with
  | true => exact H
  | false => exact hm rfl _ H
theorem and_b {β : Type} {h : Heap} {Q : β → Heap → Prop} {b c : Bool} {m : M Bool} {f : Bool → M β} (hm : b = true → ∀ Q' : Bool → Heap → Prop, Q' c h → m.wp h Q') (H : (f (b && c)).wp h Q) : ((M.ite b m (M.pure false)) >>= f).wp h Q := by
  cases b with
  | true => exact hm rfl _ H
  | false => exact H
def hd (k n : Int) (pay : List UInt8) : List UInt8 := [u8 k, u8 pay.length] ++ be8 n ++ pay ++ List.replicate (114 - pay.length) 0
def le4 (c : BitVec 32) : List UInt8 := (List.range 4).map fun i => u8 (wi c / 2 ^ (8 * i))
def sealed (k n : Int) (pay : List UInt8) : List UInt8 := hd k n pay ++ le4 (crc (hd k n pay))
def badF (k n : Int) (pay : List UInt8) : Bool := decide (k < 1) || decide (k > 255) || decide (n < 0) || decide ((pay.length : Int) > 112)
def zeros : List UInt8 := List.replicate 128 0
def sealOut (k n : Int) (pay : List UInt8) : Array Value × Int := if badF k n pay then (bcells zeros, 1) else (bcells (sealed k n pay), 0)
def fcells (k n : Int) (s : Sl) : Array Value := #[.int .i64 k, .int .i64 n, s.v]
theorem le4_length (c : BitVec 32) : (le4 c).length = 4 := by simp [le4]
theorem hd_length {k n : Int} {pay : List UInt8} (h : pay.length ≤ 112) : (hd k n pay).length = 124 := by simp [hd, be8_length]; omega
theorem sealed_length {k n : Int} {pay : List UInt8} (h : pay.length ≤ 112) : (sealed k n pay).length = 128 := by simp [sealed, hd_length h, le4_length]
theorem zeros_cells : (Array.replicate 128 (.int .u8 0) : Array Value) = bcells zeros := by
  apply Array.ext'
  simp [bcells, zeros]
  rfl
theorem one_bcells (l : List UInt8) : ∀ v ∈ (bcells l).toList, one v = true := by
  intro v hv
  rw [bcells_toList, List.mem_map] at hv
  obtain ⟨b, _, rfl⟩ := hv
  rfl
theorem ldB128 {β : Type} {h : Heap} {Q : β → Heap → Prop} {b : Nat} {t : TypeId} {l : List UInt8} {f : Array Value → M β} (hb : BB h b t l) (hl : l.length = 128) (H : (f (bcells l)).wp h Q) : (ldG 128 ⟨b, 0, none⟩ >>= f).wp h Q :=
  ldG_b (by rw [bcells_size]; exact hl) (fun i hi => by rw [add_mk, Nat.zero_add, hcell_blk hb]) H
theorem stB128 {β : Type} {h : Heap} {Q : β → Heap → Prop} {b : Nat} {t : TypeId} {l l' : List UInt8} {f : Unit → M β} (hb : BB h b t l) (hl : l.length = 128) (hl' : l'.length = 128)
    (H : ∀ h', Upd b h h' → BB h' b t l' → (f ()).wp h' Q) : (stG ⟨b, 0, none⟩ (bcells l') >>= f).wp h Q := by
  refine stG_b (fun i hi => ?_) (one_bcells _) (H _ ?_ ?_)
  · rw [bcells_size] at hi
    rw [add_mk, Nat.zero_add]
    exact ⟨⟨_, hb.cell (by omega)⟩, hb.frozen i⟩
  · exact Upd.hsetL _ _ _ _ _
  · have := hb.lay 0 l' (by omega)
    simp only [List.take_zero, List.nil_append, Nat.zero_add] at this
    rw [List.drop_eq_nil_of_le (by omega), List.append_nil] at this
    exact this

/-- the end of Seal: the sum's four bytes, and what is told -/
theorem seal_end {Q : Array Value × Int → Heap → Prop} {b2 b4 : Nat} {t2 t4 : TypeId} {l z : List UInt8} {c : BitVec 32} {h : Heap} (hne : b2 ≠ b4) (hl : l.length = 124) (hz : z.length = 128)
    (h2 : BB h b2 t2 z) (h4 : BB h b4 t4 (l ++ List.replicate 4 0)) (H : ∀ h' h'', Upd b4 h h' → Upd b2 h' h'' → Q (bcells (l ++ le4 c), 0) h'') :
    (M.loop (sector_Seal_l1 ⟨b2, 0, none⟩ ⟨b4, 0, none⟩ (wi c)) 0).wp h Q := by
  have hl4 := le4_length c
  refine M.loop_inv (fun t' h' => ∃ j : Nat, j ≤ 4 ∧ t' = (j : Int) ∧ Upd b4 h h' ∧ BB h' b4 t4 ((l ++ List.replicate 4 0).take 124 ++ (le4 c).take j ++ (l ++ List.replicate 4 0).drop (124 + j))) (fun t' _ => (4 - t').toNat) ?_ ⟨0, by omega, rfl, Upd.refl _ _, by simpa using h4⟩
  rintro t' h' ⟨j, hj, rfl, hu, hB⟩ self hself
  unfold sector_Seal_l1
  refine ite_w (fun hc => ?_) (fun hc => ?_)
  · have hlt : j < 4 := by have := of_decide_eq_true hc; omega
    have e1 : IntKind.wrap .i64 (8 * (j : Int)) = ((8 * j : Nat) : Int) := by rw [w64 (by omega) (by omega)]; omega
    have e2 : IntKind.wrap .i64 ((j : Int) + 1) = ((j + 1 : Nat) : Int) := by rw [w64 (by omega) (by omega)]; rfl
    have e3 : IntKind.wrap .i64 (124 + (j : Int)) = ((124 + j : Nat) : Int) := by rw [w64 (by omega) (by omega)]; omega
    refine pShr_b (by rw [e1]; omega) ?_
    rw [e1, iShr_nn (by simp [wi]) (show 8 * j ≤ 32 by omega), e3, e2]
    refine ixA_b (by omega) (by omega) ?_
    rw [show (((124 + j : Nat) : Int).toNat * 1) = 124 + j by omega, add_mk, Nat.zero_add]
    refine stB_b hB (by simp; omega) ?_
    refine hself _ _ ⟨j + 1, by omega, rfl, hu.trans (Upd.hset _ _ _ _), ?_⟩ (by omega)
    have eq := splice_step (l := l ++ List.replicate 4 0) (vs := le4 c) (o := 124) (j := j) (by omega) (by simp; omega)
    have hx : (le4 c)[j]'(by omega) = u8 (wi c / 2 ^ (8 * j)) := by simp [le4]
    rw [← hx, ← eq]
    exact hB.set (124 + j) _
  · have : j = 4 := by have := of_decide_eq_false hc; omega
    subst this
    have e : (l ++ List.replicate 4 0).take 124 ++ (le4 c).take 4 ++ (l ++ List.replicate 4 (0 : UInt8)).drop (124 + 4) = l ++ le4 c := by
      rw [List.take_of_length_le (by omega : (le4 c).length ≤ 4), List.drop_eq_nil_of_le (by simp; omega), List.append_nil]
      congr 1
      rw [List.take_append_of_le_length (by omega), List.take_of_length_le (by omega)]
    rw [e] at hB
    refine ldB128 hB (by simp; omega) ?_
    refine need_b (by rw [bcells_size]; simp; omega) ?_
    refine stB128 (h2.upd hu hne) hz (by simp; omega) (fun h'' u2 hB2 => ?_)
    refine ldB128 hB2 (by simp; omega) ?_
    exact H _ _ hu u2

theorem seal_spec {x0 : Array Value} {k n : Int} {s : Sl} {pay : List UInt8} {h : Heap} {Q : Array Value × Int → Heap → Prop} (hx : x0 = fcells k n s) (hb : Bys h s pay) (hlen : pay.length ≤ 9223372036854775807) (hn : n ≤ 9223372036854775807)
    (H : ∀ h', Ext h h' → Q (sealOut k n pay) h') : (sector_Seal x0).wp h Q := by
  subst hx
  unfold sector_Seal
  refine mkB_b (mkB_b ?_)
  generalize hh2 : (h.push (.cells (fcells k n s) ty_api_Frame)).push (.cells (Array.replicate 128 (.int .u8 0)) ty_api_Sector) = h2
  have hsz : (h.push (.cells (fcells k n s) ty_api_Frame)).size = h.size + 1 := by simp
  rw [hsz]
  have hs2 : h2.size = h.size + 2 := by rw [← hh2]; simp
  have hF : h2[h.size]? = some (.cells (fcells k n s) ty_api_Frame (0, 0)) := by
    rw [← hh2, get_push_lt (by simp), get_push_eq]
  have hZ : BB h2 (h.size + 1) ty_api_Sector zeros := by
    unfold BB
    rw [← hh2, ← zeros_cells]
    conv => lhs; rw [← hsz]
    rw [get_push_eq]
  have hE : Ext h h2 := by rw [← hh2]; exact ((Ext.refl h).pushed _).pushed _
  have c0 : ∀ {H : Heap}, H[h.size]? = some (.cells (fcells k n s) ty_api_Frame (0, 0)) → hcell H ((⟨h.size, 0, none⟩ : Addr).add 0) = some (.int .i64 k) := fun hH => by rw [add_mk, hcell_blk hH]; rfl
  have c1 : ∀ {H : Heap}, H[h.size]? = some (.cells (fcells k n s) ty_api_Frame (0, 0)) → hcell H ((⟨h.size, 0, none⟩ : Addr).add 1) = some (.int .i64 n) := fun hH => by rw [add_mk, hcell_blk hH]; rfl
  have c2 : ∀ {H : Heap}, H[h.size]? = some (.cells (fcells k n s) ty_api_Frame (0, 0)) → hcell H ((⟨h.size, 0, none⟩ : Addr).add 2) = some s.v := fun hH => by rw [add_mk, hcell_blk hH]; rfl
  clear hh2
  refine ldI_b (c0 hF) ?_
  refine or_b (c := decide (k > 255)) (fun _ Q' hq => ldI_b (c0 hF) hq) ?_
  refine or_b (c := decide (n < 0)) (fun _ Q' hq => ldI_b (c1 hF) hq) ?_
  refine or_b (c := decide ((s.len : Int) > 112)) (fun _ Q' hq => ldL_b (c2 hF) hq) ?_
  have hbad : (decide (k < 1) || decide (k > 255) || decide (n < 0) || decide ((s.len : Int) > 112)) = badF k n pay := by rw [hb.len]; rfl
  rw [hbad]
  refine ite_w (fun hc => ?_) (fun hc => ?_)
  · rw [zeros_cells]
    refine need_b (by rw [bcells_size]; rfl) ?_
    refine stB128 hZ rfl rfl (fun h3 u3 hB3 => ?_)
    refine ldB128 hB3 rfl ?_
    have := H h3 (hE.upd u3 (by omega))
    rw [sealOut, if_pos hc] at this
    exact this
  · have hgood : 1 ≤ k ∧ k ≤ 255 ∧ 0 ≤ n ∧ pay.length ≤ 112 := by
      unfold badF at hc
      simp only [Bool.or_eq_false_iff, decide_eq_false_iff_not] at hc
      omega
    obtain ⟨g1, g2, g3, g4⟩ := hgood
    refine mkB_b ?_
    generalize hh3 : h2.push (.cells (Array.replicate 128 (.int .u8 0)) ty_api_Sector) = h3
    rw [hs2]
    have hE3 : Ext h2 h3 := by rw [← hh3]; exact Ext.push _ _
    have hF3 := hE3.blk hF
    have hZ3 : BB h3 (h.size + 1) ty_api_Sector zeros := hE3.blk hZ
    have h4 : BB h3 (h.size + 2) ty_api_Sector zeros := by
      unfold BB
      rw [← hh3, ← zeros_cells, ← hs2, get_push_eq]
    clear hh3
    refine ldI_b (c0 hF3) ?_
    refine ixA_b (by omega) (by omega) ?_
    refine ldL_b (c2 hF3) ?_
    rw [show ((0 : Int).toNat * 1) = 0 by rfl, add_mk, Nat.zero_add]
    refine stB_b h4 (by simp [zeros]) ?_
    have u4 := Upd.hset h3 (h.size + 2) 0 (bv (u8 k))
    have h5 := h4.set 0 (u8 k)
    generalize Gx.hset h3 ⟨h.size + 2, 0, none⟩ (bv (u8 k)) = H4 at u4 h5 ⊢
    have hF4 := hF3; rw [← u4.ne h.size (by omega)] at hF4
    refine chk_b ⟨c0 hF4, c2 hF4⟩ ?_
    refine ixA_b (by omega) (by omega) ?_
    rw [show ((1 : Int).toNat * 1) = 1 by rfl, add_mk, Nat.zero_add, hb.len]
    refine stB_b h5 (by simp [zeros]) ?_
    have u5 := u4.trans (Upd.hset H4 (h.size + 2) 1 (bv (u8 pay.length)))
    have h6 := h5.set 1 (u8 pay.length)
    generalize Gx.hset H4 ⟨h.size + 2, 1, none⟩ (bv (u8 pay.length)) = H5 at u5 h6 ⊢
    have hF5 := hF3; rw [← u5.ne h.size (by omega)] at hF5
    refine slA_b (by omega) (by omega) (by omega) ?_
    refine ldI_b (c1 hF5) ?_
    have ew : IntKind.wrap .u64 n = n := by simp [IntKind.wrap, IntKind.signed, IntKind.bits]; omega
    rw [ew]
    rw [show (⟨some (if 128 = (2 : Int).toNat then (⟨h.size + 2, 0, none⟩ : Addr) else (⟨h.size + 2, 0, none⟩ : Addr).add ((2 : Int).toNat * 1)), (10 : Int).toNat - (2 : Int).toNat, 128 - (2 : Int).toNat⟩ : Sl) = ⟨some ⟨h.size + 2, 2, none⟩, 8, 126⟩ from rfl]
    refine bind_w (big_spec g3 h6 (by simp [zeros]) (fun H6 u6 h7 => ?_))
    have u6' := u5.trans u6
    have hF6 := hF3; rw [← u6'.ne h.size (by omega)] at hF6
    refine slA_b (by omega) (by omega) (by omega) ?_
    refine ldL_b (c2 hF6) ?_
    rw [show (⟨some (if 128 = (10 : Int).toNat then (⟨h.size + 2, 0, none⟩ : Addr) else (⟨h.size + 2, 0, none⟩ : Addr).add ((10 : Int).toNat * 1)), (128 : Int).toNat - (10 : Int).toNat, 128 - (10 : Int).toNat⟩ : Sl) = ⟨some ⟨h.size + 2, 10, none⟩, 118, 118⟩ from rfl]
    have hb6 : Bys H6 s pay := hb.ext ((hE.trans hE3).upd u6' (by omega))
    have hmin : min s.len 118 = pay.length := by rw [hb.len]; omega
    have h7l : (((zeros.set 0 (u8 k)).set 1 (u8 pay.length)).take 2 ++ be8 n ++ ((zeros.set 0 (u8 k)).set 1 (u8 pay.length)).drop (2 + 8)).length = 128 := by simp [be8_length, zeros]
    refine ⟨pay.map bv, by rw [List.length_map, hmin]; omega, hb6.at_, fun a ha => ?_, fun v hv => ?_, ?_⟩
    · cases ha
      intro j hj
      rw [List.length_map] at hj
      rw [add_mk]
      exact ⟨⟨_, h7.cell (by rw [h7l]; omega)⟩, h7.frozen _⟩
    · rw [List.mem_map] at hv
      obtain ⟨b, _, rfl⟩ := hv
      rfl
    · have h8 := h7.lay 10 pay (by rw [h7l]; omega)
      have u7 := u6'.trans (Upd.hsetL H6 (h.size + 2) 10 (pay.map bv) 0)
      show ((_ : M _)).wp (Gx.hsetL H6 ((⟨h.size + 2, 10, none⟩ : Addr).add 0) (pay.map bv) 0) _
      rw [add_mk, Nat.add_zero]
      generalize Gx.hsetL H6 ⟨h.size + 2, 10, none⟩ (pay.map bv) 0 = H7 at u7 h8 ⊢
      have hlist : (((zeros.set 0 (u8 k)).set 1 (u8 pay.length)).take 2 ++ be8 n ++ ((zeros.set 0 (u8 k)).set 1 (u8 pay.length)).drop (2 + 8)).take 10 ++ pay ++ (((zeros.set 0 (u8 k)).set 1 (u8 pay.length)).take 2 ++ be8 n ++ ((zeros.set 0 (u8 k)).set 1 (u8 pay.length)).drop (2 + 8)).drop (10 + pay.length) = hd k n pay ++ List.replicate 4 0 := by
        have z2 : ((zeros.set 0 (u8 k)).set 1 (u8 pay.length)).take 2 = [u8 k, u8 pay.length] := rfl
        have zd : ((zeros.set 0 (u8 k)).set 1 (u8 pay.length)).drop (2 + 8) = List.replicate 118 0 := rfl
        rw [z2, zd, List.take_append_of_le_length (by simp [be8_length]), List.take_of_length_le (by simp [be8_length])]
        have hl10 : ([u8 k, u8 pay.length] ++ be8 n).length = 10 := by simp [be8_length]
        rw [List.drop_append, hl10, List.drop_eq_nil_of_le (by rw [hl10]; omega), List.nil_append, List.drop_replicate]
        unfold hd
        rw [List.append_assoc (([u8 k, u8 pay.length] ++ be8 n) ++ pay), List.replicate_append_replicate]
        congr 2
        omega
      rw [hlist] at h8
      refine slA_b (by omega) (by omega) (by omega) ?_
      rw [show (⟨some (if 128 = (0 : Int).toNat then (⟨h.size + 2, 0, none⟩ : Addr) else (⟨h.size + 2, 0, none⟩ : Addr).add ((0 : Int).toNat * 1)), (124 : Int).toNat - (0 : Int).toNat, 128 - (0 : Int).toNat⟩ : Sl) = ⟨some ⟨h.size + 2, 0, none⟩, 124, 128⟩ from rfl]
      have hl := hd_length (k := k) (n := n) g4
      have hbs := h8.bys 0 124 128 (by simp; omega)
      rw [List.drop_zero, List.take_append_of_le_length (by omega), List.take_of_length_le (by omega)] at hbs
      refine bind_w (sum_spec hbs (by omega) ?_)
      have hZ7 : BB H7 (h.size + 1) ty_api_Sector zeros := hZ3.upd u7 (by omega)
      refine seal_end (by omega) hl rfl hZ7 h8 (fun h' h'' v1 v2 => ?_)
      have hE' := ((hE.trans hE3).upd u7 (by omega)).upd v1 (by omega) |>.upd v2 (by omega)
      have := H _ hE'
      rw [sealOut, hc] at this
      exact this
end Gx
