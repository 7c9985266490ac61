/- Own proofs: what those Lean programs compute. No condition. -/
import Derived.Test.YtklegajjmeajiaaHClone
import Derived.Test.YtklegajjmeajiaaAF2
namespace Gx
open Go
set_option linter.unusedVariables false
/-- a block that holds a frame -/
def FB (h : Heap) (b : Nat) (k n : Int) (s : Sl) : Prop := h[b]? = some (.cells (fcells k n s) ty_api_Frame (0, 0))
theorem FB.upd {h h' : Heap} {b c : Nat} {k n : Int} {s : Sl} (hb : FB h b k n s) (u : Upd c h h') (hne : b ≠ c) : FB h' b k n s := by
  unfold FB
  rw [u.ne b hne]; exact hb
theorem FB.ext {h h' : Heap} {b : Nat} {k n : Int} {s : Sl} (hb : FB h b k n s) (e : Ext h h') : FB h' b k n s := e.blk hb
theorem BB.ext {h h' : Heap} {b : Nat} {t : TypeId} {l : List UInt8} (hb : BB h b t l) (e : Ext h h') : BB h' b t l := e.blk hb
theorem FB.cell {h : Heap} {b : Nat} {k n : Int} {s : Sl} (hb : FB h b k n s) (i : Nat) : hcell h ⟨b, i, none⟩ = (fcells k n s)[i]? := hcell_blk hb
theorem ldF {β : Type} {h : Heap} {Q : β → Heap → Prop} {b : Nat} {k n : Int} {s : Sl} {f : Array Value → M β} (hb : FB h b k n s) (H : (f (fcells k n s)).wp h Q) : (ldG 3 ⟨b, 0, none⟩ >>= f).wp h Q :=
  ldG_b rfl (fun i hi => by rw [add_mk, Nat.zero_add, hb.cell]) H
theorem stF {β : Type} {h : Heap} {Q : β → Heap → Prop} {b : Nat} {k n k' n' : Int} {s s' : Sl} {f : Unit → M β} (hb : FB h b k n s) (H : ∀ h', Upd b h h' → FB h' b k' n' s' → (f ()).wp h' Q) : (stG ⟨b, 0, none⟩ (fcells k' n' s') >>= f).wp h Q := by
  refine stG_b (fun i hi => ?_) (fun v hv => ?_) (H _ (Upd.hsetL _ _ _ _ _) ?_)
  · rw [add_mk, Nat.zero_add, hb.cell]
    have hi' : i < 3 := hi
    exact ⟨⟨_, Array.getElem?_eq_getElem (show i < (fcells k n s).size from hi')⟩, hfrozen_blk hb⟩
  · simp only [fcells, List.mem_cons, List.not_mem_nil, or_false] at hv
    rcases hv with rfl | rfl | rfl <;> rfl
  · unfold FB
    rw [hsetL_at _ _ _ _ hb]
    rfl
theorem FB.mk {h : Heap} {k n : Int} {s : Sl} : FB (h.push (.cells (fcells k n s) ty_api_Frame)) h.size k n s := get_push_eq

theorem Bys.upd {h h' : Heap} {b : Nat} {r : Sl} {l : List UInt8} (hr : Bys h r l) (u : Upd b h h') (hne : ∀ a, r.base = some a → a.block ≠ b) : Bys h' r l := by
  refine ⟨hr.len, ?_⟩
  rcases hr.at_ with e | ⟨a, ha, hc⟩
  · exact .inl e
  · refine .inr ⟨a, ha, fun j v hj => ?_⟩
    have := hc j v hj
    simp only [hcell, add_block] at this ⊢
    rw [u.ne _ (hne a ha)]
    exact this
theorem p0_len {l : List UInt8} (hl : l.length = 128) (hm : m0 l ≤ 112) : (p0 l).length = m0 l := by unfold p0; simp; omega
theorem ok_bad {l : List UInt8} (hl : l.length = 128) (hm : 112 < m0 l) : openOk l = false := by
  have : badF (k0 l) (n0 l) (p0 l) = true := by
    have : (112 : Int) < ((p0 l).length : Int) := by unfold p0; simp; omega
    unfold badF
    simp only [Bool.or_eq_true, decide_eq_true_eq]
    exact .inr this
  unfold openOk
  rw [this]; rfl
theorem n0_le (l : List UInt8) : n0 l ≤ 9223372036854775807 := by unfold n0; rw [IntKind.wrap_i64]; omega
theorem ok_eq {l : List UInt8} : (if (sealOut (k0 l) (n0 l) (p0 l)).2 != 0 then true else !decide (sealed (k0 l) (n0 l) (p0 l) = l)) = !openOk l := by
  unfold openOk sealOut
  cases badF (k0 l) (n0 l) (p0 l) <;> simp

theorem open_tail {l : List UInt8} {r : Sl} {b1 b2 b5 : Nat} {h0 h : Heap} {Q : Array Value × Int → Heap → Prop} (hl : l.length = 128) (hm : m0 l ≤ 112) (hE : Ext h0 h) (h1 : BB h b1 ty_api_Sector l) (h2 : FB h b2 0 0 Sl.nil) (h5 : FB h b5 (k0 l) 0 r) (hr : Bys h r (p0 l))
    (n12 : b1 ≠ b2) (n15 : b1 ≠ b5) (n25 : b2 ≠ b5) (g1 : h0.size ≤ b1) (g2 : h0.size ≤ b2) (g5 : h0.size ≤ b5) (hrb : ∀ a, r.base = some a → a.block ≠ b2 ∧ a.block ≠ b5)
    (H1 : openOk l = false → ∀ h', Ext h0 h' → Q (fcells 0 0 Sl.nil, 50) h') (H2 : openOk l = true → ∀ h', Ext h0 h' → Bys h' r (p0 l) → Q (fcells (k0 l) (n0 l) r, 0) h') :
    (M.loop (sector_Open_l1 ⟨b1, 0, none⟩ ⟨b2, 0, none⟩ ⟨b5, 0, none⟩ ⟨some ⟨b1, 2, none⟩, 8, 126⟩ 8) (0, 0)).wp h Q := by
  generalize hq : (l.drop 2).take 8 = q8
  have hql : q8.length = 8 := by rw [← hq]; simp; omega
  have h00 : ((0, 0) : Int × Int) = (((beN (q8.take 0) : Nat) : Int), ((0 : Nat) : Int)) := rfl
  rw [h00]
  refine M.loop_inv (fun (t' : Int × Int) h' => h' = h ∧ ∃ j : Nat, j ≤ 8 ∧ t' = (((beN (q8.take j) : Nat) : Int), (j : Int))) (fun t' _ => (8 - t'.2).toNat) ?_ ⟨rfl, 0, by omega, rfl⟩
  rintro t' h' ⟨rfl, j, hj, rfl⟩ self hself
  unfold sector_Open_l1
  refine ite_w (fun hc => ?_) (fun hc => ?_)
  · have hlt : j < 8 := by have := of_decide_eq_true hc; omega
    have hb8 := h1.bys 2 8 126 (by omega)
    rw [hq] at hb8
    refine ixL_b (by omega) (by show (j : Int) < ((8 : Nat) : Int); omega) rfl ?_
    rw [show ((j : Int).toNat * 1) = j by omega]
    obtain ⟨a, ha, hcell⟩ := hb8.get (show j < q8.length by omega)
    cases ha
    refine ldI_b (n := (q8[j].toNat : Int)) hcell ?_
    have hlt2 : beN (q8.take j) * 256 + q8[j].toNat < 18446744073709551616 := by
      have := beN_lt (q8.take (j + 1))
      rw [take_snoc (by omega), beN_snoc, ← take_snoc (by omega)] at this
      refine Nat.lt_of_lt_of_le this ?_
      rw [show (18446744073709551616 : Nat) = 256 ^ 8 from rfl]
      exact Nat.pow_le_pow_right (by omega) (by simp; omega)
    rw [step_u64 hlt2, w64n (n := j + 1) (by omega) |> fun e => (by simpa using e : IntKind.wrap .i64 ((j : Int) + 1) = ((j + 1 : Nat) : Int))]
    refine hself _ _ ⟨rfl, j + 1, by omega, ?_⟩ (by simp; omega)
    rw [take_snoc (by omega), beN_snoc]
  · have : j = 8 := by have := of_decide_eq_false hc; omega
    subst this
    rw [List.take_of_length_le (by omega)]
    have hn0 : IntKind.wrap .i64 ((beN q8 : Nat) : Int) = n0 l := by rw [n0, hq]
    rw [hn0, add_mk, Nat.zero_add]
    refine stV_b (x := .int .i64 0) (by rw [h5.cell]; rfl) (hfrozen_blk h5) rfl ?_
    have u5 := Upd.hset h' b5 1 (.int .i64 (n0 l))
    have h5' : FB (Gx.hset h' ⟨b5, 1, none⟩ (.int .i64 (n0 l))) b5 (k0 l) (n0 l) r := by
      unfold FB
      rw [hset_at h5]
      rfl
    generalize Gx.hset h' ⟨b5, 1, none⟩ (.int .i64 (n0 l)) = H5 at u5 h5' ⊢
    have hr5 : Bys H5 r (p0 l) := by
      refine ⟨hr.len, ?_⟩
      rcases hr.at_ with e | ⟨a, ha, hc⟩
      · exact .inl e
      · refine .inr ⟨a, ha, fun j v hj => ?_⟩
        have := hc j v hj
        simp only [hcell, add_block] at this ⊢
        rw [u5.ne _ (hrb a ha).2]
        exact this
    have hpl := p0_len hl hm
    refine ldF h5' ?_
    refine bind_w (seal_spec rfl hr5 (by omega) (n0_le l) (fun H6 e6 => ?_))
    refine mkB_b ?_
    have e7 : Ext H5 (H6.push (.cells (Array.replicate 128 (.int .u8 0)) ty_api_Sector)) := e6.pushed _
    have h9 : BB (H6.push (.cells (Array.replicate 128 (.int .u8 0)) ty_api_Sector)) H6.size ty_api_Sector zeros := by
      unfold BB; rw [get_push_eq, zeros_cells]
    have hs6 := e6.size
    have lt1 : b1 < H5.size := by rw [u5.size]; exact blk_lt h1
    have lt2 : b2 < H5.size := by rw [u5.size]; exact blk_lt h2
    have lt5 : b5 < H5.size := by rw [u5.size]; exact blk_lt h5
    generalize H6.push (.cells (Array.replicate 128 (.int .u8 0)) ty_api_Sector) = H7 at e7 h9 ⊢
    have hE7 : Ext h0 H7 := (hE.upd u5 g5).trans e7
    -- what Seal has told, whichever
    obtain ⟨L, hL, hLl⟩ : ∃ L, (sealOut (k0 l) (n0 l) (p0 l)).1 = bcells L ∧ L.length = 128 := by
      unfold sealOut
      split
      · exact ⟨zeros, rfl, rfl⟩
      · exact ⟨_, rfl, sealed_length (by omega)⟩
    rw [hL]
    refine need_b (by rw [bcells_size]; exact hLl) ?_
    refine stB128 h9 rfl hLl (fun H8 u8 h9' => ?_)
    have h1' : BB H8 b1 ty_api_Sector l := ((h1.upd u5 n15).ext e7).upd u8 (by omega)
    have h2' : FB H8 b2 0 0 Sl.nil := ((h2.upd u5 n25).ext e7).upd u8 (by omega)
    have h5'' : FB H8 b5 (k0 l) (n0 l) r := (h5'.ext e7).upd u8 (by omega)
    have hr8 : Bys H8 r (p0 l) := by
      have hr7 := hr5.ext e7
      refine ⟨hr.len, ?_⟩
      rcases hr5.at_ with e | ⟨a, ha, hc⟩
      · exact .inl e
      · refine .inr ⟨a, ha, fun j v hj => ?_⟩
        have h1 := hc j v hj
        have hlt : a.block < H5.size := by
          rcases Nat.lt_or_ge a.block H5.size with h' | h'
          · exact h'
          · simp only [hcell, add_block, Array.getElem?_eq_none h'] at h1; cases h1
        have h2 := e7.cell h1
        simp only [hcell, add_block] at h2 ⊢
        rw [u8.ne _ (by omega)]
        exact h2
    have hE8 : Ext h0 H8 := hE7.upd u8 (by have := hE.size; rw [← u5.size] at this; omega)
    have hcond : ∀ {f : Bool → M (Array Value × Int)}, (f (!openOk l)).wp H8 Q → ((M.ite ((sealOut (k0 l) (n0 l) (p0 l)).2 != 0) (M.pure true) (do
        let x48_50 ← ldG 128 ⟨H6.size, 0, none⟩
        let x49_51 ← ldG 128 ⟨b1, 0, none⟩
        let x50_52 ← eqA .u8 128 x48_50 x49_51
        M.pure (!x50_52))) >>= f).wp H8 Q := by
      intro f hf
      rw [← ok_eq] at hf
      by_cases hb : ((sealOut (k0 l) (n0 l) (p0 l)).2 != 0) = true
      · rw [hb] at hf ⊢
        exact hf
      · have hb' : ((sealOut (k0 l) (n0 l) (p0 l)).2 != 0) = false := by simpa using hb
        rw [hb'] at hf ⊢
        have hbad : badF (k0 l) (n0 l) (p0 l) = false := by
          unfold sealOut at hb'
          cases hx : badF (k0 l) (n0 l) (p0 l) with
          | false => rfl
          | true => rw [hx] at hb'; simp at hb'
        have hLs : L = sealed (k0 l) (n0 l) (p0 l) := by
          unfold sealOut at hL
          rw [hbad] at hL
          have hq2 : bcells (sealed (k0 l) (n0 l) (p0 l)) = bcells L := hL
          have h3 : (sealed (k0 l) (n0 l) (p0 l)).length = 128 := sealed_length (by omega)
          have := aEq_bcells (sealed (k0 l) (n0 l) (p0 l)) L h3 hLl
          rw [hq2, aEq_bcells _ _ hLl hLl] at this
          simp at this
          exact this.symm
        show ((ldG 128 ⟨H6.size, 0, none⟩ >>= fun x48_50 => (ldG 128 ⟨b1, 0, none⟩ >>= fun x49_51 => eqA .u8 128 x48_50 x49_51 >>= fun x50_52 => M.pure (!x50_52))) >>= f).wp H8 Q
        refine assoc_b (ldB128 h9' hLl ?_)
        refine assoc_b (ldB128 h1' hl ?_)
        refine assoc_b (eqA_b (nums_bcells _ (by omega)) (nums_bcells _ (by omega)) ?_)
        rw [aEq_bcells _ _ hLl hl, hLs]
        exact hf
    refine hcond ?_
    refine ite_w (fun hc => ?_) (fun hc => ?_)
    · refine need_b rfl ?_
      refine stF (k' := 0) (n' := 0) (s' := Sl.nil) h2' (fun H9 u9 h2'' => ?_)
      refine ldF h2'' ?_
      exact H1 (by simpa using hc) _ (hE8.upd u9 g2)
    · refine ldF h5'' ?_
      refine need_b rfl ?_
      refine stF h2' (fun H9 u9 h2'' => ?_)
      refine ldF h2'' ?_
      refine H2 (by simpa using hc) _ (hE8.upd u9 g2) ⟨hr.len, ?_⟩
      rcases hr8.at_ with e | ⟨a, ha, hc⟩
      · exact .inl e
      · refine .inr ⟨a, ha, fun j v hj => ?_⟩
        have h1 := hc j v hj
        simp only [hcell, add_block] at h1 ⊢
        rw [u9.ne _ (hrb a ha).1]
        exact h1

theorem open_spec {x0 : Array Value} {l : List UInt8} {h : Heap} {Q : Array Value × Int → Heap → Prop} (hx : x0 = bcells l) (hl : l.length = 128)
    (H1 : openOk l = false → ∀ h', Ext h h' → Q (fcells 0 0 Sl.nil, 50) h') (H2 : openOk l = true → ∀ h' s, Ext h h' → Bys h' s (p0 l) → Q (fcells (k0 l) (n0 l) s, 0) h') : (sector_Open x0).wp h Q := by
  subst hx
  unfold sector_Open
  refine mkB_b ?_
  have e1 : Ext h (h.push (.cells (bcells l) ty_api_Sector)) := Ext.push _ _
  have hB1 : BB (h.push (.cells (bcells l) ty_api_Sector)) h.size ty_api_Sector l := get_push_eq
  have s1 : (h.push (Obj.cells (bcells l) ty_api_Sector)).size = h.size + 1 := by simp
  generalize h.push (Obj.cells (bcells l) ty_api_Sector) = h1 at e1 hB1 s1 ⊢
  refine mkB_b ?_
  have e2 : Ext h (h1.push (.cells (fcells 0 0 Sl.nil) ty_api_Frame)) := e1.trans (Ext.push _ _)
  have hB2 : BB (h1.push (.cells (fcells 0 0 Sl.nil) ty_api_Frame)) h.size ty_api_Sector l := hB1.ext (Ext.push _ _)
  have hF2 : FB (h1.push (.cells (fcells 0 0 Sl.nil) ty_api_Frame)) (h.size + 1) 0 0 Sl.nil := by rw [← s1]; exact FB.mk
  have s2 : (h1.push (.cells (fcells 0 0 Sl.nil) ty_api_Frame)).size = h.size + 2 := by simp [s1]
  rw [s1]
  change M.wp _ (h1.push (.cells (fcells 0 0 Sl.nil) ty_api_Frame)) Q
  generalize h1.push (.cells (fcells 0 0 Sl.nil) ty_api_Frame) = h2 at e2 hB2 hF2 s2 ⊢
  clear hB1 e1 s1
  refine ixA_b (by omega) (by omega) ?_
  rw [show ((1 : Int).toNat * 1) = 1 from rfl, add_mk, Nat.zero_add]
  have g1 : l[1]? = some (l.getD 1 0) := by
    rw [List.getD_eq_getElem?_getD, List.getElem?_eq_getElem (by omega)]; rfl
  have g0 : l[0]? = some (l.getD 0 0) := by
    rw [List.getD_eq_getElem?_getD, List.getElem?_eq_getElem (by omega)]; rfl
  have c1 : ∀ {H : Heap}, BB H h.size ty_api_Sector l → hcell H ⟨h.size, 1, none⟩ = some (.int .u8 (m0 l : Int)) := fun hb => by
    rw [hcell_blk hb, bcells_get, g1]; rfl
  have c0 : ∀ {H : Heap}, BB H h.size ty_api_Sector l → hcell H ⟨h.size, 0, none⟩ = some (.int .u8 (k0 l)) := fun hb => by
    rw [hcell_blk hb, bcells_get, g0]; rfl
  refine ldI_b (c1 hB2) ?_
  have hm256 : m0 l < 256 := UInt8.toNat_lt _
  have w1 : IntKind.wrap .i64 (m0 l : Int) = (m0 l : Int) := w64 (by omega) (by omega)
  have hk : IntKind.wrap .i64 (k0 l) = k0 l := w64 (by unfold k0; omega) (by unfold k0; have := UInt8.toNat_lt (l.getD 0 0); omega)
  rw [w1]
  refine ite_w (fun hc => ?_) (fun hc => ?_)
  · refine need_b rfl ?_
    refine stF (k' := 0) (n' := 0) (s' := Sl.nil) hF2 (fun H9 u9 h2'' => ?_)
    refine ldF h2'' ?_
    exact H1 (ok_bad hl (by have := of_decide_eq_true hc; omega)) _ (e2.upd u9 (by omega))
  · have hm : m0 l ≤ 112 := by have := of_decide_eq_false hc; omega
    refine ixA_b (by omega) (by omega) ?_
    rw [show ((0 : Int).toNat * 1) = 0 from rfl, add_mk, Nat.zero_add]
    have w2 : IntKind.wrap .i64 (10 + (m0 l : Int)) = ((10 + m0 l : Nat) : Int) := by rw [w64 (by omega) (by omega)]; omega
    rw [w2]
    refine slA_b (by omega) (by omega) (by omega) ?_
    rw [show (⟨some (if 128 = (10 : Int).toNat then (⟨h.size, 0, none⟩ : Addr) else (⟨h.size, 0, none⟩ : Addr).add ((10 : Int).toNat * 1)), ((10 + m0 l : Nat) : Int).toNat - (10 : Int).toNat, 128 - (10 : Int).toNat⟩ : Sl) = ⟨some ⟨h.size, 10, none⟩, m0 l, 118⟩ by
      have : ((10 + m0 l : Nat) : Int).toNat - (10 : Int).toNat = m0 l := by omega
      rw [this]; rfl]
    refine ldI_b (c0 hB2) ?_
    rw [hk]
    have hby : ∀ {H : Heap}, BB H h.size ty_api_Sector l → Bys H ⟨some ⟨h.size, 10, none⟩, m0 l, 118⟩ (p0 l) := fun hb => hb.bys 10 (m0 l) 118 (by omega)
    have hpl := p0_len hl hm
    refine both_b ?_ ?_
    · refine bind_w (bind_w ?_)
      refine clone_spec (hby hB2) (by omega) (fun h3 r e3 hr hf => ?_)
      have hB3 := hB2.ext e3
      refine chk_b (c0 hB3) ?_
      refine mkB_b ?_
      have e4 : Ext h3 (h3.push (.cells (fcells 0 0 Sl.nil) ty_api_Frame)) := Ext.push _ _
      have hF4 : FB (h3.push (.cells (fcells 0 0 Sl.nil) ty_api_Frame)) h3.size 0 0 Sl.nil := FB.mk
      change M.wp _ (h3.push (.cells (fcells 0 0 Sl.nil) ty_api_Frame)) _
      generalize h3.push (.cells (fcells 0 0 Sl.nil) ty_api_Frame) = h4 at e4 hF4 ⊢
      refine chk_b (c0 (hB3.ext e4)) ?_
      refine pure_w ?_
      dsimp only
      refine need_b rfl ?_
      have s3 := e3.size
      refine stF (k' := k0 l) (n' := 0) (s' := r) hF4 (fun h5 u5 hF5 => ?_)
      refine slA_b (by omega) (by omega) (by omega) ?_
      refine open_tail (h0 := h) hl hm ((e2.trans e3).trans e4 |>.upd u5 (by omega)) (((hB3.ext e4)).upd u5 (by omega)) (((hF2.ext e3).ext e4).upd u5 (by omega)) hF5 ?_ (by omega) (by omega) (by omega) (by omega) (by omega) (by omega) (fun a ha => by have := hf a ha; omega) H1 (fun h1 h' e' b' => H2 h1 h' r e' b')
      exact (hr.ext e4).upd u5 (fun a ha => by have := hf a ha; omega)
    · refine bind_w (mkB_b ?_)
      have e4 : Ext h2 (h2.push (.cells (fcells 0 0 Sl.nil) ty_api_Frame)) := Ext.push _ _
      have hF4 : FB (h2.push (.cells (fcells 0 0 Sl.nil) ty_api_Frame)) h2.size 0 0 Sl.nil := FB.mk
      have s4 : (h2.push (.cells (fcells 0 0 Sl.nil) ty_api_Frame)).size = h.size + 3 := by simp [s2]
      change M.wp _ (h2.push (.cells (fcells 0 0 Sl.nil) ty_api_Frame)) _
      generalize h2.push (.cells (fcells 0 0 Sl.nil) ty_api_Frame) = h4 at e4 hF4 s4 ⊢
      have hB4 := hB2.ext e4
      refine chk_b (c0 hB4) ?_
      refine bind_w (clone_spec (hby hB4) (by omega) (fun h3 r e3 hr hf => ?_))
      have hB3 := hB4.ext e3
      refine chk_b (c0 hB3) ?_
      refine pure_w ?_
      dsimp only
      refine need_b rfl ?_
      have s3 := e3.size
      refine stF (k' := k0 l) (n' := 0) (s' := r) (hF4.ext e3) (fun h5 u5 hF5 => ?_)
      refine slA_b (by omega) (by omega) (by omega) ?_
      refine open_tail (h0 := h) hl hm ((e2.trans e4).trans e3 |>.upd u5 (by omega)) (hB3.upd u5 (by omega)) (((hF2.ext e4).ext e3).upd u5 (by omega)) hF5 ?_ (by omega) (by omega) (by omega) (by omega) (by omega) (by omega) (fun a ha => by have := hf a ha; omega) H1 (fun h1 h' e' b' => H2 h1 h' r e' b')
      exact hr.upd u5 (fun a ha => by have := hf a ha; omega)
end Gx
