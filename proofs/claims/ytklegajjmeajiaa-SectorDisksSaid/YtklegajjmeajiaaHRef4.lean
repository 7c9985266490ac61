/- Own proofs: what those Lean programs compute. No condition. -/
import Derived.Test.YtklegajjmeajiaaHRef3
namespace Gx
open Go
set_option linter.unusedVariables false
set_option linter.unusedSimpArgs false
def SecAt (h : Heap) (b n : Nat) (s : Nat → List UInt8) : Prop := ∃ cells ty, h[b]? = some (.cells cells ty (0, 0)) ∧ ∀ i, i < n → ∀ j, j < 128 → cells[i * 128 + j]? = (s i)[j]?.map bv
def TorAt (h : Heap) (b n : Nat) (t : Nat → Bool) : Prop := ∃ cells ty, h[b]? = some (.cells cells ty (0, 0)) ∧ ∀ i, i < n → cells[i]? = some (.bool (t i))
theorem SecAt.upd {h h' : Heap} {b c n : Nat} {s : Nat → List UInt8} (H : SecAt h b n s) (u : Upd c h h') (hne : b ≠ c) : SecAt h' b n s := by
  obtain ⟨c1, t1, h1, h2⟩ := H
  exact ⟨c1, t1, (u.ne _ hne).trans h1, h2⟩
theorem TorAt.upd {h h' : Heap} {b c n : Nat} {s : Nat → Bool} (H : TorAt h b n s) (u : Upd c h h') (hne : b ≠ c) : TorAt h' b n s := by
  obtain ⟨c1, t1, h1, h2⟩ := H
  exact ⟨c1, t1, (u.ne _ hne).trans h1, h2⟩
theorem secSt {β : Type} {h : Heap} {b n : Nat} {s : Nat → List UInt8} {Q : β → Heap → Prop} {k : Nat} {l : List UInt8} {f : Unit → M β} (H : SecAt h b n s) (hs : ∀ i, (s i).length = 128) (hk : k < n) (hl : l.length = 128) (hq : ∀ h', Upd b h h' → SecAt h' b n (put s k l) → (f ()).wp h' Q) : (stG ⟨b, k * 128, none⟩ (bcells l) >>= f).wp h Q := by
  obtain ⟨c1, t1, h1, h1'⟩ := H
  have hcell : ∀ i, i < n → ∀ j, j < 128 → i * 128 + j < c1.size := fun i hi j hj => by
    have := h1' i hi j hj
    rw [List.getElem?_eq_getElem (by rw [hs]; exact hj)] at this
    exact (Array.getElem?_eq_some_iff.1 this).1
  have hsz : k * 128 + 127 < c1.size := hcell k hk 127 (by omega)
  refine stG_b (fun i hi => ?_) (one_bcells _) (hq _ (Upd.hsetL _ _ _ _ _) ⟨_, t1, hsetL_at _ _ _ _ h1, ?_⟩)
  · rw [bcells_size] at hi
    rw [add_mk, hcell_blk h1, hfrozen_blk h1]
    exact ⟨⟨_, Array.getElem?_eq_getElem (by omega)⟩, rfl⟩
  · intro i hi j hj
    have hlen : (bcells l).toList.length = 128 := by rw [Array.length_toList, bcells_size, hl]
    have e : (lay c1 (k * 128 + 0) (bcells l).toList)[i * 128 + j]? = (c1.toList.take (k * 128) ++ (bcells l).toList ++ c1.toList.drop (k * 128 + 128))[i * 128 + j]? := by
      rw [← Array.getElem?_toList, Nat.add_zero, lay_toList _ _ _ (by rw [hlen]; omega), hlen]
    rw [e]
    have htk : (c1.toList.take (k * 128)).length = k * 128 := by rw [List.length_take, Array.length_toList]; omega
    unfold put
    rcases Nat.lt_trichotomy i k with hik | hik | hik
    · rw [if_neg (by omega), List.append_assoc, List.getElem?_append_left (by rw [htk]; omega), List.getElem?_take, if_pos (by omega), Array.getElem?_toList]
      exact h1' i hi j hj
    · subst hik
      rw [if_pos rfl, List.append_assoc, List.getElem?_append_right (by rw [htk]; omega), htk, List.getElem?_append_left (by rw [hlen]; omega), Array.getElem?_toList, bcells_get]
      congr 2; omega
    · rw [if_neg (by omega), List.getElem?_append_right (by rw [List.length_append, htk, hlen]; omega), List.length_append, htk, hlen, List.getElem?_drop, Array.getElem?_toList]
      rw [show k * 128 + 128 + (i * 128 + j - (k * 128 + 128)) = i * 128 + j by omega]
      exact h1' i hi j hj
theorem torSt {β : Type} {h : Heap} {b n : Nat} {t : Nat → Bool} {Q : β → Heap → Prop} {k : Nat} {v : Bool} {f : Unit → M β} (H : TorAt h b n t) (hk : k < n) (hq : ∀ h', Upd b h h' → TorAt h' b n (put t k v) → (f ()).wp h' Q) : (stV ⟨b, k, none⟩ (.bool v) >>= f).wp h Q := by
  obtain ⟨c1, t1, h1, h1'⟩ := H
  have hlt : k < c1.size := (Array.getElem?_eq_some_iff.1 (h1' k hk)).1
  refine stV_b (x := .bool (t k)) (by rw [hcell_blk h1, h1' k hk]) (hfrozen_blk h1) rfl (hq _ (Upd.hset _ _ _ _) ⟨_, t1, hset_at h1, ?_⟩)
  intro i hi
  unfold put
  rw [Array.getElem?_setIfInBounds]
  by_cases e : k = i
  · subst e; rw [if_pos rfl, if_pos hlt, if_pos rfl]
  · rw [if_neg e, if_neg (fun x => e x.symm)]
    exact h1' i hi
/-- the sectors, copied -/
theorem secCopy {β : Type} {h : Heap} {b n cap : Nat} {s : Nat → List UInt8} {Q : β → Heap → Prop} {f : Sl → M β} (H : SecAt h b n s) (hs : ∀ i, (s i).length = 128) (hn : 1 ≤ n) (hn' : n ≤ 16384)
    (hq : ∀ h' b' cap', Ext h h' → SecAt h' b' n s → h.size ≤ b' → b' < h'.size → (f ⟨some ⟨b', 0, none⟩, n, cap'⟩).wp h' Q) : (apL ty_api_Sector 128 128 (Array.replicate 128 (.int .u8 0) : Array Value) Sl.nil ⟨some ⟨b, 0, none⟩, n, cap⟩ >>= f).wp h Q := by
  obtain ⟨c1, t1, h1, h1'⟩ := H
  have hw : ∀ x ∈ List.range n, ((s x).map bv).length = 128 := fun x _ => by rw [List.length_map, hs]
  have hget : ∀ i, i < n → ∀ j, j < 128 → ((List.range n).flatMap fun i => (s i).map bv)[i * 128 + j]? = (s i)[j]?.map bv := fun i hi j hj => by
    rw [flat_get' _ hw i j hj, List.getElem?_range hi]
    simp
  refine bind_w (ap_grow (lo := h.size) (sz := 128) (vs := []) (news := (List.range n).flatMap fun i => (s i).map bv) (by simp) (Gw.nil _ _ _) (by rw [flat_len' _ hw, List.length_range]) (.inr ⟨_, rfl, fun j v hj => ?_⟩) (fun v hv => ?_) (by show (0 + n) * 128 ≤ _; omega) (by show 0 + n ≤ _; omega) (Nat.le_refl _) (fun h' r' H' hl hs' hk hb => ?_))
  · rw [add_mk, Nat.zero_add, hcell_blk h1]
    have hjl : j < n * 128 := by
      have := (List.getElem?_eq_some_iff.1 hj).1
      rw [flat_len' _ hw, List.length_range] at this
      exact this
    have e : j = (j / 128) * 128 + j % 128 := by omega
    have h2 := hget (j / 128) (by omega) (j % 128) (by omega)
    rw [← e] at h2
    have h3 := h1' (j / 128) (by omega) (j % 128) (by omega)
    rw [← e] at h3
    rw [h3, ← h2, hj]
  · obtain ⟨i, _, hv⟩ := List.mem_flatMap.1 hv
    obtain ⟨c, _, rfl⟩ := List.mem_map.1 hv
    rfl
  · rw [List.nil_append] at H'
    rcases H' with ⟨rfl, _⟩ | ⟨b', ty, cells, H'⟩
    · exfalso
      have : (0 : Nat) = 0 + n := hl
      omega
    · have hE : Ext h h' := ⟨hs', fun i hi => hk i hi (fun ⟨a, ha, _⟩ => by cases ha)⟩
      have hr : r' = ⟨some ⟨b', 0, none⟩, n, r'.cap⟩ := by
        have h1 := H'.base
        have h2 : r'.len = 0 + n := hl
        cases r'
        simp at h1 h2
        rw [h1, h2]
      rw [hr]
      refine hq h' b' r'.cap hE ⟨cells, ty, H'.blk, fun i hi j hj => ?_⟩ H'.lo (blk_lt H'.blk)
      have := hget i hi j hj
      have hsj : (s i)[j]? = some ((s i)[j]'(by rw [hs]; exact hj)) := List.getElem?_eq_getElem _
      rw [hsj] at this ⊢
      exact H'.get _ _ this
theorem torCopy {β : Type} {h : Heap} {b n cap : Nat} {t : Nat → Bool} {Q : β → Heap → Prop} {f : Sl → M β} (H : TorAt h b n t) (hn : 1 ≤ n) (hn' : n ≤ 16384)
    (hq : ∀ h' b' cap', Ext h h' → TorAt h' b' n t → h.size ≤ b' → b' < h'.size → (f ⟨some ⟨b', 0, none⟩, n, cap'⟩).wp h' Q) : (apL ty_bool 1 1 (#[.bool false] : Array Value) Sl.nil ⟨some ⟨b, 0, none⟩, n, cap⟩ >>= f).wp h Q := by
  obtain ⟨c1, t1, h1, h1'⟩ := H
  have hget : ∀ i, i < n → ((List.range n).map fun i => Value.bool (t i))[i]? = some (.bool (t i)) := fun i hi => by
    rw [List.getElem?_map, List.getElem?_range hi]; rfl
  refine bind_w (ap_grow (lo := h.size) (sz := 1) (vs := []) (news := (List.range n).map fun i => Value.bool (t i)) rfl (Gw.nil _ _ _) (by simp) (.inr ⟨_, rfl, fun j v hj => ?_⟩) (fun v hv => ?_) (by show (0 + n) * 1 ≤ _; omega) (by show 0 + n ≤ _; omega) (Nat.le_refl _) (fun h' r' H' hl hs' hk hb => ?_))
  · rw [add_mk, Nat.zero_add, hcell_blk h1]
    have hjl : j < n := by
      have := (List.getElem?_eq_some_iff.1 hj).1
      simpa using this
    rw [h1' j hjl, ← hj, hget j hjl]
  · obtain ⟨i, _, rfl⟩ := List.mem_map.1 hv
    rfl
  · rw [List.nil_append] at H'
    rcases H' with ⟨rfl, _⟩ | ⟨b', ty, cells, H'⟩
    · exfalso
      have : (0 : Nat) = 0 + n := hl
      omega
    · have hE : Ext h h' := ⟨hs', fun i hi => hk i hi (fun ⟨a, ha, _⟩ => by cases ha)⟩
      have hr : r' = ⟨some ⟨b', 0, none⟩, n, r'.cap⟩ := by
        have h1 := H'.base
        have h2 : r'.len = 0 + n := hl
        cases r'
        simp at h1 h2
        rw [h1, h2]
      rw [hr]
      exact hq h' b' r'.cap hE ⟨cells, ty, H'.blk, fun i hi => H'.get _ _ (hget i hi)⟩ H'.lo (blk_lt H'.blk)
section
variable {h : Heap} {G : Rp} {R : Dk}
/-- new sectors are laid into the disk -/
theorem RkAt.stSecs {β : Type} {Q : β → Heap → Prop} {b cap : Nat} {s' : Nat → List UInt8} {f : Unit → M β} (H : RkAt h G R) (hs : SecAt h b R.n s') (hl : ∀ i, (s' i).length = 128) (hb : b ≠ G.p)
    (hq : ∀ h', Upd G.p h h' → RkAt h' { G with bs := b, ls := cap } { R with s := s' } → (f ()).wp h' Q) : (stV ((⟨G.p, 0, none⟩ : Addr).add 0) (⟨some ⟨b, 0, none⟩, R.n, cap⟩ : Sl).v >>= f).wp h Q := by
  obtain ⟨n1, n2, n3⟩ := H.ne
  refine stV_b (x := (⟨some ⟨G.bs, 0, none⟩, R.n, G.ls⟩ : Sl).v) (by rw [H.cell]; rfl) (by rw [add_mk, hfrozen_blk H.blk]) rfl ?_
  rw [add_mk]
  have u := Upd.hset h G.p (0 + 0) (⟨some ⟨b, 0, none⟩, R.n, cap⟩ : Sl).v
  refine hq _ u ⟨?_, hs.upd u hb, (show TorAt h G.bt R.n R.t from H.tor).upd u n2.symm, H.cac.same (fun i hi => u.ne _ (fun e => n3 (e ▸ hi))), hl, H.npos, H.nlt, H.clen, H.keys, ⟨hb.symm, n2, n3⟩, H.fz⟩
  show (Gx.hset h ⟨G.p, 0 + 0, none⟩ _)[G.p]? = _
  rw [hset_at H.blk]; rfl
theorem RkAt.stTorn {β : Type} {Q : β → Heap → Prop} {b cap : Nat} {t' : Nat → Bool} {f : Unit → M β} (H : RkAt h G R) (hs : TorAt h b R.n t') (hb : b ≠ G.p)
    (hq : ∀ h', Upd G.p h h' → RkAt h' { G with bt := b, lt := cap } { R with t := t' } → (f ()).wp h' Q) : (stV ((⟨G.p, 0, none⟩ : Addr).add 1) (⟨some ⟨b, 0, none⟩, R.n, cap⟩ : Sl).v >>= f).wp h Q := by
  obtain ⟨n1, n2, n3⟩ := H.ne
  refine stV_b (x := (⟨some ⟨G.bt, 0, none⟩, R.n, G.lt⟩ : Sl).v) (by rw [H.cell]; rfl) (by rw [add_mk, hfrozen_blk H.blk]) rfl ?_
  rw [add_mk]
  have u := Upd.hset h G.p (0 + 1) (⟨some ⟨b, 0, none⟩, R.n, cap⟩ : Sl).v
  refine hq _ u ⟨?_, (show SecAt h G.bs R.n R.s from H.sec).upd u n1.symm, hs.upd u hb, H.cac.same (fun i hi => u.ne _ (fun e => n3 (e ▸ hi))), H.lens, H.npos, H.nlt, H.clen, H.keys, ⟨n1, hb.symm, n3⟩, H.fz⟩
  show (Gx.hset h ⟨G.p, 0 + 1, none⟩ _)[G.p]? = _
  rw [hset_at H.blk]; rfl
theorem put_len {s : Nat → List UInt8} {k : Nat} {l : List UInt8} (hs : ∀ i, (s i).length = 128) (hl : l.length = 128) : ∀ i, (put s k l i).length = 128 := by
  intro i; unfold put; split
  · exact hl
  · exact hs i
theorem rstay_spec {Q : Unit → Heap → Prop} {x1 : Array Value} {k : Nat} {v : List UInt8} (H : RkAt h G R) (hx : x1 = (ccell ((k : Int), v)).toArray) (hk : k < R.n) (hv : v.length = 128)
    (hq : ∀ h' G', Km (fun i => i = G.p) h h' → (∀ i, G'.on i → G.on i ∨ h.size ≤ i) → G'.p = G.p → G'.c = G.c → RkAt h' G' { R with s := put R.s k v, t := put R.t k false } → Q () h') : (rambleref04_Disk_stay (some ⟨G.p, 0, none⟩) x1).wp h Q := by
  subst hx
  unfold rambleref04_Disk_stay
  refine mkB_b ?_
  have e1 := Ext.push h (.cells (ccell ((k : Int), v)).toArray ty_rambleref04_Cached)
  have g1 : (h.push (.cells (ccell ((k : Int), v)).toArray ty_rambleref04_Cached))[h.size]? = some (.cells (ccell ((k : Int), v)).toArray ty_rambleref04_Cached (0, 0)) := get_push_eq
  have H1 := H.ext e1
  generalize h.push (.cells (ccell ((k : Int), v)).toArray ty_rambleref04_Cached) = h1 at e1 g1 H1 ⊢
  have hon : ∀ i, G.on i → i < h.size := fun i hi => H.lt hi
  have hpl : G.p < h.size := hon _ (.inl rfl)
  refine nilP_b (ldL_b (n := ⟨some ⟨G.bs, 0, none⟩, R.n, G.ls⟩) (by rw [H1.cell]; rfl) ?_)
  refine secCopy (show SecAt h1 G.bs R.n R.s from H1.sec) H.lens H.npos H.nlt (fun h2 b2 cap2 e2 S2 lb2 ub2 => ?_)
  have g2 := e2.blk g1
  have H2 := H1.ext e2
  rw [add_mk, Nat.zero_add]
  refine ldI_b (n := (k : Int)) (by rw [hcell_blk g2]; rfl) ?_
  refine ldG_b (cs := bcells v) (by rw [bcells_size, hv]) (fun j hj => ?_) ?_
  · rw [add_mk, add_mk, hcell_blk g2, bcells_get]
    simp [ccell, Nat.add_comm]
  refine ixL_b (by omega) (by show (k : Int) < (R.n : Int); omega) rfl ?_
  rw [add_mk, Nat.zero_add, show ((k : Int).toNat * 128) = k * 128 by omega]
  refine need_b (by rw [bcells_size, hv]) ?_
  have hb2G : ¬ G.on b2 := fun ho => by have := hon _ ho; have := e1.size; omega
  refine secSt S2 H.lens hk hv (fun h3 u3 S3 => ?_)
  have H3 := H2.upd u3 hb2G
  have g3 : h3[h.size]? = _ := (u3.ne h.size (by have := blk_lt g1; omega)).trans g2
  refine nilP_b (H3.stSecs (cap := cap2) S3 (put_len H.lens hv) (by have := e1.size; omega) (fun h4 u4 H4 => ?_))
  have g4 : h4[h.size]? = _ := (u4.ne h.size (by omega)).trans g3
  refine nilP_b (ldL_b (n := ⟨some ⟨G.bt, 0, none⟩, R.n, G.lt⟩) (by rw [H4.cell]; rfl) ?_)
  refine torCopy (show TorAt h4 G.bt R.n R.t from H4.tor) H.npos H.nlt (fun h5 b5 cap5 e5 T5 lb5 ub5 => ?_)
  have g5 := e5.blk g4
  have H5 := H4.ext e5
  have hs1 := e1.size
  have hs2 := e2.size
  have hs4 : h4.size = h2.size := u4.size.trans u3.size
  refine ldI_b (n := (k : Int)) (by rw [hcell_blk g5]; rfl) ?_
  refine ixL_b (by omega) (by show (k : Int) < (R.n : Int); omega) rfl ?_
  rw [add_mk, Nat.zero_add, show ((k : Int).toNat * 1) = k by omega]
  refine torSt T5 hk (fun h6 u6 T6 => ?_)
  have H6 := H5.upd u6 (fun ho => by
    rcases ho with ho | ho | ho | ho
    · have ho' : b5 = G.p := ho; omega
    · have ho' : b5 = b2 := ho; omega
    · have ho' : b5 = G.bt := ho; have := hon _ (show G.on G.bt from .inr (.inr (.inl rfl))); omega
    · have := hon b5 (.inr (.inr (.inr ho))); omega)
  refine nilP_b (H6.stTorn (cap := cap5) T6 (by show b5 ≠ G.p; omega) (fun h7 u7 H7 => ?_))
  have u4' : Upd G.p h3 h4 := u4
  have u7' : Upd G.p h6 h7 := u7
  have hs6 := e5.size
  refine pure_w (hq h7 { G with bs := b2, bt := b5, ls := cap2, lt := cap5 } ⟨by rw [u7'.size, u6.size]; omega, fun i hi hn => ?_⟩ (fun i hi => ?_) rfl rfl H7)
  · rw [u7'.ne i hn, u6.ne i (by omega), e5.same i (by omega), u4'.ne i hn, u3.ne i (by omega), e2.same i (by omega), e1.same i hi]
  · rcases hi with hi | hi | hi | hi
    · exact .inl (.inl hi)
    · have hi' : i = b2 := hi; exact .inr (by omega)
    · have hi' : i = b5 := hi; exact .inr (by omega)
    · exact .inl (.inr (.inr (.inr hi)))
end
end Gx
