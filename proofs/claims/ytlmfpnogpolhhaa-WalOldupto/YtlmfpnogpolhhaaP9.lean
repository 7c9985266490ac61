/- Own proofs: what those Lean programs compute. No condition. -/
import Derived.Test.YtlmfpnogpolhhaaP0
import Derived.Test.YtlmfpnogpolhhaaP1
import Derived.Test.YtlmfpnogpolhhaaP2
import Derived.Test.YtlmfpnogpolhhaaP3
import Derived.Test.YtlmfpnogpolhhaaP4
import Derived.Test.YtlmfpnogpolhhaaP5
import Derived.Test.YtlmfpnogpolhhaaP6
import Derived.Test.YtlmfpnogpolhhaaP7
import Derived.Test.YtlmfpnogpolhhaaP8
set_option linter.unusedVariables false
set_option linter.unusedSimpArgs false
namespace Gx
open Go
set_option linter.unusedVariables false
set_option linter.unusedSimpArgs false
set_option maxRecDepth 20000
theorem ap1S_b {β : Type} {lo e : Nat} {h : Heap} {Q : β → Heap → Prop} {r s : Sl} {ss : List Sl} {f : Sl → M β} (H : Gw lo h r 1 (ss.map Sl.v)) (hl : r.len = ss.length) (hb : (ss.length + 1) * 24 ≤ 140737488355328) (hlo : lo ≤ h.size)
    (hq : ∀ h' r', Gw lo h' r' 1 ((ss ++ [s]).map Sl.v) → r'.len = ss.length + 1 → Km (Sl.on r) h h' → (f r').wp h' Q) :
    (bdL e 1 #[s.v] >>= fun x => apL e 1 24 (#[.slice none 0 0] : Array Value) r x >>= f).wp h Q := by
  refine bdL_b ?_
  have e1 := Ext.push h (.cells #[s.v] e)
  have g1 : (h.push (.cells #[s.v] e))[h.size]? = some (.cells #[s.v] e (0, 0)) := get_push_eq
  have s1 : (h.push (.cells #[s.v] e)).size = h.size + 1 := by simp
  generalize h.push (.cells #[s.v] e) = h1 at e1 g1 s1 ⊢
  refine bind_w (ap_grow (lo := lo) (news := [s.v]) rfl (H.ext e1) (by simp) (.inr ⟨_, rfl, fun j x hj => ?_⟩) (by simpa using one_v s) (by simpa [hl] using hb) (by simp [hl]; omega) (by omega) (fun h2 r2 g2 hl2 hs2 hk2 ho2 => ?_))
  · rcases j with _ | j
    · simp at hj; subst hj
      rw [add_mk, hcell_blk g1]; rfl
    · simp at hj
  · refine hq h2 r2 (by simpa using g2) (by rw [hl2, hl]) ⟨by omega, fun i hi hn => ?_⟩
    rw [hk2 i (by omega) hn, e1.same i hi]
section
variable {h : Heap} {F : Fp} {D : Dk} {b o : Nat} {ns : Sl} {L : Lg}
theorem WalAt.up {h' : Heap} {S : Nat → Prop} {lo : Nat} (H : WalAt h F D b o ns L) (k : Km S h h') (hS : ∀ i, S i → lo ≤ i) (hF : ∀ i, F.on i → i < lo) (hb : b < lo) (hns : L.note ≠ [] → ∀ i, Sl.on ns i → i < lo) : WalAt h' F D b o ns L := by
  obtain ⟨cs, ty, hb1, hb2⟩ := H.blk
  exact ⟨H.dk.same (fun i hi => k.same i (H.dk.lt hi) (fun ho => by have := hS i ho; have := hF i hi; omega)), ⟨cs, ty, k.blk hb1 (fun ho => by have := hS _ ho; omega), hb2⟩,
    H.note.keepN (fun hN i hi hl => k.same i hl (fun ho => by have := hS i ho; have := hns hN i hi; omega)), H.off, H.nb, H.ok⟩
end
/-- a slice of the caller's commits -/
def Had (lo : Nat) (h0 h : Heap) (x : Sl) (css : List (List (List UInt8))) : Prop :=
  ∃ ss : List Sl, Gw lo h x 1 (ss.map Sl.v) ∧ x.len = ss.length ∧ ss.length = css.length ∧ ∀ (i : Nat) s rs, ss[i]? = some s → css[i]? = some rs → Bss h0 s rs
theorem Had.nil (lo : Nat) (h0 h : Heap) : Had lo h0 h Sl.nil [] := ⟨[], Gw.nil _ _ _, rfl, rfl, fun i s rs hs => by simp at hs⟩
theorem Had.lt {lo : Nat} {h0 h : Heap} {x : Sl} {css : List (List (List UInt8))} (H : Had lo h0 h x css) : ∀ i, Sl.on x i → lo ≤ i := by
  obtain ⟨ss, g, _⟩ := H
  exact fun i hi => (g.lt hi).2
theorem Had.keep {lo : Nat} {h0 h h' : Heap} {x : Sl} {css : List (List (List UInt8))} (H : Had lo h0 h x css) (e : ∀ i, lo ≤ i → i < h.size → h'[i]? = h[i]?) : Had lo h0 h' x css := by
  obtain ⟨ss, g, h1, h2, h3⟩ := H
  exact ⟨ss, g.same (fun i hi => e i (g.lt hi).2 (g.lt hi).1), h1, h2, h3⟩
theorem Had.bcs {lo : Nat} {h0 h : Heap} {x : Sl} {css : List (List (List UInt8))} (H : Had lo h0 h x css) (e : Ext h0 h) : Bcs h x css := by
  obtain ⟨ss, g, h1, h2, h3⟩ := H
  refine ⟨by rw [h1, h2], ?_⟩
  rcases g.reads with h4 | ⟨a, ha, h4⟩
  · left
    have : ss = [] := by simpa using h4
    subst this
    exact List.length_eq_zero_iff.1 h2.symm
  · refine .inr ⟨a, ha, fun i rs hi => ?_⟩
    have hlt : i < ss.length := by rw [h2]; exact (List.getElem?_eq_some_iff.1 hi).1
    exact ⟨ss[i], h4 i _ (by rw [List.getElem?_map, List.getElem?_eq_getElem hlt]; rfl), (h3 i _ rs (List.getElem?_eq_getElem hlt) hi).ext e⟩
theorem had_push {β : Type} {lo e : Nat} {h0 h : Heap} {Q : β → Heap → Prop} {x s : Sl} {css : List (List (List UInt8))} {rs : List (List UInt8)} {f : Sl → M β} (H : Had lo h0 h x css) (hlo : lo ≤ h.size) (hl : css.length ≤ 1000000000) (hs : Bss h0 s rs)
    (hq : ∀ h' x', Km (Sl.on x) h h' → Had lo h0 h' x' (css ++ [rs]) → (f x').wp h' Q) : (bdL e 1 #[s.v] >>= fun y => apL e 1 24 (#[.slice none 0 0] : Array Value) x y >>= f).wp h Q := by
  obtain ⟨ss, g, h1, h2, h3⟩ := H
  refine ap1S_b g h1 (by omega) hlo (fun h' x' g' hl' k => hq h' x' k ⟨ss ++ [s], g', by simp [hl'], by simp [h2], fun i s' rs' hs' hr' => ?_⟩)
  rw [List.getElem?_append] at hs' hr'
  rw [← h2] at hr'
  split at hs'
  · rename_i hlt
    rw [if_pos hlt] at hr'
    exact h3 i s' rs' hs' hr'
  · rename_i hlt
    rw [if_neg hlt] at hr'
    obtain ⟨k', hk'⟩ : ∃ k', k' = i - ss.length := ⟨_, rfl⟩
    rw [← hk'] at hs' hr'
    rcases k' with _ | k'
    · simp at hs' hr'; subst hs'; subst hr'; exact hs
    · simp at hs'
theorem only_old {v : Vs} {slots : Nat} (H : Only v 1 slots) {j : Nat} (hj : j < slots) : Old v 2 j := fun x hx => by
  rcases H j hj x hx with h | h
  · exact .inl h
  · right; rw [h]; unfold atN; omega
theorem only_app {v v' : Vs} {ep slots u : Nat} {rs : List (List UInt8)} (H : Only v ep slots) (hep : ep ≤ 1099511627776) (hs : slots ≤ 4096) (hC : ComV v' ep u rs) (hE : ∀ j, (j < 2 + u ∨ 2 + u + (cuts (cbytes rs)).length ≤ j) → v' j = v j) : Only v' ep slots := by
  intro j hj x hx
  by_cases h1 : j < u
  · rw [hE _ (.inl (by omega))] at hx
    exact H j hj x hx
  · by_cases h2 : u + (cuts (cbytes rs)).length ≤ j
    · rw [hE _ (.inr (by omega))] at hx
      exact H j hj x hx
    · right
      obtain ⟨i, rfl⟩ : ∃ i, j = u + i := ⟨j - u, by omega⟩
      have hi : i < (cuts (cbytes rs)).length := by omega
      have h3 := hC i hi
      rw [show 2 + u + i = 2 + (u + i) by omega, hx] at h3
      cases h3
      have hb : badF (if i + 1 = (cuts (cbytes rs)).length then 3 else 2) (atN ep (u + i)) (cuts (cbytes rs))[i] = false := badF_ok (by split <;> omega) (by split <;> omega) (by unfold atN; omega) (cuts_le _ _ (List.getElem_mem hi))
      exact (sealed_fields hb (by unfold atN; omega)).2.2.1
def nt : List UInt8 := [110, 111, 116, 101]
theorem nt_pay : (hpay 30 nt).length ≤ 112 := by simp [hpay, venc_small, nt]
theorem oldlaw_2 {h0 hl h : Heap} {F : Fp} {D : Dk} {b o lo : Nat} {ns x1 : Sl} {v : Vs} {ts : List (List (List UInt8))} (hx1 : Bcs h0 x1 ts) (htl : ts.length ≤ 1000000000) (hts : ∀ rs ∈ ts, (cbytes rs).length ≤ 1000000000 ∧ rs.length ≤ 1000000000)
    (E : Ext h0 h) (W : WalAt h F D b o ns ⟨30, nt, 2, 0, false, false⟩) (V : Vw D 40 v) (hO : ∀ j, j < 30 → Old v 2 j) (hv0 : v 0 = some (sealed 1 2 (hpay 30 nt))) (hv1 : v 1 = some (sealed 1 1 (hpay 30 nt)))
    (hF : ∀ i, F.on i → h0.size ≤ i) (hb0 : h0.size ≤ b) :
    (M.loop (ramblelaw06_WalOld_l2 (some ⟨F.p, 0, none⟩) (some ⟨b, o, none⟩) x1 (x1.len : Int)) (Sl.nil, 0)).wp h (fun r h' => r = true ∧ Ext h0 h') := by
  have hFl : ∀ i, F.on i → i < h.size := fun i hi => W.dk.lt hi
  have hbl : b < h.size := W.lt
  have hnl : ∀ i, Sl.on ns i → i < h.size := fun i hi => W.note.ltN (by decide) hi
  have hwl : ∀ i, wK F b i → i < h.size := fun i hi => W.wlt hi
  rw [hx1.1]
  refine M.loop_inv (fun (t : Sl × Int) h' => ∃ (k : Nat) (css : List (List (List UInt8))) (D' : Dk) (v' : Vs), t.2 = (k : Int) ∧ k ≤ ts.length ∧ css.length ≤ k ∧ (∀ rs ∈ css, rs ∈ ts) ∧ Ext h0 h' ∧ h.size ≤ h'.size ∧ Had h.size h0 h' t.1 css ∧ WalAt h' F D' b o ns ⟨30, nt, 2, uEnd css 0, false, false⟩ ∧ Vw D' 40 v' ∧
      Laid v' 2 css 0 ∧ (∀ j, uEnd css 0 ≤ j → j < 30 → Old v' 2 j) ∧ v' 0 = some (sealed 1 2 (hpay 30 nt)) ∧ v' 1 = some (sealed 1 1 (hpay 30 nt))) (fun t _ => ((ts.length : Int) - t.2).toNat) ?_
    ⟨0, [], D, v, rfl, Nat.zero_le _, Nat.le_refl _, fun rs h => (by cases h), E, Nat.le_refl _, Had.nil _ _ _, W, V, trivial, fun j _ hj => hO j hj, hv0, hv1⟩
  rintro ⟨x, t⟩ h' ⟨k, css, D', v', hkk, hk, hck, hct, E', hsz, hH, W', V', hLd, hO', hw0, hw1⟩ self hself
  dsimp only at hkk hH
  subst hkk
  have hu : uEnd css 0 ≤ 30 := W'.ok.used
  unfold ramblelaw06_WalOld_l2
  refine ite_w (fun hlt => ?_) (fun hge => ?_)
  · have hlt : k < ts.length := by have := of_decide_eq_true hlt; omega
    obtain ⟨a, s, ha, hs, hbs⟩ := hx1.get hlt
    obtain ⟨l1, l2⟩ := hts _ (List.getElem_mem hlt)
    refine ixL_b (by omega) (by rw [hx1.1]; omega) ha ?_
    refine ldL_b (n := s) (by rw [show (k : Int).toNat * 1 = k by omega]; exact E'.cell hs) ?_
    refine bind_w (lappend_spec W' (hbs.ext E') l1 l2 (fun h2 k2 W2 => ?_))
    have E2 : Ext h0 h2 := E'.wk k2 hF hb0
    have hH2 : Had h.size h0 h2 x css := hH.keep (fun i h1 h3 => k2.same i h3 (fun ho => by have := hwl i ho; omega))
    have hsz2 := k2.size
    have next : IntKind.wrap .i64 ((k : Int) + 1) = ((k + 1 : Nat) : Int) := by rw [w64 (by omega) (by omega)]; omega
    by_cases hfull : 30 - uEnd css 0 < (cuts (cbytes ts[k])).length
    · rw [append_full (L := ⟨30, nt, 2, uEnd css 0, false, false⟩) rfl rfl hfull] at W2 ⊢
      refine iteF rfl ?_
      unfold ramblelaw06_WalOld_j1
      rw [next]
      exact hself _ _ ⟨k + 1, css, D', v', rfl, by omega, by omega, hct, E2, by omega, hH2, W2, V', hLd, hO', hw0, hw1⟩ (by dsimp only; omega)
    · obtain ⟨a1, a2, v2, V2, C2, S2⟩ := append_vw (L := ⟨30, nt, 2, uEnd css 0, false, false⟩) (rs := ts[k]) V' rfl rfl hfull hu (by show 2 + 30 ≤ 40; decide)
      rw [a1]
      rw [a2] at W2
      generalize (Lg.append ⟨30, nt, 2, uEnd css 0, false, false⟩ D' ts[k]).1 = D2 at V2 W2
      refine iteT rfl ?_
      refine had_push (rs := ts[k]) hH2 (by omega) (by omega) hbs (fun h3 x3 k3 hH3 => ?_)
      have hxl := hH2.lt
      have W3 := W2.up k3 hxl hFl hbl (fun _ => hnl)
      have h0s := E.size
      have E3 : Ext h0 h3 := E2.km k3 (fun i hi => by have := hxl i hi; omega)
      unfold ramblelaw06_WalOld_j1
      rw [next]
      have hU : uEnd (css ++ [ts[k]]) 0 = uEnd css 0 + (cuts (cbytes ts[k])).length := by rw [uEnd_app]; rfl
      have hS : ∀ j, j < 2 + uEnd css 0 → v2 j = v' j := fun j hj => S2 j (.inl hj)
      refine hself _ _ ⟨k + 1, css ++ [ts[k]], D2, v2, rfl, by omega, by simp; omega, ?_, E3, by have := k3.size; omega, hH3, by rw [hU]; exact W3, V2, (hLd.same (fun j _ hj => hS _ (by omega))).app ⟨C2, trivial⟩, fun j hj hj2 => ?_, ?_, ?_⟩ (by dsimp only; omega)
      · intro rs hrs
        rcases List.mem_append.1 hrs with h1 | h1
        · exact hct rs h1
        · have : rs = ts[k] := by simpa using h1
          rw [this]; exact List.getElem_mem hlt
      · rw [hU] at hj
        intro y hy
        rw [S2 _ (.inr (by show 2 + uEnd css 0 + (cuts (cbytes ts[k])).length ≤ 2 + j; omega))] at hy
        exact hO' j (by omega) hj2 y hy
      · rw [hS 0 (by omega)]; exact hw0
      · rw [hS 1 (by omega)]; exact hw1
  · have hge : k = ts.length := by have := of_decide_eq_false hge; omega
    have r0 := V'.read (k := 0) (by omega)
    have r1 := V'.read (k := 1) (by omega)
    rw [hw0] at r0
    rw [hw1] at r1
    refine bind_w (lopen_spec (ob := fun i => if i = 0 then some (2, 30, nt) else some (1, 30, nt)) (c := 0) (e := 2) (k := 30) (note := nt) (css := css) W'.dk V'.away (by rw [V'.n]; decide) (by rw [V'.n]; decide)
      ⟨r0, by decide, by decide, rfl, by decide, by decide, by rw [V'.n]; decide, nt_pay⟩ ⟨r1, by decide, by decide, rfl, by decide, by decide, by rw [V'.n]; decide, nt_pay⟩ (.inl ⟨rfl, by decide⟩) rfl
      (tells V' (by decide) css 0 hLd hu (fun hlt => hO' _ (Nat.le_refl _) hlt)) (fun h4 b' o' ns' s xx e4 hb' W4 bs cx => ?_))
    have E4 := E'.trans e4
    have hH4 := hH.keep (h' := h4) (fun i _ h3 => e4.same i h3)
    refine iteT_b rfl (pure_b (iteT_b rfl ?_))
    refine assoc_b (b2s_b (ns := nt) bs.len.symm bs.reads (pure_b ?_))
    refine iteT_b (by rw [show (⟨#[110, 111, 116, 101]⟩ : ByteArray) = ⟨nt.toArray⟩ from rfl, sEq_mk]; simp) ?_
    refine assoc_b (bind_w (same06_spec cx.bcs (hH4.bcs E4) (by omega) (fun rs hrs => hts rs (hct rs hrs)) (fun h5 e5 => pure_b ?_)))
    refine iteT_b rfl (assoc_b (bind_w (lepoch_spec (W4.ext e5) (pure_b (pure_w ⟨rfl, E4.trans e5⟩)))))
theorem oldlaw_1 {h0 h : Heap} {F : Fp} {D : Dk} {b o : Nat} {ns x0 x1 : Sl} {v : Vs} {fs ts : List (List (List UInt8))} (hx0 : Bcs h0 x0 fs) (hfl : fs.length ≤ 1000000000) (hfs : ∀ rs ∈ fs, (cbytes rs).length ≤ 1000000000 ∧ rs.length ≤ 1000000000)
    (hx1 : Bcs h0 x1 ts) (htl : ts.length ≤ 1000000000) (hts : ∀ rs ∈ ts, (cbytes rs).length ≤ 1000000000 ∧ rs.length ≤ 1000000000)
    (E : Ext h0 h) (W : WalAt h F D b o ns ⟨30, nt, 1, 0, false, false⟩) (V : Vw D 40 v) (hO : Only v 1 30) (hv1 : v 1 = some (sealed 1 1 (hpay 30 nt)))
    (hF : ∀ i, F.on i → h0.size ≤ i) (hb0 : h0.size ≤ b) :
    (M.loop (ramblelaw06_WalOld_l1 x1 (some ⟨F.p, 0, none⟩) (some ⟨b, o, none⟩) x0 (x0.len : Int)) 0).wp h (fun r h' => r = true ∧ Ext h0 h') := by
  rw [hx0.1]
  refine M.loop_inv (fun (t : Int) h' => ∃ (k u : Nat) (D' : Dk) (v' : Vs), t = (k : Int) ∧ k ≤ fs.length ∧ Ext h0 h' ∧ WalAt h' F D' b o ns ⟨30, nt, 1, u, false, false⟩ ∧ Vw D' 40 v' ∧ Only v' 1 30 ∧ v' 1 = some (sealed 1 1 (hpay 30 nt))) (fun t _ => ((fs.length : Int) - t).toNat) ?_
    ⟨0, 0, D, v, rfl, Nat.zero_le _, E, W, V, hO, hv1⟩
  rintro t h' ⟨k, u, D', v', rfl, hk, E', W', V', hO', hw1⟩ self hself
  have hu : u ≤ 30 := W'.ok.used
  unfold ramblelaw06_WalOld_l1
  refine ite_w (fun hlt => ?_) (fun hge => ?_)
  · have hlt : k < fs.length := by have := of_decide_eq_true hlt; omega
    obtain ⟨a, s, ha, hs, hbs⟩ := hx0.get hlt
    obtain ⟨l1, l2⟩ := hfs _ (List.getElem_mem hlt)
    refine ixL_b (by omega) (by rw [hx0.1]; omega) ha ?_
    refine ldL_b (n := s) (by rw [show (k : Int).toNat * 1 = k by omega]; exact E'.cell hs) ?_
    refine bind_w (lappend_spec W' (hbs.ext E') l1 l2 (fun h2 k2 W2 => ?_))
    have E2 : Ext h0 h2 := E'.wk k2 hF hb0
    rw [show IntKind.wrap .i64 ((k : Int) + 1) = ((k + 1 : Nat) : Int) by rw [w64 (by omega) (by omega)]; omega]
    by_cases hfull : 30 - u < (cuts (cbytes fs[k])).length
    · rw [append_full (L := ⟨30, nt, 1, u, false, false⟩) rfl rfl hfull] at W2
      exact hself _ _ ⟨k + 1, u, D', v', rfl, by omega, E2, W2, V', hO', hw1⟩ (by omega)
    · obtain ⟨a1, a2, v2, V2, C2, S2⟩ := append_vw (L := ⟨30, nt, 1, u, false, false⟩) (rs := fs[k]) V' rfl rfl hfull hu (by show 2 + 30 ≤ 40; decide)
      rw [a2] at W2
      exact hself _ _ ⟨k + 1, u + (cuts (cbytes fs[k])).length, _, v2, rfl, by omega, E2, W2, V2, only_app hO' (by decide) (by decide) C2 S2, by rw [S2 1 (.inl (by show 1 < 2 + u; omega))]; exact hw1⟩ (by omega)
  · obtain ⟨q1, q2, q3⟩ := reset_vw (L := ⟨30, nt, 1, u, false, false⟩) V' (by decide) rfl (by show (1 : Nat) < 1099511627776; decide) nt_pay
    refine bind_w (lreset_spec W' (fun h2 k2 W2 => ?_))
    rw [q1]
    rw [q2] at W2
    generalize (Lg.reset ⟨30, nt, 1, u, false, false⟩ D').1 = D2 at q3 W2
    have q3 : Vw D2 40 (put v' 0 (some (sealed 1 2 (hpay 30 nt)))) := by
      have e0 : (1 + 1) % 2 = 0 := rfl
      have e2 : (((1 + 1 : Nat) : Nat) : Int) = 2 := rfl
      dsimp only at q3
      rw [e0, e2] at q3
      exact q3
    have E2 : Ext h0 h2 := E'.wk k2 hF hb0
    refine iteF rfl ?_
    refine oldlaw_2 (lo := 0) (hl := h2) hx1 htl hts E2 W2 q3 (fun j hj x hx => ?_) ?_ ?_ hF hb0
    · rw [put_ne (by omega)] at hx
      exact only_old hO' hj x hx
    · exact put_at
    · rw [put_ne (by decide)]; exact hw1
theorem old_spec {h0 : Heap} {x0 x1 : Sl} {fs ts : List (List (List UInt8))} (hx0 : Bcs h0 x0 fs) (hfl : fs.length ≤ 1000000000) (hfs : ∀ rs ∈ fs, (cbytes rs).length ≤ 1000000000 ∧ rs.length ≤ 1000000000)
    (hx1 : Bcs h0 x1 ts) (htl : ts.length ≤ 1000000000) (hts : ∀ rs ∈ ts, (cbytes rs).length ≤ 1000000000 ∧ rs.length ≤ 1000000000) : (ramblelaw06_WalOld x0 x1).wp h0 (fun r h' => r = true ∧ Ext h0 h') := by
  unfold ramblelaw06_WalOld
  refine bind_w (dnew_spec (fun hh => by omega) (fun m hm _ _ h1 F e1 H1 hF => ?_))
  have hm40 : m = 40 := by omega
  subst hm40
  refine bdL_bys (l := nt) e1 rfl rfl (fun h2 d2 e2 s2 g2 b2 => mrk_b g2 rfl (fun h3 u3 b3 => ?_))
  have d3 : Ext h1 h3 := d2.upd u3 (Nat.le_refl _)
  have e3 : Ext h0 h3 := e1.trans d3
  obtain ⟨f1, f2⟩ := format_vw (L := lg0 30 nt) (Vw.new 40) (by omega) nt_pay
  refine bind_w (lformat_spec (k := 30) (note := nt) (H1.ext d3) (by omega) (by omega) (by decide) (by decide) b3 (by decide) (fun hne => absurd f1 hne) (fun _ h4 b ns k4 hb4 W4 => ?_))
  have E4 : Ext h0 h4 := e3.kp k4 hF
  refine bind_w (begun06_spec (fun h5 e5 => ?_))
  refine iteF_b rfl (pure_b (iteF_b rfl (pure_b (iteF_b rfl (pure_b (iteF rfl ?_))))))
  refine oldlaw_1 hx0 hfl hfs hx1 htl hts (E4.trans e5) (W4.ext e5) f2 (fun j hj x hx => ?_) ?_ hF (Nat.le_trans e3.size hb4)
  · rw [put_ne (by omega), put_ne (by omega)] at hx
    cases hx
    exact .inl open_zerosD
  · exact put_at
end Gx
