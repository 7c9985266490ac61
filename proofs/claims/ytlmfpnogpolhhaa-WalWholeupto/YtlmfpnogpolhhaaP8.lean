/- Own proofs: what those Lean programs compute. No condition. -/
import Derived.Test.YtlmfpnogpolhhaaP0
import Derived.Test.YtlmfpnogpolhhaaP1
import Derived.Test.YtlmfpnogpolhhaaP2
import Derived.Test.YtlmfpnogpolhhaaP3
import Derived.Test.YtlmfpnogpolhhaaP4
import Derived.Test.YtlmfpnogpolhhaaP5
import Derived.Test.YtlmfpnogpolhhaaP6
import Derived.Test.YtlmfpnogpolhhaaP7
set_option linter.unusedVariables false
set_option linter.unusedSimpArgs false
namespace Gx
open Go
set_option linter.unusedVariables false
set_option linter.unusedSimpArgs false
set_option maxRecDepth 20000
/-- what a view shows as a head -/
def HeadV (v : Vs) (at' : Nat) : Hd → Prop
  | none => v at' = none ∨ ∃ x, v at' = some x ∧ openOk x = false
  | some (e, k, note) => v at' = some (sealed 1 (e : Int) (hpay k note)) ∧ 1 ≤ e ∧ e ≤ 1099511627776 ∧ e % 2 = at' ∧ 1 ≤ k ∧ k ≤ 4096 ∧ 2 + k ≤ 40 ∧ (hpay k note).length ≤ 112
theorem HeadV.at_ {D : Dk} {v : Vs} {a : Nat} {o : Hd} (V : Vw D 40 v) (hlt : a < 40) (H : HeadV v a o) : HeadAt D a o := by
  have hr := V.read hlt
  match o, H with
  | none, H =>
    have H : v a = none ∨ ∃ x, v a = some x ∧ openOk x = false := H
    show (D.read _).2 ≠ 0 ∨ openOk (D.read _).1 = false
    rw [hr]
    rcases H with h | ⟨x, h, ho⟩
    · rw [h]; left; simp
    · rw [h]; exact .inr ho
  | some (e, k, note), ⟨h1, h2, h3, h4, h5, h6, h7, h8⟩ =>
    rw [h1] at hr
    exact ⟨hr, h2, h3, h4, h5, h6, by rw [V.n]; exact h7, h8⟩
theorem HeadV.same {v v' : Vs} {a : Nat} {o : Hd} (H : HeadV v a o) (h : v' a = v a) : HeadV v' a o := by
  match o, H with
  | none, H => show v' a = none ∨ _; rw [h]; exact H
  | some (e, k, note), H => exact ⟨h ▸ H.1, H.2⟩
def shd (e : Nat) : List UInt8 := sealed 1 (e : Int) (hpay 30 [])
theorem hpay30 : (hpay 30 []).length ≤ 112 := by simp [hpay, venc_small]
/-- css is what an opening tells -/
structure Opn (D : Dk) (css : List (List (List UInt8))) : Prop where
  away : D.away = false
  n : D.n = 40
  ex : ∃ (ob : Nat → Hd) (c e : Nat), HeadAt D 0 (ob 0) ∧ HeadAt D 1 (ob 1) ∧ ((c = 0 ∧ hep (ob 1) ≤ e) ∨ (c = 1 ∧ hep (ob 0) < e)) ∧ ob c = some (e, 30, []) ∧ Tells D e 30 css 0
theorem opn_of {D : Dk} {v : Vs} {e : Nat} {o : Hd} {css : List (List (List UInt8))} (V : Vw D 40 v) (he1 : 1 ≤ e) (he2 : e ≤ 1099511627776) (hh : v (e % 2) = some (shd e)) (ho : HeadV v ((e + 1) % 2) o) (hl : hep o < e) (hT : Tells D e 30 css 0) : Opn D css := by
  have H1 : HeadV v (e % 2) (some (e, 30, [])) := ⟨hh, he1, he2, rfl, by decide, by decide, by decide, hpay30⟩
  rcases Nat.mod_two_eq_zero_or_one e with h | h
  · have h' : (e + 1) % 2 = 1 := by omega
    rw [h] at H1
    rw [h'] at ho
    exact ⟨V.away, V.n, fun i => if i = 0 then some (e, 30, []) else o, 0, e, H1.at_ V (by omega), ho.at_ V (by omega), .inl ⟨rfl, Nat.le_of_lt hl⟩, rfl, hT⟩
  · have h' : (e + 1) % 2 = 0 := by omega
    rw [h] at H1
    rw [h'] at ho
    exact ⟨V.away, V.n, fun i => if i = 0 then o else some (e, 30, []), 1, e, ho.at_ V (by omega), H1.at_ V (by omega), .inr ⟨rfl, hl⟩, rfl, hT⟩
/-- a disk's view, while the log of epoch e runs -/
structure Gd (v : Vs) (e : Nat) (css : List (List (List UInt8))) : Prop where
  e1 : 1 ≤ e
  e2 : e ≤ 1099511627776
  hd : v (e % 2) = some (shd e)
  ot : ∃ o, HeadV v ((e + 1) % 2) o ∧ hep o < e
  laid : Laid v e css 0
  le : uEnd css 0 ≤ 30
  old : ∀ j, uEnd css 0 ≤ j → j < 30 → Old v e j
  all : ∀ j, j < 30 → ∀ x, v (2 + j) = some x → openOk x = false ∨ ∃ e', e' ≤ e ∧ n0 x = atN e' j
section
variable {D : Dk} {v v' w : Vs} {e : Nat} {css : List (List (List UInt8))} {rs : List (List UInt8)}
theorem Gd.opn (G : Gd v e css) (V : Vw D 40 v) : Opn D css := by
  obtain ⟨o, h1, h2⟩ := G.ot
  exact opn_of V G.e1 G.e2 G.hd h1 h2 (tells V (by decide) css 0 G.laid G.le (fun hlt => G.old _ (Nat.le_refl _) hlt))
theorem Gd.append (G : Gd v e css) (hfit : uEnd css 0 + (cuts (cbytes rs)).length ≤ 30) (hC : ComV v' e (uEnd css 0) rs) (hE : ∀ j, (j < 2 + uEnd css 0 ∨ 2 + uEnd css 0 + (cuts (cbytes rs)).length ≤ j) → v' j = v j) : Gd v' e (css ++ [rs]) := by
  have hU : uEnd (css ++ [rs]) 0 = uEnd css 0 + (cuts (cbytes rs)).length := by rw [uEnd_app]; rfl
  obtain ⟨o, h1, h2⟩ := G.ot
  have he2 := G.e2
  refine ⟨G.e1, G.e2, ?_, ⟨o, h1.same (hE _ (.inl (by omega))), h2⟩, (G.laid.same (fun j _ hj => hE _ (.inl (by omega)))).app ⟨hC, trivial⟩, by rw [hU]; exact hfit, fun j hj hj2 x hx => ?_, fun j hj x hx => ?_⟩
  · rw [hE _ (.inl (by omega))]; exact G.hd
  · rw [hU] at hj
    rw [hE _ (.inr (by omega))] at hx
    exact G.old j (by omega) hj2 x hx
  · by_cases h3 : j < uEnd css 0
    · rw [hE _ (.inl (by omega))] at hx
      exact G.all j hj x hx
    · by_cases h4 : uEnd css 0 + (cuts (cbytes rs)).length ≤ j
      · rw [hE _ (.inr (by omega))] at hx
        exact G.all j hj x hx
      · right
        obtain ⟨i, rfl⟩ : ∃ i, j = uEnd css 0 + i := ⟨j - uEnd css 0, by omega⟩
        have hi : i < (cuts (cbytes rs)).length := by omega
        have h5 := hC i hi
        rw [show 2 + uEnd css 0 + i = 2 + (uEnd css 0 + i) by omega, hx] at h5
        cases h5
        have hb : badF (if i + 1 = (cuts (cbytes rs)).length then 3 else 2) (atN e (uEnd css 0 + i)) (cuts (cbytes rs))[i] = false := badF_ok (by split <;> omega) (by split <;> omega) (by unfold atN; omega) (cuts_le _ _ (List.getElem_mem hi))
        exact ⟨e, Nat.le_refl _, (sealed_fields hb (by unfold atN; omega)).2.2.1⟩
theorem Gd.older (G : Gd v e css) {j : Nat} (hj : j < 30) : Old v (e + 1) j := fun x hx => by
  rcases G.all j hj x hx with h | ⟨e', h1, h2⟩
  · exact .inl h
  · right; rw [h2]; unfold atN; omega
theorem Gd.reset (G : Gd v e css) (he : e < 1099511627776) : Gd (put v ((e + 1) % 2) (some (shd (e + 1)))) (e + 1) [] := by
  have he1 := G.e1
  refine ⟨by omega, by omega, put_at, ⟨some (e, 30, []), ⟨?_, by omega, by omega, by omega, by decide, by decide, by decide, hpay30⟩, by show e < e + 1; omega⟩, trivial, by decide, fun j _ hj x hx => ?_, fun j hj x hx => ?_⟩
  · rw [put_ne (by omega), show (e + 1 + 1) % 2 = e % 2 by omega]; exact G.hd
  · rw [put_ne (by omega)] at hx
    exact G.older hj x hx
  · rw [put_ne (by omega)] at hx
    rcases G.all j hj x hx with h | ⟨e', h1, h2⟩
    · exact .inl h
    · exact .inr ⟨e', by omega, h2⟩
theorem gd_init : Gd (put (put (fun _ => some zeros) 0 (some zeros)) 1 (some (sealed 1 1 (hpay 30 [])))) 1 [] := by
  have hz : ∀ j, j < 30 → ∀ x, put (put (fun _ => some zeros) 0 (some zeros)) 1 (some (sealed 1 1 (hpay 30 []))) (2 + j) = some x → openOk x = false := fun j _ x hx => by
    rw [put_ne (by omega), put_ne (by omega)] at hx
    cases hx
    exact open_zerosD
  refine ⟨by decide, by decide, put_at, ⟨none, ?_, by show 0 < 1; decide⟩, trivial, by decide, fun j _ hj x hx => .inl (hz j hj x hx), fun j hj x hx => .inl (hz j hj x hx)⟩
  right
  exact ⟨zeros, by rw [put_ne (by decide)]; exact put_at, open_zerosD⟩
/-- behind a crash while a commit is put -/
theorem Gd.crash_append (G : Gd v e css) (V : Vw D 40 v') (hfit : uEnd css 0 + (cuts (cbytes rs)).length ≤ 30) (hc : ∀ j, v' j = v j ∨ ∃ x, w j = some x ∧ (v' j = some x ∨ v' j = none))
    (hw1 : ∀ j (hj : j < (cuts (cbytes rs)).length) x, w (2 + uEnd css 0 + j) = some x → x = frame e (uEnd css 0) (cuts (cbytes rs)).length j (cuts (cbytes rs))[j])
    (hw0 : ∀ j, (j < 2 + uEnd css 0 ∨ 2 + uEnd css 0 + (cuts (cbytes rs)).length ≤ j) → w j = none) : Opn D css ∨ Opn D (css ++ [rs]) := by
  obtain ⟨o, h1, h2⟩ := G.ot
  have hs : ∀ j, j < 2 → v' j = v j := fun j hj => by
    rcases hc j with h | ⟨x, h, _⟩
    · exact h
    · rw [hw0 j (.inl (by omega))] at h; cases h
  have hh : v' (e % 2) = some (shd e) := by rw [hs _ (by omega)]; exact G.hd
  have ho := h1.same (hs ((e + 1) % 2) (by omega))
  exact (after_append (ep := e) (slots := 30) (w := w) V (by decide) G.laid G.old hfit hc hw1 hw0).imp (fun hT => opn_of V G.e1 G.e2 hh ho h2 hT) (fun hT => opn_of V G.e1 G.e2 hh ho h2 hT)
/-- behind a crash while an epoch is begun -/
theorem Gd.crash_reset (G : Gd v e css) (V : Vw D 40 v') (he : e < 1099511627776) (hc : ∀ j, v' j = v j ∨ ∃ x, w j = some x ∧ (v' j = some x ∨ v' j = none))
    (hw1 : ∀ x, w ((e + 1) % 2) = some x → x = shd (e + 1)) (hw0 : ∀ j, j ≠ (e + 1) % 2 → w j = none) : Opn D css ∨ Opn D [] := by
  obtain ⟨o, h1, h2⟩ := G.ot
  have he1 := G.e1
  have hs : ∀ j, j ≠ (e + 1) % 2 → v' j = v j := fun j hj => by
    rcases hc j with h | ⟨x, h, _⟩
    · exact h
    · rw [hw0 j hj] at h; cases h
  have hh : v' (e % 2) = some (shd e) := by rw [hs _ (by omega)]; exact G.hd
  have hT : Tells D e 30 css 0 := tells V (by decide) css 0 (G.laid.same (fun j _ _ => hs _ (by omega))) G.le (fun hlt x hx => by
    rw [hs _ (by omega)] at hx
    exact G.old _ (Nat.le_refl _) hlt x hx)
  rcases hc ((e + 1) % 2) with h | ⟨x, hx, h | h⟩
  · exact .inl (opn_of V G.e1 G.e2 hh (h1.same h) h2 hT)
  · right
    rw [hw1 x hx] at h
    have hT2 : Tells D (e + 1) 30 [] 0 := tells V (by decide) [] 0 trivial (by decide) (fun hlt x hx => by
      rw [hs _ (by omega)] at hx
      exact G.older hlt x hx)
    refine opn_of (o := some (e, 30, [])) V (by omega) (by omega) h ⟨?_, by omega, by omega, by omega, by decide, by decide, by decide, hpay30⟩ (by show e < e + 1; omega) hT2
    rw [show (e + 1 + 1) % 2 = e % 2 by omega]
    exact hh
  · exact .inl (opn_of (o := none) V G.e1 G.e2 hh (.inl h) (by show 0 < e; omega) hT)
end
end Gx
namespace Gx
open Go
set_option linter.unusedVariables false
set_option linter.unusedSimpArgs false
set_option maxRecDepth 20000
theorem r01put_spec {h : Heap} {Q : Sl → Heap → Prop} {s : Sl} {l : List UInt8} {u : Nat} (hb : Bys h s l) (hu : u < 9223372036854775808) (hl : l.length ≤ 100000000000) (hq : ∀ h' r, Ext h h' → Gw h.size h' r 1 ((l ++ venc u).map bv) → Q r h') : (rambleref01_Put s (u : Int)).wp h Q := by
  unfold rambleref01_Put
  refine apB_b (l := []) (lo := h.size) (Gw.nil _ _ _) hb (by simp; omega) (Nat.le_refl _) (fun h1 r1 g1 k1 _ => ?_)
  have e1 : Ext h h1 := ⟨k1.size, fun i hi => k1.same i hi (fun ⟨a, ha, _⟩ => by cases ha)⟩
  rw [List.nil_append] at g1
  refine M.loop_inv (fun (t : Int × Sl) h' => ∃ (v : Nat) (d : List UInt8), t.1 = (v : Int) ∧ d ++ venc v = venc u ∧ v < 9223372036854775808 ∧ Ext h h' ∧ Gw h.size h' t.2 1 ((l ++ d).map bv)) (fun t _ => t.1.toNat) ?_ ⟨u, [], rfl, rfl, hu, e1, by simpa using g1⟩
  have hvl : (venc u).length ≤ 9 := venc_len 9 u (by omega) (by omega)
  rintro ⟨t, r⟩ h' ⟨v, d, ht, hd, hv, E, g⟩ self hself
  dsimp only at ht g
  subst ht
  have hdl : d.length + (venc v).length = (venc u).length := by rw [← hd, List.length_append]
  have hvp := venc_pos v
  unfold rambleref01_Put_l1
  refine ite_w (fun hc => ?_) (fun hc => ?_)
  · have hc : 127 < v := by have := of_decide_eq_true hc; omega
    have hm : Int.tmod (v : Int) 128 = ((v % 128 : Nat) : Int) := by rw [Int.tmod_eq_emod_of_nonneg (by omega)]; omega
    have hd' : Int.tdiv (v : Int) 128 = ((v / 128 : Nat) : Int) := by rw [Int.tdiv_eq_ediv_of_nonneg (by omega)]; omega
    have hw : IntKind.wrap .u8 (IntKind.wrap .u8 (Int.tmod (v : Int) 128) + 128) = ((UInt8.ofNat (v % 128 + 128)).toNat : Int) := by
      rw [hm]
      have h4 : (UInt8.ofNat (v % 128 + 128)).toNat = v % 128 + 128 := by rw [UInt8.toNat_ofNat']; omega
      rw [h4]
      simp [IntKind.wrap, IntKind.signed, IntKind.bits]
      omega
    refine ap1B_b hw g (by rw [List.length_append]; omega) E.size (fun h2 r2 g2 k2 _ => ?_)
    rw [hd', wrapu64 (by omega)]
    refine hself _ _ ⟨v / 128, d ++ [UInt8.ofNat (v % 128 + 128)], rfl, ?_, by omega, E.km k2 (fun i hi => (g.lt hi).2), by rw [← List.append_assoc]; exact g2⟩ (by dsimp only; omega)
    rw [← hd, venc_big hc]
    simp
  · have hc : v ≤ 127 := by have := of_decide_eq_false hc; omega
    have hw : IntKind.wrap .u8 (v : Int) = ((UInt8.ofNat v).toNat : Int) := by
      have h4 : (UInt8.ofNat v).toNat = v := by rw [UInt8.toNat_ofNat']; omega
      rw [h4]
      simp [IntKind.wrap, IntKind.signed, IntKind.bits]
      omega
    refine ap1B_b hw g (by rw [List.length_append]; omega) E.size (fun h2 r2 g2 k2 _ => pure_w (hq _ _ (E.km k2 (fun i hi => (g.lt hi).2)) ?_))
    rw [← hd, venc_small hc, ← List.append_assoc]
    exact g2
theorem rcommit_spec {h : Heap} {Q : Sl → Heap → Prop} {x : Sl} {L : List (List UInt8)} (hx : Bss h x L) (hL : (cbytes L).length ≤ 1000000000) (hl : L.length ≤ 1000000000) (hq : ∀ h' r, Ext h h' → Gw h.size h' r 1 ((cbytes L).map bv) → Q r h') : (rambleref06_commit x).wp h Q := by
  unfold rambleref06_commit
  rw [hx.len, wrapu64 (by omega)]
  have hcl : (cbytes L).length = (venc L.length).length + (L.map rbytes).flatten.length := by rw [cbytes, List.length_append]
  refine bind_w (r01put_spec (Bys.nil h) (by omega) (by simp) (fun h1 r1 e1 g1 => ?_))
  rw [List.nil_append] at g1
  refine M.loop_inv (fun (t : Sl × Int) h2 => Ext h h2 ∧ ∃ k : Nat, t.2 = (k : Int) ∧ k ≤ L.length ∧ Gw h.size h2 t.1 1 ((venc L.length ++ ((L.map rbytes).take k).flatten).map bv)) (fun t _ => ((L.length : Int) - t.2).toNat) ?_ ⟨e1, 0, rfl, Nat.zero_le _, by simpa using g1⟩
  rintro ⟨r, t⟩ h2 ⟨E, k, hkk, hk, hg⟩ self hself
  dsimp only at hkk hg
  subst hkk
  unfold rambleref06_commit_l1
  rw [hx.len]
  refine ite_w (fun hlt => ?_) (fun hge => ?_)
  · have hlt : k < L.length := by have := of_decide_eq_true hlt; omega
    obtain ⟨a, s, ha, hs, hb⟩ := (hx.ext E).get' hlt
    have hca : hcell h2 (a.add ((k : Int).toNat * 1)) = some s.v := by rw [show (k : Int).toNat * 1 = k by omega]; exact hs
    refine ixL_b (by omega) (by rw [hx.len]; omega) ha (ixL_b (by omega) (by rw [hx.len]; omega) ha ?_)
    refine ldL_b (n := s) hca (ldL_b (n := s) hca ?_)
    have hbl := hb.len
    have hlm : k < (L.map rbytes).length := by rw [List.length_map]; exact hlt
    have h3 := flat_take_le' (L.map rbytes) k
    have h4 := part_le' (L.map rbytes) hlm
    have hrb : (L.map rbytes)[k] = rbytes L[k] := by simp
    rw [hrb, rbytes, List.length_append] at h4
    rw [hbl, wrapu64 (by omega)]
    refine bind_w (r01put_spec hg.bys (by omega) (by rw [List.length_append]; omega) (fun h3 r3 e3 g3 => ?_))
    refine chk_b ⟨e3.cell hca, e3.cell hca⟩ ?_
    refine apB_b (g3.weak E.size) (hb.ext e3) (by simp only [List.length_append]; omega) (E.trans e3).size (fun h4 r4 g4 k4 _ => ?_)
    rw [w64 (by omega) (by omega)]
    refine hself _ _ ⟨(E.trans e3).km k4 (fun i hi => Nat.le_trans E.size (g3.lt hi).2), k + 1, by simp, by omega, ?_⟩ (by dsimp only; omega)
    rw [flat_take' _ hlm, hrb, rbytes]
    simpa using g4
  · have hge : k = L.length := by have := of_decide_eq_false hge; omega
    subst hge
    have : (L.map rbytes).take L.length = L.map rbytes := List.take_of_length_le (by simp)
    rw [this] at hg
    exact pure_w (hq _ _ E hg)
/-- a slice of commits, as it reads -/
def Bcs (h : Heap) (x : Sl) (css : List (List (List UInt8))) : Prop := x.len = css.length ∧ (css = [] ∨ ∃ a, x.base = some a ∧ ∀ (i : Nat) rs, css[i]? = some rs → ∃ s : Sl, hcell h (a.add i) = some s.v ∧ Bss h s rs)
theorem Bcs.ext {h h' : Heap} {x : Sl} {css : List (List (List UInt8))} (H : Bcs h x css) (e : Ext h h') : Bcs h' x css := by
  refine ⟨H.1, ?_⟩
  rcases H.2 with h1 | ⟨a, ha, h1⟩
  · exact .inl h1
  · refine .inr ⟨a, ha, fun i rs hi => ?_⟩
    obtain ⟨s, hs, hb⟩ := h1 i rs hi
    exact ⟨s, e.cell hs, hb.ext e⟩
theorem Bcs.get {h : Heap} {x : Sl} {css : List (List (List UInt8))} (H : Bcs h x css) {i : Nat} (hi : i < css.length) : ∃ (a : Addr) (s : Sl), x.base = some a ∧ hcell h (a.add i) = some s.v ∧ Bss h s css[i] := by
  rcases H.2 with h1 | ⟨a, ha, h1⟩
  · subst h1; simp at hi
  · obtain ⟨s, hs, hb⟩ := h1 i _ (List.getElem?_eq_getElem hi)
    exact ⟨a, s, ha, hs, hb⟩
theorem Css.bcs {lo : Nat} {h : Heap} {x : Sl} {css : List (List (List UInt8))} (H : Css lo h x css) : Bcs h x css := by
  refine ⟨H.len, ?_⟩
  by_cases h0 : css = []
  · exact .inl h0
  · right
    obtain ⟨b, _, hb, _, _⟩ := H.get (i := 0) (List.length_pos_iff.2 h0)
    refine ⟨_, hb, fun i rs hi => ?_⟩
    have hlt := (List.getElem?_eq_some_iff.1 hi).1
    obtain ⟨b', s, hb', hc, hs⟩ := H.get hlt
    rw [hb] at hb'
    cases hb'
    rw [(List.getElem?_eq_some_iff.1 hi).2] at hs
    exact ⟨s, by rw [add_mk, Nat.zero_add]; exact hc, hs.bss⟩
theorem same06_spec {h : Heap} {Q : Bool → Heap → Prop} {x y : Sl} {css : List (List (List UInt8))} (hx : Bcs h x css) (hy : Bcs h y css) (hn : css.length ≤ 1000000000) (hL : ∀ rs ∈ css, (cbytes rs).length ≤ 1000000000 ∧ rs.length ≤ 1000000000)
    (hq : ∀ h', Ext h h' → Q true h') : (rambleref06_Same x y).wp h Q := by
  unfold rambleref06_Same
  refine iteF (by rw [hx.1, hy.1]; simp) ?_
  refine M.loop_inv (fun (t : Int) h2 => Ext h h2 ∧ ∃ k : Nat, t = (k : Int) ∧ k ≤ css.length) (fun t _ => ((css.length : Int) - t).toNat) ?_ ⟨Ext.refl h, 0, rfl, Nat.zero_le _⟩
  rintro t h2 ⟨E, k, rfl, hk⟩ self hself
  unfold rambleref06_Same_l1
  rw [hx.1]
  refine ite_w (fun hlt => ?_) (fun hge => pure_w (hq _ E))
  have hlt : k < css.length := by have := of_decide_eq_true hlt; omega
  obtain ⟨a, s, ha, hs, hb⟩ := (hx.ext E).get hlt
  obtain ⟨a', s', ha', hs', hb'⟩ := (hy.ext E).get hlt
  obtain ⟨l1, l2⟩ := hL _ (List.getElem_mem hlt)
  have hca : hcell h2 (a.add ((k : Int).toNat * 1)) = some s.v := by rw [show (k : Int).toNat * 1 = k by omega]; exact hs
  have hca' : hcell h2 (a'.add ((k : Int).toNat * 1)) = some s'.v := by rw [show (k : Int).toNat * 1 = k by omega]; exact hs'
  refine ixL_b (by omega) (by rw [hx.1]; omega) ha (ixL_b (by omega) (by rw [hy.1]; omega) ha' ?_)
  refine ldL_b (n := s) hca (ldL_b (n := s') hca' ?_)
  refine bind_w (rcommit_spec hb l1 l2 (fun h3 r3 e3 g3 => ?_))
  refine chk_b ⟨e3.cell hca, e3.cell hca'⟩ ?_
  have b3 := g3.bys
  generalize hcb : cbytes css[k] = cb at *
  have fin : ∀ h4, Ext h3 h4 → (M.ite (!(sEq ⟨cb.toArray⟩ ⟨cb.toArray⟩)) (M.pure false) (self (IntKind.wrap .i64 ((k : Int) + 1)))).wp h4 Q := by
    intro h4 e4
    rw [sEq_mk]
    refine iteF (by simp) ?_
    rw [w64 (by omega) (by omega)]
    exact hself _ _ ⟨(E.trans e3).trans e4, k + 1, by simp, by omega⟩ (by omega)
  refine bind_w (both_w ?_ ?_)
  · refine b2s_b (ns := cb) b3.len.symm b3.reads ?_
    refine bind_w (rcommit_spec (hb'.ext e3) (by rw [hcb]; exact l1) l2 (fun h4 r4 e4 g4 => ?_))
    rw [hcb] at g4
    refine b2s_b (ns := cb) g4.bys.len.symm g4.bys.reads (pure_w ?_)
    exact fin h4 e4
  · refine bind_w (rcommit_spec (hb'.ext e3) (by rw [hcb]; exact l1) l2 (fun h4 r4 e4 g4 => ?_))
    rw [hcb] at g4
    have b4 := b3.ext e4
    refine chk_b ⟨(e3.trans e4).cell hca, (e3.trans e4).cell hca'⟩ ?_
    refine both_w ?_ ?_
    · refine b2s_b (ns := cb) b4.len.symm b4.reads (b2s_b (ns := cb) g4.bys.len.symm g4.bys.reads (pure_w ?_))
      exact fin h4 e4
    · refine b2s_b (ns := cb) g4.bys.len.symm g4.bys.reads (b2s_b (ns := cb) b4.len.symm b4.reads (pure_w ?_))
      exact fin h4 e4
end Gx
namespace Gx
open Go
set_option linter.unusedVariables false
set_option linter.unusedSimpArgs false
set_option maxRecDepth 20000
theorem ap1S_b {β : Type} {lo e : Nat} {h : Heap} {Q : β → Heap → Prop} {r s : Sl} {ss : List Sl} {f : Sl → M β} (H : Gw lo h r 1 (ss.map Sl.v)) (hl : r.len = ss.length) (hb : (ss.length + 1) * 24 ≤ 140737488355328) (hlo : lo ≤ h.size)
    (hq : ∀ h' r', Gw lo h' r' 1 ((ss ++ [s]).map Sl.v) → r'.len = ss.length + 1 → Km (Sl.on r) h h' → (f r').wp h' Q) :
    (bdL e 1 #[s.v] >>= fun x => apL e 1 24 (#[.slice none 0 0] : Array Value) r x >>= f).wp h Q := by
  refine bdL_b ?_
  have e1 := Ext.push h (.cells #[s.v] e)
  have g1 : (h.push (.cells #[s.v] e))[h.size]? = some (.cells #[s.v] e (0, 0)) := get_push_eq
  have s1 : (h.push (.cells #[s.v] e)).size = h.size + 1 := by simp
  generalize h.push (.cells #[s.v] e) = h1 at e1 g1 s1 ⊢
  refine bind_w (ap_grow (lo := lo) (news := [s.v]) rfl (H.ext e1) (by simp) (.inr ⟨_, rfl, fun j x hj => ?_⟩) (by simpa using one_v s) (by simpa [hl] using hb) (by simp [hl]; omega) (by omega) (fun h2 r2 g2 hl2 hs2 hk2 ho2 => ?_))
  · rcases j with _ | j
    · simp at hj; subst hj
      rw [add_mk, hcell_blk g1]; rfl
    · simp at hj
  · refine hq h2 r2 (by simpa using g2) (by rw [hl2, hl]) ⟨by omega, fun i hi hn => ?_⟩
    rw [hk2 i (by omega) hn, e1.same i hi]
section
variable {h : Heap} {F : Fp} {D : Dk} {b o : Nat} {ns : Sl} {L : Lg}
theorem WalAt.up {h' : Heap} {S : Nat → Prop} {lo : Nat} (H : WalAt h F D b o ns L) (k : Km S h h') (hS : ∀ i, S i → lo ≤ i) (hF : ∀ i, F.on i → i < lo) (hb : b < lo) (hns : L.note ≠ [] → ∀ i, Sl.on ns i → i < lo) : WalAt h' F D b o ns L := by
  obtain ⟨cs, ty, hb1, hb2⟩ := H.blk
  exact ⟨H.dk.same (fun i hi => k.same i (H.dk.lt hi) (fun ho => by have := hS i ho; have := hF i hi; omega)), ⟨cs, ty, k.blk hb1 (fun ho => by have := hS _ ho; omega), hb2⟩,
    H.note.keepN (fun hN i hi hl => k.same i hl (fun ho => by have := hS i ho; have := hns hN i hi; omega)), H.off, H.nb, H.ok⟩
end
/-- a slice of the caller's commits -/
def Had (lo : Nat) (h0 h : Heap) (x : Sl) (css : List (List (List UInt8))) : Prop :=
  ∃ ss : List Sl, Gw lo h x 1 (ss.map Sl.v) ∧ x.len = ss.length ∧ ss.length = css.length ∧ ∀ (i : Nat) s rs, ss[i]? = some s → css[i]? = some rs → Bss h0 s rs
theorem Had.nil (lo : Nat) (h0 h : Heap) : Had lo h0 h Sl.nil [] := ⟨[], Gw.nil _ _ _, rfl, rfl, fun i s rs hs => by simp at hs⟩
theorem Had.lt {lo : Nat} {h0 h : Heap} {x : Sl} {css : List (List (List UInt8))} (H : Had lo h0 h x css) : ∀ i, Sl.on x i → lo ≤ i := by
  obtain ⟨ss, g, _⟩ := H
  exact fun i hi => (g.lt hi).2
theorem Had.keep {lo : Nat} {h0 h h' : Heap} {x : Sl} {css : List (List (List UInt8))} (H : Had lo h0 h x css) (e : ∀ i, lo ≤ i → i < h.size → h'[i]? = h[i]?) : Had lo h0 h' x css := by
  obtain ⟨ss, g, h1, h2, h3⟩ := H
  exact ⟨ss, g.same (fun i hi => e i (g.lt hi).2 (g.lt hi).1), h1, h2, h3⟩
theorem Had.bcs {lo : Nat} {h0 h : Heap} {x : Sl} {css : List (List (List UInt8))} (H : Had lo h0 h x css) (e : Ext h0 h) : Bcs h x css := by
  obtain ⟨ss, g, h1, h2, h3⟩ := H
  refine ⟨by rw [h1, h2], ?_⟩
  rcases g.reads with h4 | ⟨a, ha, h4⟩
  · left
    have : ss = [] := by simpa using h4
    subst this
    exact List.length_eq_zero_iff.1 h2.symm
  · refine .inr ⟨a, ha, fun i rs hi => ?_⟩
    have hlt : i < ss.length := by rw [h2]; exact (List.getElem?_eq_some_iff.1 hi).1
    exact ⟨ss[i], h4 i _ (by rw [List.getElem?_map, List.getElem?_eq_getElem hlt]; rfl), (h3 i _ rs (List.getElem?_eq_getElem hlt) hi).ext e⟩
theorem had_push {β : Type} {lo e : Nat} {h0 h : Heap} {Q : β → Heap → Prop} {x s : Sl} {css : List (List (List UInt8))} {rs : List (List UInt8)} {f : Sl → M β} (H : Had lo h0 h x css) (hlo : lo ≤ h.size) (hl : css.length ≤ 1000000000) (hs : Bss h0 s rs)
    (hq : ∀ h' x', Km (Sl.on x) h h' → Had lo h0 h' x' (css ++ [rs]) → (f x').wp h' Q) : (bdL e 1 #[s.v] >>= fun y => apL e 1 24 (#[.slice none 0 0] : Array Value) x y >>= f).wp h Q := by
  obtain ⟨ss, g, h1, h2, h3⟩ := H
  refine ap1S_b g h1 (by omega) hlo (fun h' x' g' hl' k => hq h' x' k ⟨ss ++ [s], g', by simp [hl'], by simp [h2], fun i s' rs' hs' hr' => ?_⟩)
  rw [List.getElem?_append] at hs' hr'
  rw [← h2] at hr'
  split at hs'
  · rename_i hlt
    rw [if_pos hlt] at hr'
    exact h3 i s' rs' hs' hr'
  · rename_i hlt
    rw [if_neg hlt] at hr'
    obtain ⟨k', hk'⟩ : ∃ k', k' = i - ss.length := ⟨_, rfl⟩
    rw [← hk'] at hs' hr'
    rcases k' with _ | k'
    · simp at hs' hr'; subst hs'; subst hr'; exact hs
    · simp at hs'
end Gx
namespace Gx
open Go
set_option linter.unusedVariables false
set_option linter.unusedSimpArgs false
set_option maxRecDepth 20000
theorem same06_any {h : Heap} {Q : Bool → Heap → Prop} {x y : Sl} {css css' : List (List (List UInt8))} (hx : Bcs h x css) (hy : Bcs h y css') (hn : css.length ≤ 1000000000) (hL : ∀ rs ∈ css, (cbytes rs).length ≤ 1000000000 ∧ rs.length ≤ 1000000000) (hL' : ∀ rs ∈ css', (cbytes rs).length ≤ 1000000000 ∧ rs.length ≤ 1000000000)
    (hq : ∀ h' r, Ext h h' → (css = css' → r = true) → Q r h') : (rambleref06_Same x y).wp h Q := by
  unfold rambleref06_Same
  rw [hx.1, hy.1]
  refine ite_w (fun hne => pure_w (hq _ _ (Ext.refl h) (fun he => by subst he; simp at hne))) (fun heq => ?_)
  have hle : css.length = css'.length := by simp at heq; omega
  refine M.loop_inv (fun (t : Int) h2 => Ext h h2 ∧ ∃ k : Nat, t = (k : Int) ∧ k ≤ css.length) (fun t _ => ((css.length : Int) - t).toNat) ?_ ⟨Ext.refl h, 0, rfl, Nat.zero_le _⟩
  rintro t h2 ⟨E, k, rfl, hk⟩ self hself
  unfold rambleref06_Same_l1
  rw [hx.1]
  refine ite_w (fun hlt => ?_) (fun hge => pure_w (hq _ _ E (fun _ => rfl)))
  have hlt : k < css.length := by have := of_decide_eq_true hlt; omega
  have hlt' : k < css'.length := by omega
  obtain ⟨a, s, ha, hs, hb⟩ := (hx.ext E).get hlt
  obtain ⟨a', s', ha', hs', hb'⟩ := (hy.ext E).get hlt'
  obtain ⟨l1, l2⟩ := hL _ (List.getElem_mem hlt)
  obtain ⟨l1', l2'⟩ := hL' _ (List.getElem_mem hlt')
  have hca : hcell h2 (a.add ((k : Int).toNat * 1)) = some s.v := by rw [show (k : Int).toNat * 1 = k by omega]; exact hs
  have hca' : hcell h2 (a'.add ((k : Int).toNat * 1)) = some s'.v := by rw [show (k : Int).toNat * 1 = k by omega]; exact hs'
  refine ixL_b (by omega) (by rw [hx.1]; omega) ha (ixL_b (by omega) (by rw [hy.1]; omega) ha' ?_)
  refine ldL_b (n := s) hca (ldL_b (n := s') hca' ?_)
  refine bind_w (rcommit_spec hb l1 l2 (fun h3 r3 e3 g3 => ?_))
  refine chk_b ⟨e3.cell hca, e3.cell hca'⟩ ?_
  have b3 := g3.bys
  have hsame : css = css' → cbytes css[k] = cbytes css'[k] := fun he => by subst he; rfl
  generalize hcb : cbytes css[k] = cb at *
  generalize hcb' : cbytes css'[k] = cb' at *
  have fin : ∀ h4, Ext h3 h4 → (M.ite (!(sEq ⟨cb.toArray⟩ ⟨cb'.toArray⟩)) (M.pure false) (self (IntKind.wrap .i64 ((k : Int) + 1)))).wp h4 Q := by
    intro h4 e4
    rw [sEq_mk]
    refine ite_w (fun hc => pure_w (hq _ _ ((E.trans e3).trans e4) (fun he => ?_))) (fun _ => ?_)
    · rw [hsame he] at hc; simp at hc
    rw [w64 (by omega) (by omega)]
    exact hself _ _ ⟨(E.trans e3).trans e4, k + 1, by simp, by omega⟩ (by omega)
  refine bind_w (both_w ?_ ?_)
  · refine b2s_b (ns := cb) b3.len.symm b3.reads ?_
    refine bind_w (rcommit_spec (hb'.ext e3) (by rw [hcb']; exact l1') l2' (fun h4 r4 e4 g4 => ?_))
    rw [hcb'] at g4
    refine b2s_b (ns := cb') g4.bys.len.symm g4.bys.reads (pure_w ?_)
    exact fin h4 e4
  · refine bind_w (rcommit_spec (hb'.ext e3) (by rw [hcb']; exact l1') l2' (fun h4 r4 e4 g4 => ?_))
    rw [hcb'] at g4
    have b4 := b3.ext e4
    refine chk_b ⟨(e3.trans e4).cell hca, (e3.trans e4).cell hca'⟩ ?_
    refine both_w ?_ ?_
    · refine b2s_b (ns := cb) b4.len.symm b4.reads (b2s_b (ns := cb') g4.bys.len.symm g4.bys.reads (pure_w ?_))
      exact fin h4 e4
    · refine b2s_b (ns := cb') g4.bys.len.symm g4.bys.reads (b2s_b (ns := cb) b4.len.symm b4.reads (pure_w ?_))
      exact fin h4 e4
end Gx
namespace Gx
open Go
set_option linter.unusedVariables false
set_option linter.unusedSimpArgs false
set_option maxRecDepth 20000
/-- what may be told -/
def May (lo : Nat) (h0 h : Heap) (m : Sl) (cl : List (List (List (List UInt8)))) : Prop :=
  ∃ ss : List Sl, Gw lo h m 1 (ss.map Sl.v) ∧ m.len = ss.length ∧ ss.length = cl.length ∧ ∀ (i : Nat) s css, ss[i]? = some s → cl[i]? = some css → Had lo h0 h s css
theorem May.keep {lo : Nat} {h0 h h' : Heap} {m : Sl} {cl : List (List (List (List UInt8)))} (H : May lo h0 h m cl) (e : ∀ i, lo ≤ i → i < h.size → h'[i]? = h[i]?) : May lo h0 h' m cl := by
  obtain ⟨ss, g, h1, h2, h3⟩ := H
  exact ⟨ss, g.same (fun i hi => e i (g.lt hi).2 (g.lt hi).1), h1, h2, fun i s css a b => (h3 i s css a b).keep e⟩
theorem May.get {lo : Nat} {h0 h : Heap} {m : Sl} {cl : List (List (List (List UInt8)))} (H : May lo h0 h m cl) {i : Nat} (hi : i < cl.length) : ∃ (a : Addr) (s : Sl), m.base = some a ∧ hcell h (a.add i) = some s.v ∧ Had lo h0 h s cl[i] := by
  obtain ⟨ss, g, h1, h2, h3⟩ := H
  rcases g.reads with h4 | ⟨a, ha, h4⟩
  · have : ss = [] := by simpa using h4
    subst this
    simp at h2
    omega
  · exact ⟨a, ss[i]'(by omega), ha, h4 i _ (by rw [List.getElem?_map, List.getElem?_eq_getElem (by omega)]; rfl), h3 i _ _ (List.getElem?_eq_getElem (by omega)) (List.getElem?_eq_getElem hi)⟩
theorem May.len {lo : Nat} {h0 h : Heap} {m : Sl} {cl : List (List (List (List UInt8)))} (H : May lo h0 h m cl) : m.len = cl.length := by
  obtain ⟨ss, g, h1, h2, h3⟩ := H
  omega
theorem may_one {lo : Nat} {h0 h : Heap} {m s : Sl} {css : List (List (List UInt8))} (g : Gw lo h m 1 [s.v]) (hm : m.len = 1) (H : Had lo h0 h s css) : May lo h0 h m [css] :=
  ⟨[s], g, hm, rfl, fun i s' css' hs hc => by
    rcases i with _ | i
    · simp at hs hc; subst hs; subst hc; exact H
    · simp at hs⟩
theorem may_two {lo : Nat} {h0 h : Heap} {m s s' : Sl} {css css' : List (List (List UInt8))} (g : Gw lo h m 1 [s.v, s'.v]) (hm : m.len = 2) (H : Had lo h0 h s css) (H' : Had lo h0 h s' css') : May lo h0 h m [css, css'] :=
  ⟨[s, s'], g, hm, rfl, fun i s1 css1 hs hc => by
    rcases i with _ | _ | i
    · simp at hs hc; subst hs; subst hc; exact H
    · simp at hs hc; subst hs; subst hc; exact H'
    · simp at hs⟩
def Bds (cl : List (List (List (List UInt8)))) : Prop := ∀ css ∈ cl, css.length ≤ 1000000000 ∧ ∀ rs ∈ css, (cbytes rs).length ≤ 1000000000 ∧ rs.length ≤ 1000000000
theorem contains_spec {lo box : Nat} {h0 h : Heap} {m all : Sl} {cl : List (List (List (List UInt8)))} {css : List (List (List UInt8))} {Q : Bool → Heap → Prop} (hm : May lo h0 h m cl) (hE : Ext h0 h) (hB : Bds cl) (hin : css ∈ cl) (hn : cl.length ≤ 2) (hbox : hcell h ⟨box, 0, none⟩ = some all.v) (hall : Bcs h all css)
    (hq : ∀ h', Ext h h' → Q true h') : (slices_ContainsFunc_slslslslbyte_slslslbyte m (Value.func (.func fn_ramblelaw06_WalWhole_1) #[] #[.pointer (some ⟨box, 0, none⟩)])).wp h Q := by
  unfold slices_ContainsFunc_slslslslbyte_slslslbyte slices_IndexFunc_slslslslbyte_slslslbyte
  obtain ⟨l1, l2⟩ := hB css hin
  obtain ⟨i, hi, hci⟩ := List.getElem_of_mem hin
  have hml := hm.len
  rw [hml]
  refine bind_w ?_
  refine M.loop_inv (fun (t : Int) h' => Ext h h' ∧ ∃ k : Nat, t = (k : Int) ∧ k ≤ i) (fun t _ => ((cl.length : Int) - t).toNat) ?_ ⟨Ext.refl h, 0, rfl, Nat.zero_le _⟩
  rintro t h' ⟨E, k, rfl, hk⟩ self hself
  unfold slices_IndexFunc_slslslslbyte_slslslbyte_l1
  refine iteT (by simp; omega) ?_
  obtain ⟨a, s, ha, hs, hH⟩ := hm.get (i := k) (by omega)
  refine ixL_b (by omega) (by rw [hml]; omega) ha ?_
  refine ldL_b (n := s) (by rw [show (k : Int).toNat * 1 = k by omega]; exact E.cell hs) ?_
  refine bind_w (callV_f cl_ramblelaw06_WalWhole_1 (S_ramblelaw06_WalWhole_1 _ _) ?_)
  unfold ramblelaw06_WalWhole_1
  refine ldL_b (n := all) (E.cell hbox) ?_
  obtain ⟨_, l2'⟩ := hB cl[k] (List.getElem_mem _)
  refine bind_w (same06_any (hall.ext E) ((hH.bcs hE).ext E) l1 l2 l2' (fun h2 r e2 hr => pure_w ?_))
  refine ite_w (fun hr' => pure_w (pure_w ?_)) (fun hr' => ?_)
  · rw [show (decide ((k : Int) ≥ 0)) = true by simp]
    exact hq _ (E.trans e2)
  · have hne : k ≠ i := fun he => by
      subst he
      rw [hr hci.symm] at hr'
      cases hr'
    rw [w64 (by omega) (by omega)]
    exact hself _ _ ⟨E.trans e2, k + 1, by simp, by omega⟩ (by omega)
theorem clone3_spec {lo : Nat} {h0 h : Heap} {x : Sl} {css : List (List (List UInt8))} {Q : Sl → Heap → Prop} (H : Had lo h0 h x css) (hlo : lo ≤ h.size) (hl : css.length ≤ 1000000000)
    (hq : ∀ h' r, Ext h h' → Had lo h0 h' r css → (∀ i, Sl.on r i → h.size ≤ i) → Q r h') : (slices_Clone_slslslbyte_slslbyte x).wp h Q := by
  unfold slices_Clone_slslslbyte_slslbyte
  obtain ⟨ss, g, h1, h2, h3⟩ := H
  refine ite_w (fun hc => ?_) (fun hc => ?_)
  · have : ss = [] := by
      rcases g with ⟨rfl, hx⟩ | ⟨b, ty, cells, g⟩
      · simpa using hx
      · rw [g.base] at hc; cases hc
    subst this
    have : css = [] := List.length_eq_zero_iff.1 h2.symm
    subst this
    exact pure_w (hq h Sl.nil (Ext.refl h) (Had.nil _ _ _) (fun i ⟨a, ha, _⟩ => by cases ha))
  · refine bdL_b ?_
    have e1 := Ext.push h (.cells #[] ty_sl_sl_uint8)
    have g1 : (h.push (.cells #[] ty_sl_sl_uint8))[h.size]? = some (.cells #[] ty_sl_sl_uint8 (0, 0)) := get_push_eq
    have s1 : (h.push (.cells #[] ty_sl_sl_uint8)).size = h.size + 1 := by simp
    generalize h.push (.cells #[] ty_sl_sl_uint8) = hA at e1 g1 s1 ⊢
    have gx : Gw lo hA ⟨some ⟨h.size, 0, none⟩, 0, 0⟩ 1 [] := .inr ⟨h.size, _, #[], rfl, hlo, g1, rfl, Nat.le_refl _, rfl, fun j v hj => (by simp at hj)⟩
    refine bind_w (ap_grow (lo := lo) (news := ss.map Sl.v) rfl gx (by simp [h1]) (g.ext e1).reads (fun v hv => ?_) (by show (0 + x.len) * 24 ≤ _; omega) (by show 0 + x.len ≤ _; omega) (by omega) (fun hB r gr hl2 hs2 hk2 ho2 => pure_w ?_))
    · obtain ⟨s, _, rfl⟩ := List.mem_map.1 hv
      exact one_v s
    · have hon : ∀ i, Sl.on (⟨some ⟨h.size, 0, none⟩, 0, 0⟩ : Sl) i → i = h.size := fun i ⟨a, ha, hb⟩ => by cases ha; exact hb.symm
      refine hq hB r ⟨by omega, fun i hi => ?_⟩ ⟨ss, by simpa using gr, by rw [hl2, h1]; simp, h2, h3⟩ (fun i hi => ?_)
      · rw [hk2 i (by omega) (fun ho => by have := hon i ho; omega), e1.same i hi]
      · rcases ho2 i hi with h4 | h4
        · have := hon i h4; omega
        · omega
theorem had_app {β : Type} {lo e : Nat} {h0 h : Heap} {Q : β → Heap → Prop} {x s y : Sl} {css : List (List (List UInt8))} {rs : List (List UInt8)} {f : Sl → M β} (H : Had lo h0 h x css) (hlo : lo ≤ h.size) (hl : css.length ≤ 1000000000) (hs : Bss h0 s rs) (hy : Reads h y.base [s.v]) (hyl : y.len = 1)
    (hq : ∀ h' x', Km (Sl.on x) h h' → Had lo h0 h' x' (css ++ [rs]) → (∀ i, Sl.on x' i → Sl.on x i ∨ h.size ≤ i) → (f x').wp h' Q) : (apL e 1 24 (#[.slice none 0 0] : Array Value) x y >>= f).wp h Q := by
  obtain ⟨ss, g, h1, h2, h3⟩ := H
  refine bind_w (ap_grow (lo := lo) (news := [s.v]) rfl g (by simp [hyl]) hy (by simpa using one_v s) (by omega) (by omega) hlo (fun h' x' g' hl' hs' hk' ho' => ?_))
  refine hq h' x' ⟨hs', fun i hi hn => hk' i hi hn⟩ ⟨ss ++ [s], by simpa using g', by simp [hl', h1, hyl], by simp [h2], fun i s' rs' hs' hr' => ?_⟩ ho'
  rw [List.getElem?_append] at hs' hr'
  rw [← h2] at hr'
  split at hs'
  · rename_i hlt
    rw [if_pos hlt] at hr'
    exact h3 i s' rs' hs' hr'
  · rename_i hlt
    rw [if_neg hlt] at hr'
    obtain ⟨k', hk'⟩ : ∃ k', k' = i - ss.length := ⟨_, rfl⟩
    rw [← hk'] at hs' hr'
    rcases k' with _ | k'
    · simp at hs' hr'; subst hs'; subst hr'; exact hs
    · simp at hs'
theorem stays_base (D : Dk) : ({ D with c := [] } : Dk).base = D.base := rfl
/-- behind a crash, as a disk -/
theorem decide_st {aw : Bool} {D : Dk} {n : Nat} {v w : Vs} (S : St aw D n v w) {xs : List Int} {torn : Int} {keep : List Bool} (hp : xs.Perm (D.c.map Prod.fst)) :
    ∃ v', St aw (Dk.decide D xs torn keep) n v' (fun _ => none) ∧ (Dk.decide D xs torn keep).fuse = D.fuse ∧ ∀ j, v' j = v j ∨ ∃ x, w j = some x ∧ (v' j = some x ∨ v' j = none) := by
  obtain ⟨a1, a2, a3, a4, a5⟩ := stays_eq D (keptL keep xs 0)
  have e : ∀ D' : Dk, (D'.tear (keptL keep xs 0) torn).n = D'.n ∧ (D'.tear (keptL keep xs 0) torn).away = D'.away ∧ (D'.tear (keptL keep xs 0) torn).fuse = D'.fuse := fun D' => by
    unfold Dk.tear
    split <;> exact ⟨rfl, rfl, rfl⟩
  obtain ⟨b1, b2, b3⟩ := e (D.stays (keptL keep xs 0))
  have f1 : (Dk.decide D xs torn keep).n = D.n := b1.trans a1
  have f2 : (Dk.decide D xs torn keep).away = D.away := b2.trans a3
  have f3 : (Dk.decide D xs torn keep).fuse = D.fuse := b3.trans a4
  have f4 : (Dk.decide D xs torn keep).c = [] := rfl
  have heff : ∀ j, (Dk.decide D xs torn keep).eff j = (Dk.decide D xs torn keep).base j := fun j => by
    unfold Dk.eff Dk.base
    rw [f4]
    rfl
  refine ⟨(Dk.decide D xs torn keep).base, ⟨f2.trans S.away, by rw [f3]; exact S.fuse, f1.trans S.n, fun j => rfl, fun j => (by rw [f4]; rfl), fun p hp => (by rw [f4] at hp; cases hp), fun h => by rw [f3]; exact S.fz h⟩, f3, fun j => ?_⟩
  rw [← heff j]
  exact S.decide hp j
theorem St.vw {D : Dk} {n : Nat} {v w : Vs} (S : St false D n v w) (hw : ∀ j, w j = none) (hf : D.fuse = 0) : Vw D n v := by
  refine ⟨S.away, hf, S.n, fun j => ?_⟩
  unfold Dk.eff
  rw [S.cache, hw]
  exact S.base j
/-- how it stands when the script is through -/
def EndS (D : Dk) (cl : List (List (List (List UInt8)))) : Prop :=
  ∃ aw v w, St aw D 40 v w ∧ (aw = false → ∀ j, w j = none) ∧ ∀ D' v', Vw D' 40 v' → (∀ j, v' j = v j ∨ ∃ x, w j = some x ∧ (v' j = some x ∨ v' j = none)) → ∃ css ∈ cl, Opn D' css
theorem EndS.up {D : Dk} {v : Vs} {e : Nat} {css : List (List (List UInt8))} {cl : List (List (List (List UInt8)))} (S : St false D 40 v (fun _ => none)) (G : Gd v e css) (hm : css ∈ cl) : EndS D cl := by
  refine ⟨false, v, _, S, fun _ _ => rfl, fun D' v' V h => ⟨css, hm, ?_⟩⟩
  have : v' = v := by
    funext j
    rcases h j with h | ⟨x, h, _⟩
    · exact h
    · cases h
  subst this
  exact G.opn V
theorem open_opn {h : Heap} {F : Fp} {D : Dk} {css : List (List (List UInt8))} {Q : Option Addr × Sl × Sl × Int → Heap → Prop} (H : DkAt h F D) (O : Opn D css)
    (hq : ∀ h' l s x, Ext h h' → DkAt h' F D → Css h.size h' x css → Q (l, s, x, 0) h') : (wal_Open (some ⟨F.p, 0, none⟩)).wp h Q := by
  obtain ⟨ob, c, e, h0, h1, hch, ho, hT⟩ := O.ex
  exact lopen_spec H O.away (by rw [O.n]; decide) (by rw [O.n]; decide) h0 h1 hch ho hT (fun h' b o ns s x e1 hb W bs cx => hq h' _ s x e1 W.dk cx)
theorem whole_tail {lo : Nat} {h0 h : Heap} {F : Fp} {D : Dk} {m : Sl} {cl : List (List (List (List UInt8)))} {css : List (List (List UInt8))} (E : Ext h0 h) (H : DkAt h F D) (O : Opn D css) (hin : css ∈ cl) (hm : May lo h0 h m cl) (hB : Bds cl) (hn : cl.length ≤ 2) :
    (do
    let x122_31 ← wal_Open (some ⟨F.p, 0, none⟩)
    let x20_32 ← mkB ty_sl_sl_sl_uint8 (#[.slice none 0 0] : Array Value)
    stV x20_32 ((x122_31.2.2.1 : Sl).v)
    let x129_35 ← wal_Open (some ⟨F.p, 0, none⟩)
    let x139_38 ← M.ite (x122_31.2.2.2 != 0) (do
      M.pure true
      ) (do
      M.pure (x129_35.2.2.2 != 0)
      )
    let x145_39 ← M.ite x139_38 (do
      M.pure true
      ) (do
      let x141_40 ← ldL x20_32
      let x143_41 ← rambleref06_Same x141_40 x129_35.2.2.1
      M.pure (!x143_41)
      )
    M.ite x145_39 (do
      M.pure false
      ) (do
      let x148_44 ← slices_ContainsFunc_slslslslbyte_slslslbyte m (Value.func (.func fn_ramblelaw06_WalWhole_1) #[] #[.pointer (some x20_32)])
      M.pure x148_44
      )).wp h (fun r h' => r = true ∧ Ext h0 h') := by
  obtain ⟨l1, l2⟩ := hB css hin
  refine bind_w (open_opn H O (fun h1 l s x e1 H1 cx => ?_))
  refine mkB_b ?_
  have e2 := Ext.push h1 (.cells #[Value.slice none 0 0] ty_sl_sl_sl_uint8)
  have g2 : (h1.push (.cells #[Value.slice none 0 0] ty_sl_sl_sl_uint8))[h1.size]? = some (.cells #[Value.slice none 0 0] ty_sl_sl_sl_uint8 (0, 0)) := get_push_eq
  generalize h1.push (.cells #[Value.slice none 0 0] ty_sl_sl_sl_uint8) = h2 at e2 g2 ⊢
  refine stV_b (x := .slice none 0 0) (by rw [hcell_blk g2]; rfl) (hfrozen_blk g2) (one_v x) ?_
  have u3 : Upd h1.size h2 (hset h2 ⟨h1.size, 0, none⟩ x.v) := Upd.hset _ _ _ _
  have g3 : hcell (hset h2 ⟨h1.size, 0, none⟩ x.v) ⟨h1.size, 0, none⟩ = some x.v := by
    rw [hcell_blk (hset_at g2)]; rfl
  generalize hset h2 ⟨h1.size, 0, none⟩ x.v = h3 at u3 g3 ⊢
  have E3 : Ext h1 h3 := e2.upd u3 (Nat.le_refl _)
  have H3 := H1.ext E3
  refine bind_w (open_opn H3 O (fun h4 l' s' y e4 H4 cy => ?_))
  have E4 : Ext h h4 := (e1.trans E3).trans e4
  refine iteF_b rfl (pure_b (iteF_b rfl (assoc_b (ldL_b (n := x) (e4.cell g3) ?_))))
  have cx4 : Bcs h4 x css := (cx.bcs.ext E3).ext e4
  refine assoc_b (bind_w (same06_any cx4 cy.bcs l1 l2 l2 (fun h5 r e5 hr => pure_b ?_)))
  rw [hr rfl]
  refine iteF rfl ?_
  have E5 := E4.trans e5
  refine bind_w (contains_spec (hm.keep (fun i _ hi => E5.same i hi)) (E.trans E5) hB hin hn (e5.cell (e4.cell g3)) (cx4.ext e5) (fun h6 e6 => pure_w ⟨rfl, (E.trans E5).trans e6⟩))
theorem whole_j1 {lo : Nat} {h0 h : Heap} {F : Fp} {D : Dk} {m x3 : Sl} {cl : List (List (List (List UInt8)))} {torn : Int} {keep : List Bool} (E : Ext h0 h) (H : DkAt h F D) (hE : EndS D cl) (hm : May lo h0 h m cl) (hB : Bds cl) (hn : cl.length ≤ 2)
    (hF : ∀ i, F.on i → h0.size ≤ i) (hFl : ∀ i, F.on i → i < lo) (hk : Bls h0 x3 keep) (hkd : keep = [] ∨ ∀ i, Sl.on x3 i → i < h0.size) : (ramblelaw06_WalWhole_j1 torn x3 (some ⟨F.p, 0, none⟩) m).wp h (fun r h' => r = true ∧ Ext h0 h') := by
  unfold ramblelaw06_WalWhole_j1
  refine bind_w (ddown_spec H ?_)
  obtain ⟨aw, v, w, S, hw, hO⟩ := hE
  have hs0 := E.size
  have hkd' : ∀ h', Ext h0 h' → keep = [] ∨ ∀ i, Sl.on x3 i → ¬ F.on i ∧ i < h'.size := fun h' e => hkd.imp id (fun hh i hi => ⟨fun ho => by have := hF i ho; have := hh i hi; omega, by have := hh i hi; have := e.size; omega⟩)
  have hmk : ∀ {h'}, Kp F h h' → May lo h0 h' m cl := fun k => hm.keep (fun i h1 h2 => k.same i h2 (fun ho => by have := hFl i ho; omega))
  cases aw with
  | true =>
    rw [S.away]
    refine iteF_b rfl (pure_b (iteF_b rfl (assoc_b (bind_w (dstart_spec H S.away (hk.ext E) (hkd' h E) (fun h1 xs hp hs k1 H1 => pure_b ?_))))))
    have S1 : St false { D with away := false } 40 v w := ⟨rfl, S.fuse, S.n, S.base, S.cache, S.pos, fun h => by cases h⟩
    obtain ⟨v', S2, hf2, hv'⟩ := decide_st (torn := torn) (keep := keep) S1 hp
    have V := S2.vw (fun _ => rfl) (hf2.trans (S.fz rfl))
    obtain ⟨css, hin, O⟩ := hO _ _ V hv'
    refine iteF rfl ?_
    exact whole_tail (E.kp k1 hF) H1 O hin (hmk k1) hB hn
  | false =>
    have hw := hw rfl
    rw [S.away]
    refine iteT_b rfl (assoc_b (bind_w (dcrash_spec H S.away (hk.ext E) (hkd' h E) (fun h1 xs hp hs k1 H1 => pure_b ?_))))
    have S1 : St true { D with away := true, fuse := 0 } 40 v w := ⟨rfl, by show (0 : Int) ≤ 0; decide, S.n, S.base, S.cache, S.pos, fun _ => rfl⟩
    obtain ⟨v1, S2, hf2, hv1⟩ := decide_st (torn := torn) (keep := keep) S1 hp
    have hv1 : ∀ j, v1 j = v j := fun j => by
      rcases hv1 j with h | ⟨x, h, _⟩
      · exact h
      · rw [hw] at h; cases h
    have E1 := E.kp k1 hF
    generalize Dk.decide { D with away := true, fuse := 0 } xs torn keep = D1 at S2 hf2 H1
    refine iteF_b rfl (assoc_b (bind_w (dstart_spec H1 S2.away (hk.ext E1) (hkd' h1 E1) (fun h2 ys hp2 hs2 k2 H2 => pure_b ?_))))
    have S3 : St false { D1 with away := false } 40 v1 (fun _ => none) := ⟨rfl, S2.fuse, S2.n, S2.base, S2.cache, S2.pos, fun h => by cases h⟩
    obtain ⟨v2, S4, hf4, hv2⟩ := decide_st (torn := torn) (keep := keep) S3 hp2
    have V := S4.vw (fun _ => rfl) (hf4.trans (S2.fz rfl))
    obtain ⟨css, hin, O⟩ := hO _ _ V (fun j => .inl (by
      rcases hv2 j with h | ⟨x, h, _⟩
      · rw [h, hv1]
      · cases h))
    refine iteF rfl ?_
    exact whole_tail (E1.kp k2 hF) H2 O hin (hmk (k1.trans k2)) hB hn
end Gx
namespace Gx
open Go
set_option linter.unusedVariables false
set_option linter.unusedSimpArgs false
set_option maxRecDepth 20000
structure WOp where
  dd : Int
  r : Sl
  n : Int
  torn : Int
  keep : Sl
  bits : Int
  R : List (List UInt8)
def wopc (o : WOp) : Array Value := #[.int .i64 o.dd, o.r.v, .int .i64 o.n, .int .i64 o.torn, o.keep.v, .int .u32 o.bits]
def WOps (h : Heap) (x : Sl) (ops : List WOp) : Prop :=
  x.len = ops.length ∧ (ops = [] ∨ ∃ a, x.base = some a ∧ ∀ (i : Nat) o, ops[i]? = some o → ∀ j, j < 6 → hcell h (a.add (i * 6 + j)) = (wopc o)[j]?) ∧ ∀ o ∈ ops, Bss h o.r o.R
section
variable {lo b o : Nat} {h0 : Heap} {F : Fp} {ns : Sl}
/-- the log runs -/
def UpW (lo : Nat) (h0 : Heap) (F : Fp) (b o : Nat) (ns : Sl) (k : Nat) (h : Heap) (x : Sl) (D : Dk) : Prop :=
  ∃ css e v, Had lo h0 h x css ∧ WalAt h F D b o ns ⟨30, [], e, uEnd css 0, false, false⟩ ∧ St false D 40 v (fun _ => none) ∧ Gd v e css ∧ css.length ≤ k ∧ ∀ rs ∈ css, (cbytes rs).length ≤ 1000000000 ∧ rs.length ≤ 1000000000
def GoodW (lo : Nat) (h0 : Heap) (F : Fp) (b o : Nat) (ns : Sl) (k : Nat) (h : Heap) (x m : Sl) : Prop :=
  Ext h0 h ∧ lo ≤ h.size ∧ ∃ cl D, DkAt h F D ∧ EndS D cl ∧ May lo h0 h m cl ∧ Bds cl ∧ cl.length ≤ 2 ∧ (D.away = false → UpW lo h0 F b o ns k h x D)
theorem bds_one {css : List (List (List UInt8))} (h1 : css.length ≤ 1000000000) (h2 : ∀ rs ∈ css, (cbytes rs).length ≤ 1000000000 ∧ rs.length ≤ 1000000000) : Bds [css] := fun c hc => by
  have : c = css := by simpa using hc
  subst this
  exact ⟨h1, h2⟩
theorem bds_two {css css' : List (List (List UInt8))} (h1 : Bds [css]) (h2 : Bds [css']) : Bds [css, css'] := fun c hc => by
  rcases List.mem_cons.1 hc with rfl | hc
  · exact h1 _ (by simp)
  · exact h2 _ hc
theorem gw_one {lo e : Nat} {h : Heap} (hlo : lo ≤ h.size) (s : Sl) : Gw lo (h.push (.cells #[s.v] e)) ⟨some ⟨h.size, 0, none⟩, 1, 1⟩ 1 [s.v] :=
  .inr ⟨h.size, e, #[s.v], rfl, hlo, get_push_eq, rfl, Nat.le_refl _, rfl, fun j v hj => by
    rcases j with _ | j
    · simpa using hj
    · simp at hj⟩
theorem step_append {self : Sl × Sl × Int → M Bool} {Q : Bool → Heap → Prop} {k bx : Nat} {hB : Heap} {D : Dk} {x13 x64 : Sl} {op : WOp} (E : Ext h0 hB) (hlo : lo ≤ hB.size) (hU : UpW lo h0 F b o ns k hB x13 D) (g64 : Gw lo hB x64 1 [x13.v]) (hl64 : x64.len = 1) (hoff : ∀ i, Sl.on x13 i → ¬ Sl.on x64 i)
    (cR : hcell hB ((⟨bx, 0, none⟩ : Addr).add 1) = some op.r.v) (hR : Bss h0 op.r op.R) (hR1 : (cbytes op.R).length ≤ 1000000000) (hR2 : op.R.length ≤ 1000000000) (hk : k ≤ 100000000) (hW : ∀ i, wK F b i → i < lo ∧ h0.size ≤ i)
    (hs : ∀ h2 y13 y14, GoodW lo h0 F b o ns (k + 1) h2 y13 y14 → (self (y13, y14, ((k + 1 : Nat) : Int))).wp h2 Q) :
    (do
          let x72_81 ← ldL ((⟨bx, 0, none⟩ : Addr).add 1)
          let y_86 ← do
            M.both (do
              let x70_82 ← slices_Clone_slslslbyte_slslbyte x13
              chk (fun h : Heap => (hcell h ((⟨bx, 0, none⟩ : Addr).add 1) = some ((x72_81 : Sl).v)))
              let x73_83 ← bdL ty_sl_sl_uint8 1 #[(x72_81 : Sl).v]
              M.pure (x70_82, x73_83)
              ) (do
              let x73_84 ← bdL ty_sl_sl_uint8 1 #[(x72_81 : Sl).v]
              chk (fun h : Heap => (hcell h ((⟨bx, 0, none⟩ : Addr).add 1) = some ((x72_81 : Sl).v)))
              let x70_85 ← slices_Clone_slslslbyte_slslbyte x13
              chk (fun h : Heap => (hcell h ((⟨bx, 0, none⟩ : Addr).add 1) = some ((x72_81 : Sl).v)))
              M.pure (x70_85, x73_84)
              )
          let x74_87 ← apL ty_sl_sl_uint8 1 24 (#[.slice none 0 0] : Array Value) y_86.1 y_86.2
          let x77_89 ← ldL ((⟨bx, 0, none⟩ : Addr).add 1)
          let x78_90 ← wal_Log_Append (some ⟨b, o, none⟩) x77_89
          M.ite (x78_90 == 0) (do
            let x83_92 ← bdL ty_sl_sl_sl_uint8 1 #[(x74_87 : Sl).v]
            ramblelaw06_WalWhole_j2 self (k : Int) x74_87 x83_92
            ) (do
            M.ite (x78_90 == 9) (do
              let x88_94 ← bdL ty_sl_sl_sl_uint8 1 #[(x74_87 : Sl).v]
              let x89_95 ← apL ty_sl_sl_sl_uint8 1 24 (#[.slice none 0 0] : Array Value) x64 x88_94
              ramblelaw06_WalWhole_j2 self (k : Int) x13 x89_95
              ) (do
              ramblelaw06_WalWhole_j2 self (k : Int) x13 x64
              )
            )).wp hB Q := by
  obtain ⟨css, e, v, hH, W, S, G, hck, hcb⟩ := hU
  refine ldL_b (n := op.r) cR ?_
  have wk : IntKind.wrap .i64 ((k : Int) + 1) = ((k + 1 : Nat) : Int) := by rw [w64 (by omega) (by omega)]; omega
  have hcb2 : ∀ rs ∈ css ++ [op.R], (cbytes rs).length ≤ 1000000000 ∧ rs.length ≤ 1000000000 := fun rs hrs => by
    rcases List.mem_append.1 hrs with h | h
    · exact hcb rs h
    · have : rs = op.R := by simpa using h
      subst this
      exact ⟨hR1, hR2⟩
  have hB1 : Bds [css] := bds_one (by omega) hcb
  have hB2 : Bds [css ++ [op.R]] := bds_one (by simp; omega) hcb2
  -- behind the clone
  have cont : ∀ hC y1 y2, Ext hB hC → Had lo h0 hC y1 css → (∀ i, Sl.on y1 i → hB.size ≤ i) → Reads hC y2.base [op.r.v] → y2.len = 1 →
      (do
          let x74_87 ← apL ty_sl_sl_uint8 1 24 (#[.slice none 0 0] : Array Value) y1 y2
          let x77_89 ← ldL ((⟨bx, 0, none⟩ : Addr).add 1)
          let x78_90 ← wal_Log_Append (some ⟨b, o, none⟩) x77_89
          M.ite (x78_90 == 0) (do
            let x83_92 ← bdL ty_sl_sl_sl_uint8 1 #[(x74_87 : Sl).v]
            ramblelaw06_WalWhole_j2 self (k : Int) x74_87 x83_92
            ) (do
            M.ite (x78_90 == 9) (do
              let x88_94 ← bdL ty_sl_sl_sl_uint8 1 #[(x74_87 : Sl).v]
              let x89_95 ← apL ty_sl_sl_sl_uint8 1 24 (#[.slice none 0 0] : Array Value) x64 x88_94
              ramblelaw06_WalWhole_j2 self (k : Int) x13 x89_95
              ) (do
              ramblelaw06_WalWhole_j2 self (k : Int) x13 x64
              )
            )).wp hC Q := by
    intro hC y1 y2 eC hY hYn hr2 hl2
    have sC := eC.size
    refine had_app hY (by omega) (by omega) hR hr2 hl2 (fun hD x74 kD hH74 hon74 => ?_)
    have eD : Ext hB hD := eC.km kD hYn
    have hn74 : ∀ i, Sl.on x74 i → hB.size ≤ i := fun i hi => by
      rcases hon74 i hi with h | h
      · exact hYn i h
      · omega
    refine ldL_b (n := op.r) (eD.cell cR) ?_
    refine bind_w (lappend_spec (W.ext eD) (hR.ext (E.trans eD)) hR1 hR2 (fun hE kE W2 => ?_))
    have EE : Ext h0 hE := (E.trans eD).km kE (fun i hi => (hW i hi).2)
    have sE : lo ≤ hE.size := by have := kE.size; have := eD.size; omega
    have offW : ∀ i, lo ≤ i → ¬ wK F b i := fun i hi hw => by have := (hW i hw).1; omega
    have H13 : Had lo h0 hE x13 css := (hH.keep (h' := hD) (fun i _ hi => eD.same i hi)).keep (fun i hl hi => kE.same i hi (offW i hl))
    have H74 : Had lo h0 hE x74 (css ++ [op.R]) := hH74.keep (fun i hl hi => kE.same i hi (offW i hl))
    have G64 : Gw lo hE x64 1 [x13.v] := (g64.ext eD).same (fun i hi => kE.same i ((g64.ext eD).lt hi).1 (offW i (g64.lt hi).2))
    unfold ramblelaw06_WalWhole_j2
    rw [wk]
    have hU30 : uEnd css 0 ≤ 30 := G.le
    rcases append_st (L := ⟨30, [], e, uEnd css 0, false, false⟩) (rs := op.R) S rfl rfl hU30 (by show 2 + 30 ≤ 40; decide) with ⟨hf, hA⟩ | ⟨hf, a1, a2, v', S', C', hE'⟩ | ⟨hf, a1, a2, w', S', hw1, hw0⟩
    · rw [hA] at W2 ⊢
      refine iteF rfl (iteF rfl (hs _ _ _ ⟨EE, sE, [css], D, W2.dk, EndS.up S G (by simp), may_one G64 hl64 H13, hB1, by simp, fun _ => ⟨css, e, v, H13, W2, S, G, by omega, hcb⟩⟩))
    · dsimp only at hf
      rw [a1]
      rw [a2] at W2
      generalize (Lg.append ⟨30, [], e, uEnd css 0, false, false⟩ D op.R).1 = D2 at S' W2
      refine iteT rfl (bdL_b ?_)
      have eP := Ext.push hE (.cells #[x74.v] ty_sl_sl_sl_uint8)
      have gP := gw_one (e := ty_sl_sl_sl_uint8) sE x74
      generalize hE.push (.cells #[x74.v] ty_sl_sl_sl_uint8) = hP at eP gP ⊢
      have G' := G.append (rs := op.R) (v' := v') (by omega) C' hE'
      have HP := H74.keep (h' := hP) (fun i _ hi => eP.same i hi)
      have hU : uEnd (css ++ [op.R]) 0 = uEnd css 0 + (cuts (cbytes op.R)).length := by rw [uEnd_app]; rfl
      refine hs _ _ _ ⟨EE.trans eP, by have := eP.size; omega, [css ++ [op.R]], D2, (W2.ext eP).dk, EndS.up S' G' (by simp), may_one gP rfl HP, hB2, by simp, fun _ => ⟨css ++ [op.R], e, v', HP, by rw [hU]; exact W2.ext eP, S', G', by simp; omega, hcb2⟩⟩
    · dsimp only at hf
      rw [a1]
      generalize (Lg.append ⟨30, [], e, uEnd css 0, false, false⟩ D op.R).1 = D2 at S' W2
      refine iteF rfl (iteT rfl ?_)
      refine ap1S_b (ss := [x13]) G64 (by simpa using hl64) (by simp) sE (fun hP x89 gP hlP kP => ?_)
      have hx64 : ∀ i, Sl.on x64 i → lo ≤ i ∧ i < hB.size := fun i hi => ⟨(g64.lt hi).2, (g64.lt hi).1⟩
      have hs0 : ∀ i, Sl.on x64 i → h0.size ≤ i := fun i hi => by
        rcases Nat.lt_or_ge i h0.size with h | h
        · have h1 := (hW F.p (.inl (.inl rfl)))
          have := hx64 i hi
          omega
        · exact h
      have HP13 : Had lo h0 hP x13 css := by
        obtain ⟨ss, g, q1, q2, q3⟩ := H13
        exact ⟨ss, g.same (fun i hi => kP.same i (g.lt hi).1 (hoff i hi)), q1, q2, q3⟩
      have HP74 : Had lo h0 hP x74 (css ++ [op.R]) := by
        obtain ⟨ss, g, q1, q2, q3⟩ := H74
        exact ⟨ss, g.same (fun i hi => kP.same i (g.lt hi).1 (fun h => by have := hn74 i hi; have := hx64 i h; omega)), q1, q2, q3⟩
      refine hs _ _ _ ⟨EE.km kP hs0, by have := kP.size; omega, [css, css ++ [op.R]], D2, W2.dk.same (fun i hi => kP.same i (W2.dk.lt hi) (fun h => by have := hx64 i h; have := hW i (.inl hi); omega)), ⟨true, v, w', S', fun h => (by cases h), fun D' v' V hc => ?_⟩, may_two gP (by simpa using hlP) HP13 HP74, bds_two hB1 hB2, by simp, fun h => by rw [S'.away] at h; cases h⟩
      rcases G.crash_append (rs := op.R) V (by omega) hc hw1 hw0 with h | h
      · exact ⟨css, by simp, h⟩
      · exact ⟨css ++ [op.R], by simp, h⟩
  refine bind_w (both_w ?_ ?_)
  · refine bind_w (clone3_spec hH hlo (by omega) (fun hC y1 eC hY hYn => ?_))
    refine chk_b (eC.cell cR) (bdL_b (pure_w ?_))
    have e2 := Ext.push hC (.cells #[op.r.v] ty_sl_sl_uint8)
    have g2 := gw_one (lo := lo) (h := hC) (e := ty_sl_sl_uint8) (by have := eC.size; omega) op.r
    generalize hC.push (.cells #[op.r.v] ty_sl_sl_uint8) = hC2 at e2 g2 ⊢
    exact cont hC2 y1 _ (eC.trans e2) (hY.keep (fun i _ hi => e2.same i hi)) hYn g2.reads rfl
  · refine bdL_b ?_
    have e2 := Ext.push hB (.cells #[op.r.v] ty_sl_sl_uint8)
    have g2 := gw_one (lo := lo) (h := hB) (e := ty_sl_sl_uint8) hlo op.r
    generalize hB.push (.cells #[op.r.v] ty_sl_sl_uint8) = hC at e2 g2 ⊢
    have s2 := e2.size
    refine chk_b (e2.cell cR) (bind_w (clone3_spec (hH.keep (h' := hC) (fun i _ hi => e2.same i hi)) (by omega) (by omega) (fun hC2 y1 eC hY hYn => ?_)))
    refine chk_b ((e2.trans eC).cell cR) (pure_w ?_)
    exact cont hC2 y1 _ (e2.trans eC) hY (fun i hi => by have := hYn i hi; omega) (g2.ext eC).reads rfl
theorem step_reset {self : Sl × Sl × Int → M Bool} {Q : Bool → Heap → Prop} {k : Nat} {hB : Heap} {D : Dk} {x13 x64 : Sl} (E : Ext h0 hB) (hlo : lo ≤ hB.size) (hU : UpW lo h0 F b o ns k hB x13 D) (g64 : Gw lo hB x64 1 [x13.v]) (hl64 : x64.len = 1) (hoff : ∀ i, Sl.on x13 i → ¬ Sl.on x64 i)
    (hk : k ≤ 100000000) (hW : ∀ i, wK F b i → i < lo ∧ h0.size ≤ i)
    (hs : ∀ h2 y13 y14, GoodW lo h0 F b o ns (k + 1) h2 y13 y14 → (self (y13, y14, ((k + 1 : Nat) : Int))).wp h2 Q) :
    (do
            let x93_98 ← wal_Log_Reset (some ⟨b, o, none⟩)
            M.ite (x93_98 == 0) (do
              let x96_100 ← bdL ty_sl_sl_sl_uint8 1 #[(Sl.nil : Sl).v]
              ramblelaw06_WalWhole_j2 self (k : Int) Sl.nil x96_100
              ) (do
              M.ite (x93_98 == 9) (do
                let x100_102 ← bdL ty_sl_sl_sl_uint8 1 #[(Sl.nil : Sl).v]
                let x101_103 ← apL ty_sl_sl_sl_uint8 1 24 (#[.slice none 0 0] : Array Value) x64 x100_102
                ramblelaw06_WalWhole_j2 self (k : Int) x13 x101_103
                ) (do
                ramblelaw06_WalWhole_j2 self (k : Int) x13 x64
                )
              )).wp hB Q := by
  obtain ⟨css, e, v, hH, W, S, G, hck, hcb⟩ := hU
  have wk : IntKind.wrap .i64 ((k : Int) + 1) = ((k + 1 : Nat) : Int) := by rw [w64 (by omega) (by omega)]; omega
  have hB1 : Bds [css] := bds_one (by omega) hcb
  have hB2 : Bds [[]] := bds_one (by simp) (fun rs hrs => by cases hrs)
  refine bind_w (lreset_spec W (fun hE kE W2 => ?_))
  have EE : Ext h0 hE := E.km kE (fun i hi => (hW i hi).2)
  have sE : lo ≤ hE.size := by have := kE.size; omega
  have offW : ∀ i, lo ≤ i → ¬ wK F b i := fun i hi hw => by have := (hW i hw).1; omega
  have H13 : Had lo h0 hE x13 css := hH.keep (fun i hl hi => kE.same i hi (offW i hl))
  have G64 : Gw lo hE x64 1 [x13.v] := g64.same (fun i hi => kE.same i (g64.lt hi).1 (offW i (g64.lt hi).2))
  unfold ramblelaw06_WalWhole_j2
  rw [wk]
  rcases reset_st (L := ⟨30, [], e, uEnd css 0, false, false⟩) S (by decide) rfl hpay30 with ⟨he, hA⟩ | ⟨he, a1, a2, S'⟩ | ⟨he, a1, a2, w', S', hw1, hw0⟩
  · rw [hA] at W2 ⊢
    refine iteF rfl (iteF rfl (hs _ _ _ ⟨EE, sE, [css], D, W2.dk, EndS.up S G (by simp), may_one G64 hl64 H13, hB1, by simp, fun _ => ⟨css, e, v, H13, W2, S, G, by omega, hcb⟩⟩))
  · dsimp only at he S'
    rw [a1]
    rw [a2] at W2
    generalize (Lg.reset ⟨30, [], e, uEnd css 0, false, false⟩ D).1 = D2 at S' W2
    refine iteT rfl (bdL_b ?_)
    have eP := Ext.push hE (.cells #[Sl.nil.v] ty_sl_sl_sl_uint8)
    have gP := gw_one (e := ty_sl_sl_sl_uint8) sE Sl.nil
    generalize hE.push (.cells #[Sl.nil.v] ty_sl_sl_sl_uint8) = hP at eP gP ⊢
    have G' := G.reset he
    refine hs _ _ _ ⟨EE.trans eP, by have := eP.size; omega, [[]], D2, (W2.ext eP).dk, EndS.up S' G' (by simp), may_one gP rfl (Had.nil _ _ _), hB2, by simp, fun _ => ⟨[], e + 1, _, Had.nil _ _ _, W2.ext eP, S', G', by simp, fun rs hrs => by cases hrs⟩⟩
  · dsimp only at he hw1 hw0
    rw [a1]
    generalize (Lg.reset ⟨30, [], e, uEnd css 0, false, false⟩ D).1 = D2 at S' W2
    refine iteF rfl (iteT rfl ?_)
    refine ap1S_b (ss := [x13]) G64 (by simpa using hl64) (by simp) sE (fun hP x89 gP hlP kP => ?_)
    have hx64 : ∀ i, Sl.on x64 i → lo ≤ i ∧ i < hB.size := fun i hi => ⟨(g64.lt hi).2, (g64.lt hi).1⟩
    have hs0 : ∀ i, Sl.on x64 i → h0.size ≤ i := fun i hi => by
      rcases Nat.lt_or_ge i h0.size with h | h
      · have h1 := (hW F.p (.inl (.inl rfl)))
        have := hx64 i hi
        omega
      · exact h
    have HP13 : Had lo h0 hP x13 css := by
      obtain ⟨ss, g, q1, q2, q3⟩ := H13
      exact ⟨ss, g.same (fun i hi => kP.same i (g.lt hi).1 (hoff i hi)), q1, q2, q3⟩
    refine hs _ _ _ ⟨EE.km kP hs0, by have := kP.size; omega, [css, []], D2, W2.dk.same (fun i hi => kP.same i (W2.dk.lt hi) (fun h => by have := hx64 i h; have := hW i (.inl hi); omega)), ⟨true, v, w', S', fun h => (by cases h), fun D' v' V hc => ?_⟩, may_two gP (by simpa using hlP) HP13 (Had.nil _ _ _), bds_two hB1 hB2, by simp, fun h => by rw [S'.away] at h; cases h⟩
    rcases G.crash_reset V he hc hw1 hw0 with h | h
    · exact ⟨css, by simp, h⟩
    · exact ⟨[], by simp, h⟩
theorem whole_loop {h : Heap} {D : Dk} {v : Vs} {x x3 x54 : Sl} {ops : List WOp} {torn : Int} {keep : List Bool} (hx : WOps h0 x ops) (hl : ops.length ≤ 100000000) (hR : ∀ op ∈ ops, (cbytes op.R).length ≤ 1000000000 ∧ op.R.length ≤ 1000000000)
    (E : Ext h0 h) (hlo : lo ≤ h.size) (hW : ∀ i, wK F b i → i < lo ∧ h0.size ≤ i) (W : WalAt h F D b o ns ⟨30, [], 1, 0, false, false⟩) (S : St false D 40 v (fun _ => none)) (G : Gd v 1 []) (g54 : Gw lo h x54 1 [Sl.nil.v]) (hl54 : x54.len = 1)
    (hk : Bls h0 x3 keep) (hkd : keep = [] ∨ ∀ i, Sl.on x3 i → i < h0.size) :
    (M.loop (ramblelaw06_WalWhole_l1 torn x3 (some ⟨F.p, 0, none⟩) (some ⟨b, o, none⟩) x (x.len : Int)) (Sl.nil, x54, 0)).wp h (fun r h' => r = true ∧ Ext h0 h') := by
  obtain ⟨hxl, hxc, hxr⟩ := hx
  rw [hxl]
  refine M.loop_inv (fun (t : Sl × Sl × Int) h' => ∃ k : Nat, t.2.2 = (k : Int) ∧ k ≤ ops.length ∧ GoodW lo h0 F b o ns k h' t.1 t.2.1) (fun t _ => ((ops.length : Int) - t.2.2).toNat) ?_
    ⟨0, rfl, Nat.zero_le _, E, hlo, [[]], D, W.dk, EndS.up S G (by simp), may_one g54 hl54 (Had.nil _ _ _), bds_one (by simp) (fun rs hrs => by cases hrs), by simp, fun _ => ⟨[], 1, v, Had.nil _ _ _, W, S, G, by simp, fun rs hrs => by cases hrs⟩⟩
  rintro ⟨x13, x14, t⟩ h' ⟨k, hkk, hkl, E', hlo', cl, D', H', hE, hm, hB, hcn, hup⟩ self hself
  dsimp only at hkk hm hup
  subst hkk
  have hFj : ∀ i, F.on i → h0.size ≤ i := fun i hi => (hW i (.inl hi)).2
  have hFl : ∀ i, F.on i → i < lo := fun i hi => (hW i (.inl hi)).1
  unfold ramblelaw06_WalWhole_l1
  refine ite_w (fun hlt => ?_) (fun hge => whole_j1 E' H' hE hm hB hcn hFj hFl hk hkd)
  have hlt : k < ops.length := by have := of_decide_eq_true hlt; omega
  obtain ⟨a, ha, hcs⟩ : ∃ a, x.base = some a ∧ ∀ (i : Nat) o, ops[i]? = some o → ∀ j, j < 6 → hcell h0 (a.add (i * 6 + j)) = (wopc o)[j]? := by
    rcases hxc with h | h
    · rw [h] at hlt; cases hlt
    · exact h
  generalize hop : ops[k] = op
  have hopm : op ∈ ops := hop ▸ List.getElem_mem hlt
  have hcs := hcs k op (by rw [List.getElem?_eq_getElem hlt, hop])
  refine ixL_b (by omega) (by rw [hxl]; omega) ha ?_
  refine ldG_b (cs := wopc op) rfl (fun j hj => ?_) (mkB_b ?_)
  · rw [Addr.add_add, show (k : Int).toNat * 6 = k * 6 by omega, ← hcs j hj]
    have hj' : (wopc op)[j]? = some ((wopc op)[j]'hj) := Array.getElem?_eq_getElem hj
    rw [hcs j hj, hj']
    exact E'.cell (by rw [hcs j hj, hj'])
  have e2 := Ext.push h' (.cells #[.int .i64 0, .slice none 0 0, .int .i64 0, .int .i64 0, .slice none 0 0, .int .u32 0] ty_ramblelaw06_Op)
  have g2 : (h'.push (.cells #[.int .i64 0, .slice none 0 0, .int .i64 0, .int .i64 0, .slice none 0 0, .int .u32 0] ty_ramblelaw06_Op))[h'.size]? = some (.cells #[.int .i64 0, .slice none 0 0, .int .i64 0, .int .i64 0, .slice none 0 0, .int .u32 0] ty_ramblelaw06_Op (0, 0)) := get_push_eq
  generalize h'.push (.cells #[.int .i64 0, .slice none 0 0, .int .i64 0, .int .i64 0, .slice none 0 0, .int .u32 0] ty_ramblelaw06_Op) = h2 at e2 g2 ⊢
  refine need_b rfl (stR (vs := wopc op) g2 (Nat.le_refl _) (fun v hv => ?_) (fun h3 u3 g3 => ?_))
  · simp only [wopc, List.mem_cons, List.not_mem_nil, or_false] at hv
    rcases hv with rfl | rfl | rfl | rfl | rfl | rfl <;> first | rfl | exact one_v _
  have hlay : lay #[Value.int IntKind.i64 0, Value.slice none 0 0, Value.int IntKind.i64 0, Value.int IntKind.i64 0, Value.slice none 0 0, Value.int IntKind.u32 0] 0 (wopc op).toList = wopc op := lay_full rfl
  rw [hlay] at g3
  have e3 : Ext h' h3 := e2.upd u3 (Nat.le_refl _)
  have E3 := E'.trans e3
  have s3 := e3.size
  have H3 := H'.ext e3
  have hm3 : May lo h0 h3 x14 cl := hm.keep (fun i _ hi => e3.same i hi)
  refine bind_w (ddown_spec H3 ?_)
  cases haw : D'.away with
  | true => exact iteT rfl (whole_j1 E3 H3 hE hm3 hB hcn hFj hFl hk hkd)
  | false =>
    obtain ⟨css, e, v', hH, W', S', G', hck, hcb⟩ := hup haw
    refine iteF rfl (bdL_b ?_)
    have e4 := Ext.push h3 (.cells #[x13.v] ty_sl_sl_sl_uint8)
    have gw4 := gw_one (lo := lo) (h := h3) (e := ty_sl_sl_sl_uint8) (by omega) x13
    generalize h3.push (.cells #[x13.v] ty_sl_sl_sl_uint8) = h4 at e4 gw4 ⊢
    have E4 := E3.trans e4
    have s4 := e4.size
    have e34 := e3.trans e4
    have g4 : h4[h'.size]? = some (.cells (wopc op) ty_ramblelaw06_Op (0, 0)) := e4.blk g3
    have hU : UpW lo h0 F b o ns k h4 x13 D' := ⟨css, e, v', hH.keep (fun i _ hi => e34.same i hi), W'.ext e34, S', G', hck, hcb⟩
    have hoff : ∀ i, Sl.on x13 i → ¬ Sl.on (⟨some ⟨h3.size, 0, none⟩, 1, 1⟩ : Sl) i := fun i hi ⟨a', ha', hb'⟩ => by
      cases ha'
      obtain ⟨ss, g, _⟩ := hH
      have := (g.lt hi).1
      dsimp only at hb'
      omega
    have next : ∀ h5 y13 y14, GoodW lo h0 F b o ns (k + 1) h5 y13 y14 → (self (y13, y14, ((k + 1 : Nat) : Int))).wp h5 (fun r h' => r = true ∧ Ext h0 h') := fun h5 y13 y14 hg => hself _ _ ⟨k + 1, rfl, by omega, hg⟩ (by dsimp only; omega)
    obtain ⟨r1, r2⟩ := hR op hopm
    have hbx : (⟨h'.size, 0, none⟩ : Addr).add 0 = ⟨h'.size, 0, none⟩ := rfl
    refine ldI_b (n := op.dd) (by rw [add_mk, hcell_blk g4]; rfl) ?_
    refine ite_w (fun _ => ?_) (fun _ => ite_w (fun _ => ?_) (fun _ => ?_))
    · exact step_append (op := op) E4 (by omega) hU gw4 rfl hoff (by rw [add_mk, hcell_blk g4]; rfl) (hxr op hopm) r1 r2 (by omega) hW next
    · exact step_reset E4 (by omega) hU gw4 rfl hoff (by omega) hW next
    · unfold ramblelaw06_WalWhole_j2
      rw [w64 (by omega) (by omega)]
      refine next _ _ _ ⟨E4, by omega, [css], D', (W'.ext e34).dk, EndS.up S' G' (by simp), may_one gw4 rfl (hH.keep (fun i _ hi => e34.same i hi)), bds_one (by omega) hcb, by simp, fun _ => ?_⟩
      obtain ⟨c1, c2, c3, q1, q2, q3, q4, q5, q6⟩ := hU
      exact ⟨c1, c2, c3, q1, q2, q3, q4, by omega, q6⟩
end
theorem flush_c {D : Dk} (h : D.flush.2 = 0) : D.flush.1.c = [] := by
  unfold Dk.flush at h ⊢
  by_cases h1 : D.away = true
  · rw [if_pos h1] at h; cases h
  · rw [if_neg h1] at h ⊢
    by_cases h2 : D.call.2 ≠ 0
    · rw [if_pos h2] at h; exact absurd h h2
    · rw [if_neg h2]; rfl
theorem format_c {D : Dk} {L : Lg} (h : (D.format L).2 = 0) : (D.format L).1.c = [] := by
  unfold Dk.format at h ⊢
  dsimp only at h ⊢
  by_cases h1 : (D.write 0 zeros).2 ≠ 0
  · rw [if_pos h1] at h; exact absurd h h1
  · rw [if_neg h1] at h ⊢
    by_cases h2 : ((D.write 0 zeros).1.head L 1).2 ≠ 0
    · rw [if_pos h2] at h; exact absurd h h2
    · rw [if_neg h2] at h ⊢
      exact flush_c h
theorem whole_spec {h0 : Heap} {x x3 : Sl} {ops : List WOp} {fuse torn : Int} {keep : List Bool} (hx : WOps h0 x ops) (hl : ops.length ≤ 100000000) (hR : ∀ op ∈ ops, (cbytes op.R).length ≤ 1000000000 ∧ op.R.length ≤ 1000000000)
    (hf : 0 ≤ fuse ∧ fuse ≤ 255) (hk : Bls h0 x3 keep) (hkd : keep = [] ∨ ∀ i, Sl.on x3 i → i < h0.size) : (ramblelaw06_WalWhole x fuse torn x3).wp h0 (fun r h' => r = true ∧ Ext h0 h') := by
  unfold ramblelaw06_WalWhole
  refine bind_w (dnew_spec (fun hh => by omega) (fun m hm _ _ h1 F e1 H1 hF => ?_))
  have hm40 : m = 40 := by omega
  subst hm40
  obtain ⟨f1, f2⟩ := format_vw (L := lg0 30 []) (Vw.new 40) (by omega) hpay30
  refine bind_w (lformat_spec (k := 30) (note := []) H1 (by omega) (by omega) (by decide) (by decide) (Bys.nil _) (by decide) (fun hne => absurd f1 hne) (fun _ h4 b ns k4 hb4 W4 => ?_))
  have E4 : Ext h0 h4 := e1.kp k4 hF
  refine bind_w (begun06_spec (fun h5 e5 => ?_))
  have W5 := W4.ext e5
  have hc := format_c f1
  generalize ((Dk.new 40).format (lg0 30 [])).1 = D5 at W5 f2 hc W4
  have hw : IntKind.wrap .i64 fuse = fuse := w64 (by omega) (by omega)
  refine iteF_b rfl (pure_b (iteF_b rfl (pure_b (iteF_b rfl (pure_b (iteF_b rfl (assoc_b (bind_w (dsetfuse_spec W5.dk f2.away (n := IntKind.wrap .i64 fuse) (by rw [hw]; omega) (by rw [hw]; omega) (fun h6 k6 H6 => pure_b ?_))))))))))
  rw [hw] at H6
  have E6 := (E4.trans e5).kp k6 hF
  have W6 := W5.disk k6 H6
  refine iteF rfl (bdL_b ?_)
  have e7 := Ext.push h6 (.cells #[Sl.nil.v] ty_sl_sl_sl_uint8)
  have g7 := gw_one (lo := h6.size) (h := h6) (e := ty_sl_sl_sl_uint8) (Nat.le_refl _) Sl.nil
  generalize h6.push (.cells #[Sl.nil.v] ty_sl_sl_sl_uint8) = h7 at e7 g7 ⊢
  have S : St false { D5 with fuse := fuse } 40 (put (put (fun _ => some zeros) 0 (some zeros)) 1 (some (sealed 1 1 (hpay 30 [])))) (fun _ => none) := by
    refine ⟨f2.away, hf.1, f2.n, fun j => ?_, fun j => ?_, fun p hp => ?_, fun h => by cases h⟩
    · have := f2.eff j
      unfold Dk.eff at this
      rw [hc] at this
      exact this
    · show mlk (j : Int) D5.c = none
      rw [hc]; rfl
    · have hp : p ∈ D5.c := hp
      rw [hc] at hp; cases hp
  refine whole_loop (lo := h6.size) hx hl hR (E6.trans e7) e7.size (fun i hi => ⟨?_, ?_⟩) (W6.ext e7) S gd_init g7 rfl hk hkd
  · exact W6.wlt hi
  · rcases hi with h | rfl
    · exact hF i h
    · exact Nat.le_trans e1.size hb4
end Gx
