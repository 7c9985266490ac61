/- Own proofs: what those Lean programs compute. No condition. -/
import Derived.Test.YtklegajjmeajiaaHRef4
namespace Gx
open Go
set_option linter.unusedVariables false
set_option linter.unusedSimpArgs false
def sfold (l : List (Int × List UInt8)) (s : Nat → List UInt8) : Nat → List UInt8 := l.foldl (fun s p => put s p.1.toNat p.2) s
def tfold (l : List (Int × List UInt8)) (t : Nat → Bool) : Nat → Bool := l.foldl (fun t p => put t p.1.toNat false) t
theorem mlk_cons (k : Int) (q : Int × List UInt8) (l : List (Int × List UInt8)) : mlk k (q :: l) = if q.1 = k then some q.2 else mlk k l := by
  by_cases h : q.1 = k <;> simp [mlk, h]
theorem sfold_eq (l : List (Int × List UInt8)) : ∀ (s : Nat → List UInt8), (l.map Prod.fst).Nodup → (∀ p ∈ l, 0 ≤ p.1) → ∀ i : Nat, sfold l s i = (mlk (i : Int) l).getD (s i) := by
  induction l with
  | nil => intro s _ _ i; rfl
  | cons p l ih =>
    intro s hn h0 i
    rw [List.map_cons, List.nodup_cons] at hn
    have hp := h0 p (by simp)
    show sfold l (put s p.1.toNat p.2) i = _
    rw [ih _ hn.2 (fun q hq => h0 q (by simp [hq])) i]
    by_cases he : p.1 = (i : Int)
    · have hm : mlk (i : Int) l = none := mlk_none (fun q hq e => hn.1 (by rw [he, ← e]; exact List.mem_map.2 ⟨q, hq, rfl⟩))
      rw [hm]
      have hi : i = p.1.toNat := by omega
      rw [mlk_cons, if_pos he]
      show (put s p.1.toNat p.2) i = p.2
      unfold put
      rw [if_pos hi]
    · have hi : ¬ i = p.1.toNat := by omega
      rw [mlk_cons, if_neg he]
      unfold put
      rw [if_neg hi]
theorem tfold_eq (l : List (Int × List UInt8)) : ∀ (t : Nat → Bool), (∀ p ∈ l, 0 ≤ p.1) → ∀ i : Nat, tfold l t i = if (mlk (i : Int) l).isSome then false else t i := by
  induction l with
  | nil => intro s _ i; rfl
  | cons p l ih =>
    intro t h0 i
    have hp := h0 p (by simp)
    show tfold l (put t p.1.toNat false) i = _
    rw [ih _ (fun q hq => h0 q (by simp [hq])) i]
    by_cases he : p.1 = (i : Int)
    · have hi : i = p.1.toNat := by omega
      rw [mlk_cons, if_pos he]
      unfold put
      rw [if_pos hi]
      cases mlk (i : Int) l <;> rfl
    · have hi : ¬ i = p.1.toNat := by omega
      rw [mlk_cons, if_neg he]
      unfold put
      rw [if_neg hi]
section
variable {h : Heap} {G : Rp} {R : Dk}
def Dk.rflush (D : Dk) : Dk × Int := if D.away then (D, 9) else if D.call.2 ≠ 0 then (D.call.1, 9) else (D.call.1.kept, 0)
theorem rflush_spec {Q : Int → Heap → Prop} (H : RkAt h G R)
    (hq : ∀ h' G', Km (fun i => i = G.p) h h' → (∀ i, G'.on i → G.on i ∨ h.size ≤ i) → G'.p = G.p → RkAt h' G' R.rflush.1 → Q R.rflush.2 h') : (rambleref04_Disk_Flush (some ⟨G.p, 0, none⟩)).wp h Q := by
  unfold rambleref04_Disk_Flush
  refine nilP_b (ldB_b (n := R.away) (by rw [H.cell]; rfl) ?_)
  cases hw : R.away with
  | true =>
    have e : R.rflush = (R, 9) := by rw [Dk.rflush, if_pos hw]
    rw [e] at hq
    exact iteT rfl (pure_w (hq _ G (Km.refl _ _) (fun i hi => .inl hi) rfl H))
  | false =>
    refine ite_w (fun h => by cases h) (fun _ => ?_)
    refine bind_w (rcall_spec H (fun h1 u1 H1 => ?_))
    have k1 : Km (fun i => i = G.p) h h1 := Km.upd u1 rfl
    by_cases hc : R.call.2 = 0
    · have e : R.rflush = (R.call.1.kept, 0) := by rw [Dk.rflush, hw, if_neg (by decide), if_neg (by simp [hc])]
      rw [e] at hq
      refine ite_w (fun h => by rw [hc] at h; cases h) (fun _ => ?_)
      generalize R.call.1 = R1 at H1 hq
      have hclt := H1.clt
      refine M.loop_inv (fun (t' : Int) h' => ∃ (i : Nat) (G' : Rp), i ≤ R1.c.length ∧ t' = (i : Int) ∧ Km (fun i => i = G.p) h h' ∧ (∀ i, G'.on i → G.on i ∨ h.size ≤ i) ∧ G'.p = G.p ∧ G'.c = G.c ∧ RkAt h' G' { R1 with s := sfold (R1.c.take i) R1.s, t := tfold (R1.c.take i) R1.t })
        (fun t' _ => ((R1.c.length : Int) - t').toNat) ?_ ⟨0, G, by omega, rfl, k1, fun i hi => .inl hi, rfl, rfl, H1⟩
      rintro t' h' ⟨i, G', hi, rfl, K, hon, hp, hcc, Hd⟩ self hself
      have hcl : G'.c.len = R1.c.length := Hd.cl
      unfold rambleref04_Disk_Flush_l1
      rw [← hp]
      refine nilP_b (ldL_b (n := G'.c) (by rw [Hd.cell]; rfl) ?_)
      rw [hcl]
      refine ite_w (fun hc => ?_) (fun hc => ?_)
      · have hlt : i < R1.c.length := by have := of_decide_eq_true hc; omega
        have hgi : R1.c[i]? = some R1.c[i] := List.getElem?_eq_getElem hlt
        obtain ⟨b, hb, hk0, hkj⟩ := Hd.key (show ({ R1 with s := sfold (R1.c.take i) R1.s, t := tfold (R1.c.take i) R1.t } : Dk).c[i]? = some R1.c[i] from hgi)
        obtain ⟨p1, p2, p3⟩ := Hd.clen R1.c[i] (List.mem_of_getElem? hgi)
        refine nilP_b (ldL_b (n := G'.c) (by rw [Hd.cell]; rfl) ?_)
        refine ixL_b (by omega) (by rw [hcl]; omega) hb ?_
        rw [show ((i : Int).toNat * 129) = i * 129 by omega, add_mk, Nat.zero_add]
        refine ldG_b (cs := (ccell R1.c[i]).toArray) (by simpa using ccell_len p1) (fun j hj => ?_) ?_
        · rw [add_mk]
          cases j with
          | zero => rw [Nat.add_zero, hk0]; rfl
          | succ j =>
            rw [Nat.add_comm j 1, hkj j (by omega)]
            simp [ccell, Nat.add_comm 1 j]
        · have hpn : (R1.c[i]).1.toNat < R1.n := by
            have p3' : (R1.c[i]).1 < (R1.n : Int) := p3
            omega
          have hcast : R1.c[i] = (((R1.c[i]).1.toNat : Int), (R1.c[i]).2) := by
            apply Prod.ext
            · show (R1.c[i]).1 = _; omega
            · rfl
          refine bind_w (rstay_spec (k := (R1.c[i]).1.toNat) (v := (R1.c[i]).2) Hd (congrArg (fun p => (ccell p).toArray) hcast) hpn p1 (fun h2 G2 K2 hon2 hp2 hc2 H2 => ?_))
          have e1 : IntKind.wrap .i64 ((i : Int) + 1) = ((i + 1 : Nat) : Int) := by rw [w64 (by omega) (by omega)]; rfl
          rw [e1]
          have K2' : Km (fun i => i = G.p) h' h2 := by rw [← hp]; exact K2
          refine hself _ _ ⟨i + 1, G2, by omega, rfl, K.trans K2', fun j hj => ?_, hp2.trans hp, hc2.trans hcc, ?_⟩ (by omega)
          · rcases hon2 j hj with hj | hj
            · exact hon j hj
            · exact .inr (Nat.le_trans K.size hj)
          · have t1 : R1.c.take (i + 1) = R1.c.take i ++ [R1.c[i]] := by rw [List.take_add_one, hgi]; rfl
            have es : sfold (R1.c.take (i + 1)) R1.s = put (sfold (R1.c.take i) R1.s) (R1.c[i]).1.toNat (R1.c[i]).2 := by rw [t1, sfold, List.foldl_append]; rfl
            have et : tfold (R1.c.take (i + 1)) R1.t = put (tfold (R1.c.take i) R1.t) (R1.c[i]).1.toNat false := by rw [t1, tfold, List.foldl_append]; rfl
            rw [es, et]
            exact H2
      · have : i = R1.c.length := by have := of_decide_eq_false hc; omega
        subst this
        rw [List.take_length] at Hd
        obtain ⟨n1, n2, n3⟩ := Hd.ne
        refine nilP_b (stV_b (x := G'.c.v) (by rw [Hd.cell]; rfl) (by rw [add_mk, hfrozen_blk Hd.blk]) rfl ?_)
        rw [add_mk]
        have u := Upd.hset h' G'.p (0 + 2) (Sl.nil : Sl).v
        refine pure_w (hq _ { G' with c := Sl.nil } (K.trans (by rw [← hp]; exact Km.upd u rfl)) (fun j hj => ?_) hp ?_)
        · rcases hj with hj | hj | hj | ⟨a, ha, _⟩
          · exact hon j (.inl hj)
          · exact hon j (.inr (.inl hj))
          · exact hon j (.inr (.inr (.inl hj)))
          · cases ha
        · have es : sfold R1.c R1.s = fun i : Nat => (mlk (i : Int) R1.c).getD (R1.s i) := by
            funext i; exact sfold_eq _ _ H1.keys (fun p hp => (H1.clen p hp).2.1) i
          have et : tfold R1.c R1.t = fun i : Nat => if (mlk (i : Int) R1.c).isSome then false else R1.t i := by
            funext i; exact tfold_eq _ _ (fun p hp => (H1.clen p hp).2.1) i
          have ek : R1.kept = { R1 with s := sfold R1.c R1.s, t := tfold R1.c R1.t, c := [] } := by rw [es, et]; rfl
          rw [ek]
          refine ⟨?_, (show SecAt h' G'.bs R1.n (sfold R1.c R1.s) from Hd.sec).upd u n1.symm, (show TorAt h' G'.bt R1.n (tfold R1.c R1.t) from Hd.tor).upd u n2.symm, Gw.nil _ _ _, Hd.lens, Hd.npos, Hd.nlt, fun p hp => (by cases hp), List.nodup_nil, ⟨n1, n2, fun ⟨a, ha, _⟩ => by cases ha⟩, Hd.fz⟩
          show (Gx.hset h' ⟨G'.p, 0 + 2, none⟩ _)[G'.p]? = _
          rw [hset_at Hd.blk]; rfl
    · have e : R.rflush = (R.call.1, 9) := by rw [Dk.rflush, hw, if_neg (by decide), if_pos hc]
      rw [e] at hq
      exact iteT (by simpa using hc) (pure_w (hq _ G k1 (fun i hi => .inl hi) rfl H1))
theorem bit_mod {w i : Nat} (hw : w < 4294967296) (hi : i < 32) : (Int.tmod (iShr .u32 (w : Int) (i : Int)) 2 == 1) = w.testBit i := by
  have e1 : iShr .u32 (w : Int) (i : Int) = ((w / 2 ^ i : Nat) : Int) := by
    show (w : Int).fdiv (2 ^ min (i : Int).toNat 32) = _
    rw [show min (i : Int).toNat 32 = i by omega, Int.fdiv_eq_ediv_of_nonneg _ (by have := Int.pow_pos (n := 2) (m := i) (by omega); omega)]
    simp
  rw [e1, Int.tmod_eq_emod_of_nonneg (Int.natCast_nonneg _), Nat.testBit_eq_decide_div_mod_eq]
  rw [Bool.eq_iff_iff, beq_iff_eq, decide_eq_true_eq]
  omega
theorem rburst_spec {Q : Int → Heap → Prop} {n o w : Int} (H : RkAt h G R) (hw0 : 0 ≤ w) (hw1 : w < 4294967296)
    (hq : ∀ h' G', Km (fun i => i = G.p) h h' → (∀ i, G'.on i → G.on i ∨ h.size ≤ i) → G'.p = G.p → RkAt h' G' (R.burst n o w).1 → Q (R.burst n o w).2 h') : (rambleref04_Disk_Burst (some ⟨G.p, 0, none⟩) n o w).wp h Q := by
  unfold rambleref04_Disk_Burst
  have hthere : ∀ {f : Bool → M Int}, (f (decide (n < 0 ∨ (R.n : Int) ≤ n))).wp h Q → ((M.ite (decide (n < 0)) (M.pure true) (do
      let x17_5 ← nilP (some ⟨G.p, 0, none⟩)
      let x19_6 ← ldL ((x17_5).add 0)
      M.pure (decide (n ≥ (x19_6.len : Int))))) >>= f).wp h Q := by
    intro f hf
    refine ite_b (fun hh => ?_) (fun hh => ?_)
    · have : n < 0 := of_decide_eq_true hh
      rw [decide_eq_true (show n < 0 ∨ (R.n : Int) ≤ n from .inl this)] at hf
      exact pure_b hf
    · have h0 : ¬ n < 0 := of_decide_eq_false hh
      refine assoc_b (nilP_b (assoc_b (ldL_b (n := ⟨some ⟨G.bs, 0, none⟩, R.n, G.ls⟩) (by rw [H.cell]; rfl) (pure_b ?_))))
      have : decide (n < 0 ∨ (R.n : Int) ≤ n) = decide (n ≥ ((⟨some ⟨G.bs, 0, none⟩, R.n, G.ls⟩ : Sl).len : Int)) := by
        show _ = decide ((R.n : Int) ≤ n)
        simp [h0]
      rw [← this]; exact hf
  refine hthere ?_
  by_cases hn : n < 0 ∨ (R.n : Int) ≤ n
  · have e : R.burst n o w = (R, 41) := by rw [Dk.burst, if_pos hn]
    rw [e] at hq
    exact iteT (by simpa using hn) (pure_w (hq _ G (Km.refl _ _) (fun i hi => .inl hi) rfl H))
  · refine ite_w (fun h => absurd (of_decide_eq_true h) hn) (fun _ => ?_)
    have hor : (M.ite (decide (o < 0)) (M.pure true) (M.pure (decide (o ≥ 1024))) : M Bool) = M.pure (decide (o < 0 ∨ 1024 ≤ o)) := by
      by_cases h0 : o < 0
      · simp [h0, M.ite]
      · simp [h0, M.ite]
    rw [hor]
    refine pure_b ?_
    by_cases ho : o < 0 ∨ 1024 ≤ o
    · have e : R.burst n o w = (R, 1) := by rw [Dk.burst, if_neg hn, if_pos ho]
      rw [e] at hq
      exact iteT (by simpa using ho) (pure_w (hq _ G (Km.refl _ _) (fun i hi => .inl hi) rfl H))
    · refine ite_w (fun h => absurd (of_decide_eq_true h) ho) (fun _ => ?_)
      have e : R.burst n o w = ({ R with s := put R.s n.toNat (burstL o.toNat w.toNat (min 32 (1024 - o.toNat)) (R.s n.toNat)) }, 0) := by rw [Dk.burst, if_neg hn, if_neg ho]
      rw [e] at hq
      obtain ⟨k, rfl⟩ : ∃ k : Nat, n = (k : Int) := ⟨n.toNat, by omega⟩
      obtain ⟨o, rfl⟩ : ∃ k : Nat, o = (k : Int) := ⟨o.toNat, by omega⟩
      obtain ⟨w, rfl⟩ : ∃ k : Nat, w = (k : Int) := ⟨w.toNat, by omega⟩
      have hk : k < R.n := by omega
      have ho' : o < 1024 := by omega
      have hwl : w < 4294967296 := by omega
      simp only [Int.toNat_natCast] at hq
      generalize hm : min 32 (1024 - o) = mm at hq
      have hm32 : mm ≤ 32 := by omega
      have hm1 : o + mm ≤ 1024 := by omega
      refine nilP_b (ldL_b (n := ⟨some ⟨G.bs, 0, none⟩, R.n, G.ls⟩) (by rw [H.cell]; rfl) ?_)
      refine ixL_b (by omega) (by show (k : Int) < (R.n : Int); omega) rfl ?_
      rw [add_mk, Nat.zero_add, show ((k : Int).toNat * 128) = k * 128 by omega]
      refine H.ldSec hk ?_
      have hlk := H.lens k
      refine mkZ (Ext.refl h) (fun h1 _ e1 s1 b1 => ?_)
      refine need_b (by rw [bcells_size, hlk]) ?_
      refine stB128 b1 rfl hlk (fun h2 u2 b2 => ?_)
      have hon : ∀ i, G.on i → i < h.size := fun i hi => H.lt hi
      have E2 : Ext h h2 := e1.upd u2 (Nat.le_refl _)
      refine M.loop_inv (fun (t' : Int) h' => ∃ j : Nat, j ≤ mm ∧ t' = (j : Int) ∧ Ext h h' ∧ BB h' h.size ty_api_Sector (burstL o w j (R.s k))) (fun t' _ => ((mm : Int) - t').toNat) ?_ ⟨0, by omega, rfl, E2, b2⟩
      rintro t' h' ⟨j, hj, rfl, E, hB⟩ self hself
      unfold rambleref04_Disk_Burst_l1
      have hl : (burstL o w j (R.s k)).length = 128 := by rw [burstL_length, hlk]
      have hcnd : ((M.ite (decide ((j : Int) < 32)) (M.pure (decide ((j : Int) < (IntKind.wrap .i64 (1024 - (o : Int)))))) (M.pure false)) : M Bool) = M.pure (decide (j < mm)) := by
        rw [w64 (by omega) (by omega)]
        by_cases h1 : (j : Int) < 32
        · rw [decide_eq_true h1]
          show M.pure _ = M.pure _
          congr 1
          rw [decide_eq_decide]; omega
        · rw [decide_eq_false h1]
          show M.pure _ = M.pure _
          congr 1
          symm
          rw [decide_eq_false_iff_not]; omega
      dsimp only
      rw [hcnd]
      refine pure_b (ite_w (fun hc => ?_) (fun hc => ?_))
      · have hlt : j < mm := of_decide_eq_true hc
        refine pShr_b (by omega) ?_
        rw [bit_mod hwl (by omega)]
        have ew : IntKind.wrap .i64 ((o : Int) + (j : Int)) = ((o + j : Nat) : Int) := by rw [w64 (by omega) (by omega)]; omega
        have e1 : IntKind.wrap .i64 ((j : Int) + 1) = ((j + 1 : Nat) : Int) := by rw [w64 (by omega) (by omega)]; rfl
        have em : Int.tmod (IntKind.wrap .i64 ((o : Int) + (j : Int))) 8 = (((o + j) % 8 : Nat) : Int) := by rw [ew, Int.tmod_eq_emod_of_nonneg (by omega)]; omega
        have ed : IntKind.wrap .i64 (Int.tdiv (IntKind.wrap .i64 ((o : Int) + (j : Int))) 8) = (((o + j) / 8 : Nat) : Int) := by rw [ew, Int.tdiv_eq_ediv_of_nonneg (by omega), w64 (by omega) (by omega)]; omega
        rw [em, ed]
        refine ite_w (fun hb => ?_) (fun hb => ?_)
        · refine ixA_b (by omega) (by omega) ?_
          rw [add_mk, Nat.zero_add, show ((((o + j) / 8 : Nat) : Int).toNat * 1) = (o + j) / 8 by omega]
          have hj8 : (o + j) / 8 < 128 := by omega
          refine pShl_b (by omega) ?_
          refine ldI_b (n := (((burstL o w j (R.s k)).getD ((o + j) / 8) 0).toNat : Int)) (by rw [hcell_blk hB, bcells_get, List.getD_eq_getElem?_getD, List.getElem?_eq_getElem (by omega)]; rfl) ?_
          refine ixA_b (by omega) (by omega) ?_
          rw [add_mk, Nat.zero_add, show ((((o + j) / 8 : Nat) : Int).toNat * 1) = (o + j) / 8 by omega, byte_flip (by omega)]
          refine stV_b (hB.cell (by omega)) (hB.frozen _) rfl ?_
          unfold rambleref04_Disk_Burst_j1
          rw [e1]
          refine hself _ _ ⟨j + 1, by omega, rfl, E.upd (Upd.hset _ _ _ _) (Nat.le_refl _), ?_⟩ (by omega)
          have es : (burstL o w j (R.s k)).set ((o + j) / 8) ((burstL o w j (R.s k)).getD ((o + j) / 8) 0 ^^^ UInt8.ofNat (2 ^ ((o + j) % 8))) = burstL o w (j + 1) (R.s k) := by
            simp only [burstL, hb, if_true, flip]
          rw [← es]
          exact hB.set _ _
        · unfold rambleref04_Disk_Burst_j1
          rw [e1]
          refine hself _ _ ⟨j + 1, by omega, rfl, E, ?_⟩ (by omega)
          have es : burstL o w (j + 1) (R.s k) = burstL o w j (R.s k) := by simp [burstL, hb]
          rw [es]
          exact hB
      · have : j = mm := by have := of_decide_eq_false hc; omega
        subst this
        have H3 := H.ext E
        refine nilP_b (ldL_b (n := ⟨some ⟨G.bs, 0, none⟩, R.n, G.ls⟩) (by rw [H3.cell]; rfl) ?_)
        refine secCopy (show SecAt h' G.bs R.n R.s from H3.sec) H.lens H.npos H.nlt (fun h4 b4 cap4 e4 S4 lb4 ub4 => ?_)
        have hB4 := hB.ext e4
        have H4 := H3.ext e4
        refine ldB128 hB4 hl ?_
        refine ixL_b (by omega) (by show (k : Int) < (R.n : Int); omega) rfl ?_
        rw [add_mk, Nat.zero_add, show ((k : Int).toNat * 128) = k * 128 by omega]
        refine need_b (by rw [bcells_size, hl]) ?_
        have hEs := E.size
        refine secSt S4 H.lens hk hl (fun h5 u5 S5 => ?_)
        have H5 := H4.upd u5 (fun ho => by have := hon _ ho; omega)
        have hpl : G.p < h.size := hon _ (.inl rfl)
        refine nilP_b (H5.stSecs (cap := cap4) S5 (put_len H.lens hl) (by omega) (fun h6 u6 H6 => ?_))
        refine pure_w (hq h6 { G with bs := b4, ls := cap4 } ⟨?_, fun i hi hn => ?_⟩ (fun i hi => ?_) rfl H6)
        · rw [u6.size, u5.size]; have := e4.size; omega
        · rw [u6.ne i hn, u5.ne i (by omega), e4.same i (by omega), E.same i hi]
        · rcases hi with hi | hi | hi | hi
          · exact .inl (.inl hi)
          · have hi' : i = b4 := hi; exact .inr (by omega)
          · exact .inl (.inr (.inr (.inl hi)))
          · exact .inl (.inr (.inr (.inr hi)))
end
end Gx
