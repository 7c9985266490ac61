/- Own proofs: what those Lean programs compute. No condition. -/
import Derived.Test.YtklegajjmeajiaaHRef2
namespace Gx
open Go
set_option linter.unusedVariables false
set_option linter.unusedSimpArgs false
theorem Gw.mono {lo lo' : Nat} {h : Heap} {r : Sl} {sz : Nat} {vs : List Value} (H : Gw lo h r sz vs) (hl : lo' ≤ lo) : Gw lo' h r sz vs := by
  rcases H with H | ⟨b, ty, cells, H⟩
  · exact .inl H
  · exact .inr ⟨b, ty, cells, H.base, Nat.le_trans hl H.lo, H.blk, H.size, H.cap, H.len, H.get⟩
def zC : Array Value := #[.int .i64 0] ++ Array.replicate 128 (.int .u8 0)
theorem zC_size : zC.size = 129 := by simp [zC]
theorem fillC_b {β : Type} {h : Heap} {Q : β → Heap → Prop} {n : Int} {x : List UInt8} {f : Array Value → M β} (hl : x.length = 128) (H : (f (ccell (n, x)).toArray).wp h Q) : (fillG [(0, 1), (1, 128)] (#[.int .i64 0] ++ Array.replicate 128 (.int .u8 0) : Array Value) [(0, .int .i64 n), (1, .agg (bcells x))] >>= f).wp h Q := by
  refine ⟨(ccell (n, x)).toArray, ?_, H⟩
  show Instr.fill _ zC _ = _
  have hs : (Value.agg (bcells x)).cells.size = 128 := by show (bcells x).size = 128; rw [bcells_size, hl]
  rw [fill_cons (off := 0) (size := 1) (v := .int .i64 n) (by rfl) (by rfl) (by rw [zC_size]; omega)]
  rw [fill_cons (off := 1) (size := 128) (v := .agg (bcells x)) (by rfl) hs (by rw [lay_size, zC_size]; omega)]
  show some _ = some _
  congr 1
  apply Array.ext'
  have h1 : (Value.agg (bcells x)).cells.toList.length = 128 := by rw [Array.length_toList, hs]
  rw [lay_toList _ _ _ (by rw [lay_size, zC_size, h1]; omega)]
  have h2 : (lay zC 0 (Value.int IntKind.i64 n).cells.toList).toList = .int .i64 n :: List.replicate 128 (.int .u8 0) := by
    rw [lay_toList _ _ _ (by rw [zC_size]; show 0 + 1 ≤ 129; omega)]
    simp [zC, Value.cells]
  rw [h2, h1]
  have h3 : (Value.agg (bcells x)).cells.toList = x.map bv := rfl
  rw [h3]
  simp [ccell]
theorem one_ccell (p : Int × List UInt8) : ∀ v ∈ ccell p, one v = true := by
  intro v hv
  rw [ccell, List.mem_cons] at hv
  rcases hv with rfl | hv
  · rfl
  · obtain ⟨b, _, rfl⟩ := List.mem_map.1 hv
    rfl
/-- an entry is appended -/
theorem ap_one {β : Type} {lo : Nat} {h : Heap} {Q : β → Heap → Prop} {r : Sl} {acc : List (Int × List UInt8)} {p : Int × List UInt8} {f : Sl → M β} (H : Gw lo h r 129 (acc.flatMap ccell)) (ha : ∀ q ∈ acc, q.2.length = 128) (hp : p.2.length = 128) (hc : acc.length ≤ 16385) (hlo : lo ≤ h.size)
    (hq : ∀ h' r', Gw lo h' r' 129 ((acc ++ [p]).flatMap ccell) → Km (fun i => lo ≤ i) h h' → (f r').wp h' Q) :
    (bdL ty_rambleref04_Cached 1 (ccell p).toArray >>= fun x => apL ty_rambleref04_Cached 129 136 (#[.int .i64 0] ++ Array.replicate 128 (.int .u8 0) : Array Value) r x >>= f).wp h Q := by
  refine bdL_b ?_
  have e1 := Ext.push h (.cells (ccell p).toArray ty_rambleref04_Cached)
  have g1 : (h.push (.cells (ccell p).toArray ty_rambleref04_Cached))[h.size]? = some (.cells (ccell p).toArray ty_rambleref04_Cached (0, 0)) := get_push_eq
  generalize h.push (.cells (ccell p).toArray ty_rambleref04_Cached) = h1 at e1 g1 ⊢
  have H1 : Gw lo h1 r 129 (acc.flatMap ccell) := H.same (fun i hi => e1.same i (H.lt hi).1)
  have hrl : r.len = acc.length := by
    have := H.len
    rw [flat_len' (w := 129) _ (fun q hq => ccell_len (ha q hq))] at this
    omega
  refine bind_w (ap_grow (news := ccell p) zC_size H1 (by rw [ccell_len hp]; rfl) (.inr ⟨_, rfl, fun j v hj => ?_⟩) (one_ccell p) (by rw [hrl]; show (acc.length + 1) * 136 ≤ _; omega) (by rw [hrl]; show acc.length + 1 ≤ _; omega) (Nat.le_trans hlo e1.size) (fun h2 r' H2 _ hs hk hb => ?_))
  · rw [add_mk, Nat.zero_add, hcell_blk g1]
    simpa using hj
  · refine hq h2 r' ?_ ⟨Nat.le_trans e1.size hs, fun i hi hn => ?_⟩
    · rw [List.flatMap_append]
      simpa using H2
    · have hi1 : ¬ Sl.on r i := fun ho => hn (H.lt ho).2
      rw [hk i (Nat.lt_of_lt_of_le hi e1.size) hi1]
      exact e1.same i hi
theorem rgo_len {n : Int} {x : List UInt8} : ∀ (l : List (Int × List UInt8)) (d : Bool), (rgo n x d l).length ≤ l.length + (if d then 0 else 1)
  | [], d => by cases d <;> simp [rgo]
  | q :: l, d => by
    have ih := rgo_len (n := n) (x := x) l (d || (!d && decide (q.1 ≥ n)))
    unfold rgo
    rw [List.length_append, List.length_append, List.length_cons]
    have h1 : (if (q.1 != n) = true then [q] else []).length ≤ 1 := by split <;> simp
    generalize (if (q.1 != n) = true then [q] else []).length = L at h1 ⊢
    cases d
    · by_cases hge : q.1 ≥ n
      · simp [hge] at ih ⊢; omega
      · simp [hge] at ih ⊢; omega
    · simp at ih ⊢; omega
section
variable {h : Heap} {G : Rp} {R : Dk}
theorem rwrite_spec {Q : Int → Heap → Prop} {x2 : Array Value} {n : Int} {x : List UInt8} (H : RkAt h G R) (hx : x2 = bcells x) (hl : x.length = 128)
    (hq : ∀ h' G', Km (fun i => i = G.p) h h' → (∀ i, G'.on i → G.on i ∨ h.size ≤ i) → G'.p = G.p → RkAt h' G' (R.rwrite n x).1 → Q (R.rwrite n x).2 h') : (rambleref04_Disk_Write (some ⟨G.p, 0, none⟩) n x2).wp h Q := by
  subst hx
  unfold rambleref04_Disk_Write
  refine mkB_b ?_
  have e1 : Ext h (h.push (.cells (bcells x) ty_api_Sector)) := Ext.push _ _
  have b1 : BB (h.push (.cells (bcells x) ty_api_Sector)) h.size ty_api_Sector x := get_push_eq
  have hnG : ¬ G.on h.size := fun ho => by have := H.lt ho; omega
  have H1 := H.ext e1
  generalize h.push (Obj.cells (bcells x) ty_api_Sector) = h1 at e1 b1 H1 ⊢
  refine bind_w (rmay_spec H1 ?_)
  cases hw : R.away with
  | true =>
    have e : R.rwrite n x = (R, 9) := by rw [Dk.rwrite, if_pos hw]
    rw [e] at hq
    exact iteT rfl (pure_w (hq _ G (Km.ext e1) (fun i hi => .inl hi) rfl H1))
  | false =>
    by_cases hn : n < 0 ∨ (R.n : Int) ≤ n
    · have e : R.rwrite n x = (R, 41) := by rw [Dk.rwrite, hw, if_neg (by decide), if_pos hn]
      rw [e] at hq
      rw [if_neg (by decide), if_pos hn]
      exact iteT rfl (pure_w (hq _ G (Km.ext e1) (fun i hi => .inl hi) rfl H1))
    · rw [if_neg (by decide), if_neg hn]
      refine ite_w (fun h => by cases h) (fun _ => ?_)
      refine bind_w (rcall_spec H1 (fun h2 u2 H2 => ?_))
      have hu : Km (fun i => i = G.p) h h2 := (Km.ext e1).trans (Km.upd u2 rfl)
      obtain ⟨q1, q2, q3, q4⟩ := call_eq R
      by_cases hc : R.call.2 = 0
      · have e : R.rwrite n x = ({ R.call.1 with c := rgo n x false R.c }, 0) := by rw [Dk.rwrite, hw, if_neg (by decide), if_neg hn, if_neg (by simp [hc])]
        rw [e] at hq
        refine ite_w (fun h => by rw [hc] at h; cases h) (fun _ => ?_)
        have b2 : BB h2 h.size ty_api_Sector x := b1.upd u2 (fun e => hnG (.inl e))
        rw [← q4] at hq
        have hn0 : 0 ≤ n ∧ n < (R.call.1.n : Int) := by rw [q1]; omega
        generalize R.call.1 = R1 at H2 hq hn0
        have hcl := H2.cl
        have hclt := H2.clt
        have hall : ∀ p ∈ rgo n x false R1.c, p.2.length = 128 ∧ 0 ≤ p.1 ∧ p.1 < R1.n := rgo_all (P := fun p => p.2.length = 128 ∧ 0 ≤ p.1 ∧ p.1 < R1.n) ⟨hl, hn0.1, hn0.2⟩ R1.c false H2.clen
        have hlen := rgo_len (n := n) (x := x) R1.c false
        have hlt2 : ∀ i, G.on i → i < h2.size := fun i hi => H2.lt hi
        have hltb : h.size < h2.size := blk_lt b2
        refine M.loop_inv (fun (t' : Sl × Bool × Int) h' => ∃ (i : Nat) (acc : List (Int × List UInt8)), i ≤ R1.c.length ∧ t'.2.2 = (i : Int) ∧ Km (fun i => h2.size ≤ i) h2 h' ∧ Gw h2.size h' t'.1 129 (acc.flatMap ccell) ∧ acc ++ rgo n x t'.2.1 (R1.c.drop i) = rgo n x false R1.c)
          (fun t' _ => ((R1.c.length : Int) - t'.2.2).toNat) ?_ ⟨0, [], by omega, rfl, Km.refl _ _, Gw.nil _ _ _, by simp⟩
        rintro ⟨r8, d, t⟩ h' ⟨i, acc, hi, ht, K, Hg, hacc⟩ self hself
        have ht' : t = (i : Int) := ht
        subst ht'
        have Hg' : Gw h2.size h' r8 129 (acc.flatMap ccell) := Hg
        have hacc' : acc ++ rgo n x d (R1.c.drop i) = rgo n x false R1.c := hacc
        clear Hg hacc ht
        have H3 : RkAt h' G R1 := H2.km K (fun i hi => by have := hlt2 i hi; omega)
        have b3 : BB h' h.size ty_api_Sector x := K.blk b2 (by omega)
        have hmem : ∀ q ∈ acc, q ∈ rgo n x false R1.c := fun q hq => by rw [← hacc']; simp [hq]
        have hal : acc.length ≤ R1.c.length + 1 := by
          have := congrArg List.length hacc'
          rw [List.length_append] at this
          simp at hlen
          omega
        have last : ∀ {r : Sl} {hh : Heap}, Km (fun i => h2.size ≤ i) h2 hh → Gw h2.size hh r 129 ((rgo n x false R1.c).flatMap ccell) → (rambleref04_Disk_Write_j3 (some ⟨G.p, 0, none⟩) r).wp hh Q := by
          intro r hh K' Hr
          have H4 : RkAt hh G R1 := H2.km K' (fun i hi => by have := hlt2 i hi; omega)
          unfold rambleref04_Disk_Write_j3
          refine nilP_b (stV_b (x := G.c.v) (by rw [H4.cell]; rfl) (by rw [add_mk, hfrozen_blk H4.blk]) rfl ?_)
          rw [add_mk]
          have u := Upd.hset hh G.p (0 + 2) r.v
          have hpl : G.p < h2.size := hlt2 _ (.inl rfl)
          have hon : ∀ i, Sl.on r i → h2.size ≤ i := fun i hi => (Hr.lt hi).2
          refine pure_w (hq _ { G with c := r } (hu.trans ⟨?_, ?_⟩) ?_ rfl ?_)
          · rw [u.size]; exact K'.size
          · intro j hj hjn
            rw [u.ne j hjn]
            exact K'.same j hj (by omega)
          · rintro j (hj | hj | hj | hj)
            · exact .inl (.inl hj)
            · exact .inl (.inr (.inl hj))
            · exact .inl (.inr (.inr (.inl hj)))
            · have := hon j hj
              have := hu.size
              exact .inr (by omega)
          · obtain ⟨c1, t1, g1, g1'⟩ := H4.sec
            obtain ⟨c2, t2, g2, g2'⟩ := H4.tor
            obtain ⟨n1, n2, n3⟩ := H4.ne
            refine ⟨?_, ⟨c1, t1, (u.ne _ n1.symm).trans g1, g1'⟩, ⟨c2, t2, (u.ne _ n2.symm).trans g2, g2'⟩, (Hr.mono (Nat.zero_le _)).same (fun i hi => u.ne i (fun e => ?_)), H4.lens, H4.npos, H4.nlt, hall, rgo_nodup _ _ H4.keys, ⟨n1, n2, fun ho => ?_⟩, H4.fz⟩
            · show (Gx.hset hh ⟨G.p, 0 + 2, none⟩ r.v)[G.p]? = _
              rw [hset_at H4.blk]; rfl
            · have := hon i hi; omega
            · have := hon _ ho; show False; have e : ({ G with c := r } : Rp).p = G.p := rfl; omega
        have two : ∀ {r : Sl} {hh : Heap} {d' : Bool} {a : List (Int × List UInt8)} (hlt : i < R1.c.length), Km (fun i => h2.size ≤ i) h2 hh → Gw h2.size hh r 129 (a.flatMap ccell) → (∀ q ∈ a, q ∈ rgo n x false R1.c) → a.length ≤ 16385 →
            a ++ ((if (R1.c[i]).1 != n then [R1.c[i]] else []) ++ rgo n x d' (R1.c.drop (i + 1))) = rgo n x false R1.c → (rambleref04_Disk_Write_j2 self (some ⟨G.p, 0, none⟩) n (i : Int) r d').wp hh Q := by
          intro r hh d' a hlt K' Hr hma hla ha
          have H4 : RkAt hh G R1 := H2.km K' (fun i hi => by have := hlt2 i hi; omega)
          have hgi : R1.c[i]? = some R1.c[i] := List.getElem?_eq_getElem hlt
          obtain ⟨b, hb, hk0, hkj⟩ := H4.key hgi
          have hp := H4.clen _ (List.mem_of_getElem? hgi)
          unfold rambleref04_Disk_Write_j2
          refine nilP_b (ldL_b (n := G.c) (by rw [H4.cell]; rfl) ?_)
          refine ixL_b (by omega) (by rw [hcl]; omega) hb ?_
          rw [show ((i : Int).toNat * 129) = i * 129 by omega, add_mk, add_mk, Nat.zero_add]
          refine ldI_b (n := (R1.c[i]).1) (by rw [Nat.add_zero]; exact hk0) ?_
          have e1 : IntKind.wrap .i64 ((i : Int) + 1) = ((i + 1 : Nat) : Int) := by rw [w64 (by omega) (by omega)]; rfl
          refine ite_w (fun he => ?_) (fun he => ?_)
          · rw [if_pos he] at ha
            refine nilP_b (ldL_b (n := G.c) (by rw [H4.cell]; rfl) ?_)
            refine ixL_b (by omega) (by rw [hcl]; omega) hb ?_
            rw [show ((i : Int).toNat * 129) = i * 129 by omega, add_mk, Nat.zero_add]
            refine ldG_b (cs := (ccell R1.c[i]).toArray) (by simpa using ccell_len hp.1) (fun j hj => ?_) ?_
            · rw [add_mk]
              cases j with
              | zero => rw [Nat.add_zero, hk0]; rfl
              | succ j =>
                rw [Nat.add_comm j 1, hkj j (by omega)]
                simp [ccell, Nat.add_comm 1 j]
            · refine fillL1_b (by simpa using ccell_len hp.1) ?_
              refine ap_one Hr (fun q hq => (hall q (hma q hq)).1) hp.1 hla K'.size (fun h5 r5 H5 K5 => ?_)
              unfold rambleref04_Disk_Write_j1
              rw [e1]
              refine hself _ _ ⟨i + 1, a ++ [R1.c[i]], by omega, rfl, K'.trans ⟨K5.size, fun j hj hn => K5.same j hj hn⟩, H5, ?_⟩ (by show ((R1.c.length : Int) - ((i + 1 : Nat) : Int)).toNat < ((R1.c.length : Int) - (i : Int)).toNat; omega)
              show (a ++ [R1.c[i]]) ++ rgo n x d' _ = _
              rw [← ha]; simp
          · have he' : ¬ ((R1.c[i]).1 != n) = true := by rw [he]; decide
            rw [if_neg he'] at ha
            unfold rambleref04_Disk_Write_j1
            rw [e1]
            refine hself _ _ ⟨i + 1, a, by omega, rfl, K', Hr, ?_⟩ (by show ((R1.c.length : Int) - ((i + 1 : Nat) : Int)).toNat < ((R1.c.length : Int) - (i : Int)).toNat; omega)
            show a ++ rgo n x d' _ = _
            rw [← ha]; simp
        unfold rambleref04_Disk_Write_l1
        refine nilP_b (ldL_b (n := G.c) (by rw [H3.cell]; rfl) ?_)
        rw [hcl]
        refine ite_w (fun hci => ?_) (fun hci => ?_)
        · have hlt : i < R1.c.length := by have := of_decide_eq_true hci; omega
          have hdrop : R1.c.drop i = R1.c[i] :: R1.c.drop (i + 1) := List.drop_eq_getElem_cons hlt
          have hgi : R1.c[i]? = some R1.c[i] := List.getElem?_eq_getElem hlt
          obtain ⟨b, hb, hk0, hkj⟩ := H3.key hgi
          have hunf : rgo n x d (R1.c.drop i) = (if (!d && decide ((R1.c[i]).1 ≥ n)) then [(n, x)] else []) ++ ((if (R1.c[i]).1 != n then [R1.c[i]] else []) ++ rgo n x (d || (!d && decide ((R1.c[i]).1 ≥ n))) (R1.c.drop (i + 1))) := by
            rw [hdrop]; rfl
          rw [hunf] at hacc'
          have hcond : ∀ {f : Bool → M Int}, (f (!d && decide ((R1.c[i]).1 ≥ n))).wp h' Q → ((M.ite (!d) (do
              let x33_53 ← nilP (some ⟨G.p, 0, none⟩)
              let x35_54 ← ldL ((x33_53).add 2)
              let x37_55 ← ixL x35_54 (i : Int) 129
              let x39_56 ← ldI .i64 ((x37_55).add 0)
              M.pure (decide (x39_56 ≥ n))
              ) (M.pure false)) >>= f).wp h' Q := by
            intro f hf
            cases d with
            | true => exact hf
            | false =>
              show ((nilP (some ⟨G.p, 0, none⟩) >>= fun x33_53 => (ldL ((x33_53).add 2) >>= fun x35_54 => (ixL x35_54 (i : Int) 129 >>= fun x37_55 => (ldI .i64 ((x37_55).add 0) >>= fun x39_56 => M.pure (decide (x39_56 ≥ n)))))) >>= f).wp h' Q
              refine assoc_b (nilP_b (assoc_b (ldL_b (n := G.c) (by rw [H3.cell]; rfl) (assoc_b ?_))))
              refine ixL_b (by omega) (by rw [hcl]; omega) hb ?_
              rw [show ((i : Int).toNat * 129) = i * 129 by omega, add_mk, add_mk, Nat.zero_add]
              refine assoc_b (ldI_b (n := (R1.c[i]).1) (by rw [Nat.add_zero]; exact hk0) (pure_b ?_))
              exact hf
          refine hcond ?_
          refine ite_w (fun hg => ?_) (fun hg => ?_)
          · rw [if_pos hg, hg, Bool.or_true] at hacc'
            refine ldB128 b3 hl (fillC_b hl ?_)
            refine fillL1_b (by simpa using ccell_len (p := (n, x)) hl) ?_
            refine ap_one Hg' (fun q hq => (hall q (hmem q hq)).1) hl (by omega) K.size (fun h5 r5 H5 K5 => ?_)
            refine two hlt (K.trans ⟨K5.size, fun j hj hn => K5.same j hj hn⟩) H5 (fun q hq => ?_) ?_ (by rw [← hacc']; simp)
            · rw [← hacc', List.mem_append, List.mem_append]
              rw [List.mem_append] at hq
              rcases hq with hq | hq
              · exact .inl hq
              · exact .inr (.inl hq)
            · have := congrArg List.length hacc'
              simp at this hlen ⊢
              omega
          · have hg' : ¬ (!d && decide ((R1.c[i]).1 ≥ n)) = true := by rw [hg]; decide
            rw [if_neg hg', hg, Bool.or_false, List.nil_append] at hacc'
            exact two hlt K Hg' hmem (by omega) hacc'
        · have : i = R1.c.length := by have := of_decide_eq_false hci; omega
          subst this
          rw [List.drop_length] at hacc'
          cases d with
          | true =>
            have : acc = rgo n x false R1.c := by rw [← hacc']; simp [rgo]
            rw [this] at Hg'
            exact last K Hg'
          | false =>
            refine ite_w (fun _ => ?_) (fun h => by cases h)
            refine ldB128 b3 hl (fillC_b hl ?_)
            refine fillL1_b (by simpa using ccell_len (p := (n, x)) hl) ?_
            refine ap_one Hg' (fun q hq => (hall q (hmem q hq)).1) hl (by omega) K.size (fun h5 r5 H5 K5 => ?_)
            have : acc ++ [(n, x)] = rgo n x false R1.c := by rw [← hacc']; simp [rgo]
            rw [this] at H5
            exact last (K.trans ⟨K5.size, fun j hj hn => K5.same j hj hn⟩) H5
      · have e : R.rwrite n x = (R.call.1, 9) := by rw [Dk.rwrite, hw, if_neg (by decide), if_neg hn, if_pos hc]
        rw [e] at hq
        exact iteT (by simpa using hc) (pure_w (hq _ G hu (fun i hi => .inl hi) rfl H2))
end
end Gx
