/- Own proofs: what those Lean programs compute. No condition. -/
import Derived.Test.YtklegajjmeajiaaHRef
namespace Gx
open Go
set_option linter.unusedVariables false
set_option linter.unusedSimpArgs false
section
variable {h : Heap} {G : Rp} {R : Dk}
/-- a cached entry's cells -/
theorem RkAt.key (H : RkAt h G R) {i : Nat} {p : Int × List UInt8} (hi : R.c[i]? = some p) : ∃ b, G.c.base = some ⟨b, 0, none⟩ ∧ hcell h ⟨b, i * 129, none⟩ = some (.int .i64 p.1) ∧ ∀ j, j < 128 → hcell h ⟨b, i * 129 + (1 + j), none⟩ = p.2[j]?.map bv := by
  have hw : ∀ x ∈ R.c, (ccell x).length = 129 := fun x hx => ccell_len (H.clen x hx).1
  have hp := H.clen p (List.mem_of_getElem? hi)
  have h0 := flat_get' R.c hw i 0 (by omega)
  rw [hi] at h0
  obtain ⟨b, hb, hc⟩ := H.cac.cell (v := .int .i64 p.1) (j := i * 129 + 0) (by rw [h0]; rfl)
  refine ⟨b, hb, hc, fun j hj => ?_⟩
  have h1 := flat_get' R.c hw i (1 + j) (by omega)
  rw [hi] at h1
  have e : (ccell p)[1 + j]? = p.2[j]?.map bv := by
    rw [ccell, Nat.add_comm, List.getElem?_cons_succ, List.getElem?_map]
  have hj' : p.2[j]? = some (p.2[j]'(by omega)) := List.getElem?_eq_getElem (by omega)
  obtain ⟨b', hb', hc'⟩ := H.cac.cell (v := bv (p.2[j]'(by omega))) (j := i * 129 + (1 + j)) (by rw [h1]; show (ccell p)[1 + j]? = _; rw [e, hj']; rfl)
  rw [hb] at hb'
  cases hb'
  rw [hc', hj']; rfl
theorem RkAt.ldSec {β : Type} {Q : β → Heap → Prop} {k : Nat} {f : Array Value → M β} (H : RkAt h G R) (hk : k < R.n) (hq : (f (bcells (R.s k))).wp h Q) : (ldG 128 ⟨G.bs, k * 128, none⟩ >>= f).wp h Q := by
  obtain ⟨c1, t1, h1, h1'⟩ := H.sec
  refine ldG_b (by rw [bcells_size, H.lens]) (fun i hi => ?_) hq
  rw [add_mk, hcell_blk h1, h1' k hk i hi, bcells_get]
theorem mlk_none {l : List (Int × List UInt8)} {k : Int} (h : ∀ p ∈ l, p.1 ≠ k) : mlk k l = none := by
  unfold mlk
  have : l.find? (fun p => decide (p.1 = k)) = none := by
    rw [List.find?_eq_none]
    intro p hp
    simpa using h p hp
  rw [this]; rfl
theorem rread_spec {Q : Array Value × Int → Heap → Prop} {n : Int} (H : RkAt h G R) (hq : ∀ h', Ext h h' → Q (bcells (R.read n).1, (R.read n).2) h') : (rambleref04_Disk_Read (some ⟨G.p, 0, none⟩) n).wp h Q := by
  unfold rambleref04_Disk_Read
  refine mkZ (Ext.refl h) (fun h1 _ e1 s1 b1 => ?_)
  have H1 := H.ext e1
  have fin : ∀ {l : List UInt8} {e : Int}, l.length = 128 → R.read n = (l, e) →
      ((do
        M.need ((bcells l).size = 128)
        stG ⟨h.size, 0, none⟩ (bcells l)
        let r4_9 ← ldG 128 ⟨h.size, 0, none⟩
        M.pure (r4_9, e)) : M (Array Value × Int)).wp h1 Q := by
    intro l e hl hr
    refine need_b (by rw [bcells_size, hl]) ?_
    refine stB128 b1 rfl hl (fun h3 u3 b3 => ?_)
    refine ldB128 b3 hl (pure_w ?_)
    have := hq h3 (e1.upd u3 (Nat.le_refl _))
    rw [hr] at this
    exact this
  have zfin : ∀ {e : Int}, R.read n = (zeros, e) →
      ((do
        M.need ((Array.replicate 128 (.int .u8 0) : Array Value).size = 128)
        stG ⟨h.size, 0, none⟩ (Array.replicate 128 (.int .u8 0) : Array Value)
        let r4_9 ← ldG 128 ⟨h.size, 0, none⟩
        M.pure (r4_9, e)) : M (Array Value × Int)).wp h1 Q := by
    intro e hr
    rw [zeros_cells]
    exact fin rfl hr
  refine bind_w (rmay_spec H1 ?_)
  cases hw : R.away with
  | true => exact iteT rfl (zfin (by simp [Dk.read, hw]))
  | false =>
    by_cases hn : n < 0 ∨ (R.n : Int) ≤ n
    · rw [if_neg (by decide), if_pos hn]
      exact iteT rfl (zfin (by rw [Dk.read, hw, if_neg (by decide), if_pos hn]))
    · rw [if_neg (by decide), if_neg hn]
      refine ite_w (fun h => by cases h) (fun _ => ?_)
      obtain ⟨k, rfl⟩ : ∃ k : Nat, n = (k : Int) := ⟨n.toNat, by omega⟩
      have hk : k < R.n := by omega
      have hr : R.read (k : Int) = match mlk (k : Int) R.c with | some v => (v, 0) | none => if R.t k then (zeros, 40) else (R.s k, 0) := by
        rw [Dk.read, hw, if_neg (by decide), if_neg hn]
        rfl
      have hcl := H1.cl
      have hclt := H1.clt
      refine M.loop_inv (fun (t' : Int) h' => h' = h1 ∧ ∃ i : Nat, i ≤ R.c.length ∧ t' = (i : Int) ∧ ∀ j, j < i → ∀ p, R.c[j]? = some p → p.1 ≠ (k : Int)) (fun t' _ => ((R.c.length : Int) - t').toNat) ?_ ⟨rfl, 0, by omega, rfl, fun j hj => by omega⟩
      rintro t' h' ⟨rfl, i, hi, rfl, hno⟩ self hself
      unfold rambleref04_Disk_Read_l1
      refine nilP_b (ldL_b (n := G.c) (by rw [H1.cell]; rfl) ?_)
      rw [hcl]
      refine ite_w (fun hc => ?_) (fun hc => ?_)
      · have hlt : i < R.c.length := by have := of_decide_eq_true hc; omega
        have hgi : R.c[i]? = some R.c[i] := List.getElem?_eq_getElem hlt
        obtain ⟨b, hb, hk0, hkj⟩ := H1.key hgi
        refine nilP_b (ldL_b (n := G.c) (by rw [H1.cell]; rfl) ?_)
        refine ixL_b (by omega) (by rw [hcl]; omega) hb ?_
        rw [show ((i : Int).toNat * 129) = i * 129 by omega, add_mk, add_mk, Nat.zero_add]
        refine ldI_b (n := (R.c[i]).1) (by rw [Nat.add_zero]; exact hk0) ?_
        refine ite_w (fun he => ?_) (fun he => ?_)
        · have he' : (R.c[i]).1 = (k : Int) := by simpa using he
          have hm : mlk (k : Int) R.c = some (R.c[i]).2 := mlk_of H1.keys (by rw [hgi, ← he'])
          rw [hm] at hr
          have hl := (H.clen _ (List.mem_of_getElem? hgi)).1
          refine nilP_b (ldL_b (n := G.c) (by rw [H1.cell]; rfl) ?_)
          refine ixL_b (by omega) (by rw [hcl]; omega) hb ?_
          rw [show ((i : Int).toNat * 129) = i * 129 by omega, add_mk, add_mk, Nat.zero_add]
          refine ldG_b (cs := bcells (R.c[i]).2) (by rw [bcells_size, hl]) (fun j hj => ?_) (fin hl hr)
          rw [add_mk, Nat.add_assoc, hkj j hj, bcells_get]
        · have he' : ¬ (R.c[i]).1 = (k : Int) := by simpa using he
          rw [w64 (by omega) (by omega)]
          refine hself _ _ ⟨rfl, i + 1, by omega, rfl, fun j hj p hp => ?_⟩ (by omega)
          by_cases hji : j = i
          · subst hji; rw [hgi] at hp; cases hp; exact he'
          · exact hno j (by omega) p hp
      · have : i = R.c.length := by have := of_decide_eq_false hc; omega
        subst this
        have hm : mlk (k : Int) R.c = none := mlk_none (fun p hp => by
          obtain ⟨j, hj⟩ := List.mem_iff_getElem?.1 hp
          exact hno j (List.getElem?_eq_some_iff.1 hj).1 p hj)
        rw [hm] at hr
        refine nilP_b (ldL_b (n := ⟨some ⟨G.bt, 0, none⟩, R.n, G.lt⟩) (by rw [H1.cell]; rfl) ?_)
        refine ixL_b (by omega) (by show (k : Int) < (R.n : Int); omega) rfl ?_
        rw [add_mk, Nat.zero_add, show ((k : Int).toNat * 1) = k by omega]
        obtain ⟨c2, t2, h2', h2''⟩ := H1.tor
        refine ldB_b (n := R.t k) (by rw [hcell_blk h2', h2'' k hk]) ?_
        refine ite_w (fun ht => ?_) (fun ht => ?_)
        · rw [ht] at hr
          exact zfin hr
        · rw [ht] at hr
          refine nilP_b (ldL_b (n := ⟨some ⟨G.bs, 0, none⟩, R.n, G.ls⟩) (by rw [H1.cell]; rfl) ?_)
          refine ixL_b (by omega) (by show (k : Int) < (R.n : Int); omega) rfl ?_
          rw [add_mk, Nat.zero_add, show ((k : Int).toNat * 128) = k * 128 by omega]
          exact H1.ldSec hk (fin (H.lens k) hr)
/-! ### Write -/
def rgo (n : Int) (x : List UInt8) : Bool → List (Int × List UInt8) → List (Int × List UInt8)
  | done, [] => if done then [] else [(n, x)]
  | done, p :: l => (if !done && decide (p.1 ≥ n) then [(n, x)] else []) ++ ((if p.1 != n then [p] else []) ++ rgo n x (done || (!done && decide (p.1 ≥ n))) l)
def Dk.rwrite (D : Dk) (n : Int) (x : List UInt8) : Dk × Int := if D.away then (D, 9) else if n < 0 ∨ (D.n : Int) ≤ n then (D, 41) else if D.call.2 ≠ 0 then (D.call.1, 9) else ({ D.call.1 with c := rgo n x false D.c }, 0)
theorem rgo_all {n : Int} {x : List UInt8} {P : Int × List UInt8 → Prop} (hx : P (n, x)) : ∀ (l : List (Int × List UInt8)) (d : Bool), (∀ p ∈ l, P p) → ∀ p ∈ rgo n x d l, P p
  | [], d, _, p, hp => by
    unfold rgo at hp
    cases d <;> simp at hp
    subst hp; exact hx
  | q :: l, d, hl, p, hp => by
    unfold rgo at hp
    rw [List.mem_append, List.mem_append] at hp
    rcases hp with hp | hp | hp
    · split at hp
      · simp at hp; subst hp; exact hx
      · cases hp
    · split at hp
      · simp at hp; subst hp; exact hl _ (by simp)
      · cases hp
    · exact rgo_all hx l _ (fun p hp => hl p (by simp [hp])) p hp
theorem rgo_mem {n : Int} {x : List UInt8} : ∀ (l : List (Int × List UInt8)) (d : Bool) (k : Int), k ∈ (rgo n x d l).map Prod.fst → (k = n ∧ d = false) ∨ (k ≠ n ∧ k ∈ l.map Prod.fst)
  | [], d, k, h => by
    unfold rgo at h
    cases d <;> simp at h
    exact .inl ⟨h, rfl⟩
  | q :: l, d, k, h => by
    unfold rgo at h
    rw [List.map_append, List.map_append, List.mem_append, List.mem_append] at h
    rcases h with h | h | h
    · split at h
      · rename_i hc
        rw [Bool.and_eq_true] at hc
        simp at h
        exact .inl ⟨h, by simpa using hc.1⟩
      · simp at h
    · split at h
      · rename_i hc
        simp at h hc
        exact .inr ⟨by rw [h]; exact hc, by simp [h]⟩
      · simp at h
    · rcases rgo_mem l _ k h with ⟨h1, h2⟩ | ⟨h1, h2⟩
      · rw [Bool.or_eq_false_iff] at h2
        exact .inl ⟨h1, h2.1⟩
      · exact .inr ⟨h1, by simp at h2 ⊢; exact .inr h2⟩
theorem rgo_nodup {n : Int} {x : List UInt8} : ∀ (l : List (Int × List UInt8)) (d : Bool), (l.map Prod.fst).Nodup → ((rgo n x d l).map Prod.fst).Nodup
  | [], d, _ => by unfold rgo; cases d <;> simp
  | q :: l, d, hn => by
    rw [List.map_cons, List.nodup_cons] at hn
    have ih := rgo_nodup (n := n) (x := x) l (d || (!d && decide (q.1 ≥ n))) hn.2
    have hq : (((if q.1 != n then [q] else []) ++ rgo n x (d || (!d && decide (q.1 ≥ n))) l).map Prod.fst).Nodup := by
      split
      · rename_i hc
        simp only [List.singleton_append, List.map_cons, List.nodup_cons]
        refine ⟨fun hm => ?_, ih⟩
        rcases rgo_mem l _ _ hm with ⟨h1, _⟩ | ⟨_, h2⟩
        · simp [h1] at hc
        · exact hn.1 h2
      · exact ih
    unfold rgo
    split
    · rename_i hc
      simp only [List.singleton_append, List.map_cons, List.nodup_cons]
      refine ⟨fun hm => ?_, hq⟩
      rw [Bool.and_eq_true] at hc
      rw [List.map_append, List.mem_append] at hm
      rcases hm with hm | hm
      · split at hm
        · rename_i hc2
          simp at hm hc2
          exact hc2 hm.symm
        · simp at hm
      · rcases rgo_mem l _ _ hm with ⟨_, h2⟩ | ⟨h1, _⟩
        · rw [hc.2] at h2
          simp at h2
        · exact h1 rfl
    · exact hq
theorem rgo_lk {n : Int} {x : List UInt8} (k : Int) : ∀ (l : List (Int × List UInt8)) (d : Bool), mlk k (rgo n x d l) = if k = n then (if d then none else some x) else mlk k l
  | [], d => by
    unfold rgo
    cases d
    · by_cases h : k = n
      · subst h; simp [mlk]
      · have : ¬ n = k := fun e => h e.symm
        simp [mlk, h, this]
    · simp [mlk]
  | q :: l, d => by
    have ih := rgo_lk (n := n) (x := x) k l (d || (!d && decide (q.1 ≥ n)))
    have hap : ∀ (a b : List (Int × List UInt8)), mlk k (a ++ b) = (mlk k a).or (mlk k b) := fun a b => by
      unfold mlk
      rw [List.find?_append]
      cases a.find? _ <;> rfl
    unfold rgo
    rw [hap, hap, ih]
    have h1 : mlk k [(n, x)] = if k = n then some x else none := by
      by_cases h : k = n
      · subst h; simp [mlk]
      · have : ¬ n = k := fun e => h e.symm
        simp [mlk, h, this]
    have h2 : ∀ l : List (Int × List UInt8), mlk k (q :: l) = if q.1 = k then some q.2 else mlk k l := fun l => by
      by_cases h : q.1 = k <;> simp [mlk, h]
    have h0 : mlk k ([] : List (Int × List UInt8)) = none := rfl
    rw [h2]
    by_cases hkn : k = n
    · subst hkn
      cases d
      · by_cases hge : q.1 ≥ k
        · simp [hge, h1]
        · by_cases he : q.1 = k
          · exfalso; omega
          · simp [hge, he, h0, h2]
      · by_cases he : q.1 = k <;> simp [he, h0, h2]
    · have e1 : mlk k (if (!d && decide (q.1 ≥ n)) = true then [(n, x)] else []) = none := by
        split
        · rw [h1, if_neg hkn]
        · rfl
      rw [e1, if_neg hkn, if_neg hkn]
      by_cases he : q.1 = k
      · have : ¬ q.1 = n := fun e => hkn (by rw [← he, e])
        simp [he, this, h2, hkn]
      · have hkn' : ¬ n = k := fun e => hkn e.symm
        by_cases hn : q.1 = n <;> simp [he, hn, h0, h2, hkn, hkn']
end
end Gx
