/- Own proofs: what those Lean programs compute. No condition. -/
import Derived.Test.YtklegajjmeajiaaHDisk2
namespace Gx
open Go
set_option linter.unusedVariables false
set_option linter.unusedSimpArgs false
theorem ItR.same {h h' : Heap} {it m : Nat} {l : List (Int × List UInt8)} {es : Array MapEntry} {c : Nat} {js : List Nat} (H : ItR h it m kI dS l es c js) (e1 : h'[it]? = h[it]?) (e2 : h'[m]? = h[m]?) : ItR h' it m kI dS l es c js := by
  obtain ⟨since, seen, a, b, d⟩ := H.it
  exact ⟨H.map.ext e2, ⟨since, seen, e1.trans a, b, d⟩, H.nodup, H.lt⟩
section
variable {h : Heap} {F : Fp} {D : Dk}
/-- what the cache has of a sector stays -/
theorem dstay_spec {Q : Unit → Heap → Prop} {k : Nat} {v : List UInt8} (H : DkAt h F D) (hk : k < D.n) (hv : mlk (k : Int) D.c = some v) (hvl : v.length = 128) (hq : ∀ h', (∀ i, i ≠ F.bs → i ≠ F.bt → h'[i]? = h[i]?) → h'.size = h.size → DkAt h' F { D with s := put D.s k v, t := put D.t k false } → Q () h') : (disk_Disk_stay (some ⟨F.p, 0, none⟩) (k : Int)).wp h Q := by
  obtain ⟨cs, ct, hb⟩ := H.blk
  obtain ⟨es, c, hm⟩ := H.map
  unfold disk_Disk_stay
  refine nilP_b (nilP_b (ldL_b (n := ⟨some ⟨F.bs, 0, none⟩, D.n, cs⟩) (by rw [DkAt.cell hb]; rfl) (ldMp_b (n := some F.bm) (by rw [DkAt.cell hb]; rfl) ?_)))
  refine lkM_b (dec := dS) (g := bcells) (z' := (Array.replicate 128 (.int .u8 0) : Array Value)) keyI hm (fun _ => rfl) rfl ?_
  rw [hv]
  refine ixL_b (by omega) (by show (k : Int) < (D.n : Int); omega) rfl ?_
  refine need_b (by show (bcells v).size = 128; rw [bcells_size, hvl]) ?_
  rw [add_mk, Nat.zero_add, show ((k : Int).toNat * 128) = k * 128 by omega]
  refine H.stS hk hvl (fun h1 u1 H1 => ?_)
  obtain ⟨cs1, ct1, hb1⟩ := H1.blk
  refine nilP_b (ldL_b (n := ⟨some ⟨F.bt, 0, none⟩, D.n, ct1⟩) (by rw [DkAt.cell hb1]; rfl) ?_)
  refine ixL_b (by omega) (by show (k : Int) < (D.n : Int); omega) rfl ?_
  rw [add_mk, Nat.zero_add, show ((k : Int).toNat * 1) = k by omega]
  refine H1.stT hk (fun h2 u2 H2 => pure_w (hq h2 (fun i h1 h2 => ?_) (u2.size.trans u1.size) H2))
  exact (u2.ne i h2).trans (u1.ne i h1)
/-- what is left behind a flush -/
def Dk.kept (D : Dk) : Dk := { D with s := fun i => (mlk (i : Int) D.c).getD (D.s i), t := fun i => if (mlk (i : Int) D.c).isSome then false else D.t i, c := [] }
def Dk.flush (D : Dk) : Dk × Int := if D.away then (D, 9) else if D.call.2 ≠ 0 then (D.call.1, D.call.2) else (D.call.1.kept, 0)
theorem exB_b {β : Type} {h : Heap} {Q : β → Heap → Prop} {v : Value} {vs : Array Value} {i : Nat} {b : Bool} {f : Bool → M β} (hv : v = .tuple vs) (hi : vs[i]? = some (.bool b)) (H : (f b).wp h Q) : (exB v i >>= f).wp h Q := ⟨b, ⟨vs, hv, hi⟩, H⟩
theorem exI_b {β : Type} {h : Heap} {Q : β → Heap → Prop} {k : IntKind} {v : Value} {n : Int} {f : Int → M β} (hv : v = .int k n) (H : (f n).wp h Q) : (exI k v >>= f).wp h Q := ⟨n, hv, H⟩
theorem nodup_lt_len : ∀ (n : Nat) (l : List Nat), l.Nodup → (∀ x ∈ l, x < n) → l.length ≤ n
  | 0, l, _, h => by
    cases l with
    | nil => simp
    | cons x l => have := h x (by simp); omega
  | n + 1, l, hn, h => by
    have h1 := nodup_lt_len n (l.erase n) (hn.erase n) (fun x hx => by
      have h2 := h x (List.mem_of_mem_erase hx)
      have h3 : x ≠ n := fun e => by subst e; exact (List.Nodup.not_mem_erase hn) hx
      omega)
    have h2 : l.length ≤ (l.erase n).length + 1 := by
      rw [List.length_erase]; split <;> omega
    omega
theorem Kp.own {F : Fp} {h h' h'' : Heap} {b : Nat} (K : Kp F h h') (u : Upd b h' h'') (hb : h.size ≤ b) : Kp F h h'' :=
  ⟨by rw [u.size]; exact K.size, fun i hi hn => (u.ne i (by omega)).trans (K.same i hi hn)⟩
theorem ItR.seen {h : Heap} {it m : Nat} {l : List (Int × List UInt8)} {es : Array MapEntry} {c : Nat} {js : List Nat} (H : ItR h it m kI dS l es c js) : (match h[it]? with | some (.mapIter _ _ seen _) => l.length - seen.size | _ => 0) = l.length - js.length := by
  obtain ⟨since, seen, a, b, d⟩ := H.it
  have := congrArg List.length d
  simp only [a]
  simp only [Array.length_toList, List.length_map] at this
  rw [this]
theorem mlk_of {l : List (Int × List UInt8)} (hn : (l.map Prod.fst).Nodup) {j : Nat} {k : Int} {v : List UInt8} (hj : l[j]? = some (k, v)) : mlk k l = some v := by
  induction l generalizing j with
  | nil => cases hj
  | cons p l ih =>
    rw [List.map_cons, List.nodup_cons] at hn
    cases j with
    | zero =>
      cases hj
      simp [mlk]
    | succ j =>
      have hj' : l[j]? = some (k, v) := by simpa using hj
      have hne : ¬ p.1 = k := fun e => hn.1 (List.mem_map.2 ⟨(k, v), List.mem_of_getElem? hj', e.symm⟩)
      have := ih hn.2 hj'
      simpa [mlk, hne] using this
theorem mlk_some {l : List (Int × List UInt8)} {k : Int} {v : List UInt8} (h : mlk k l = some v) : ∃ j : Nat, l[j]? = some (k, v) := by
  unfold mlk at h
  cases hf : l.find? (fun p => decide (p.1 = k)) with
  | none => rw [hf] at h; cases h
  | some p =>
    rw [hf] at h
    cases h
    have h1 := List.find?_some hf
    have h2 := List.mem_of_find?_eq_some hf
    obtain ⟨j, hj⟩ := List.mem_iff_getElem?.1 h2
    have : p.1 = k := by simpa using h1
    subst this
    exact ⟨j, hj⟩
theorem dflush_spec {Q : Int → Heap → Prop} (H : DkAt h F D) (hq : ∀ h', Kp F h h' → DkAt h' F D.flush.1 → Q D.flush.2 h') : (disk_Disk_Flush (some ⟨F.p, 0, none⟩)).wp h Q := by
  unfold disk_Disk_Flush
  refine bind_w (dcan_spec H ?_)
  cases hw : D.away with
  | true =>
    have e : D.flush = (D, 9) := by rw [Dk.flush, if_pos hw]
    rw [e] at hq
    exact iteT rfl (pure_w (hq _ (Kp.refl F h) H))
  | false =>
    refine ite_w (fun h => by cases h) (fun _ => ?_)
    refine bind_w (dcall_spec H (fun h1 u1 H1 => ?_))
    have k1 : Kp F h h1 := Kp.upd u1 (.inl rfl)
    by_cases hc : D.call.2 = 0
    · have e : D.flush = (D.call.1.kept, 0) := by rw [Dk.flush, hw, if_neg (by decide), if_neg (by simp [hc])]
      rw [e] at hq
      refine ite_w (fun h => by rw [hc] at h; cases h) (fun _ => ?_)
      generalize D.call.1 = D1 at H1 hq
      obtain ⟨cs, ct, hb⟩ := H1.blk
      obtain ⟨es, c, hm⟩ := H1.map
      refine nilP_b (ldMp_b (n := some F.bm) (by rw [DkAt.cell hb]; rfl) (rgM_b hm (fun h2 e2 s2 I2 => ?_)))
      have k2 : Kp F h h2 := k1.trans (Kp.ext e2)
      have H2 := H1.ext e2
      have hnF : ¬ F.on h1.size := fun ho => by have := H1.lt ho; omega
      refine M.loop_inv (fun (_ : Unit) h' => ∃ js s' t', ItR h' h1.size F.bm kI dS D1.c es c js ∧ DkAt h' F { D1 with s := s', t := t' } ∧ Kp F h h' ∧ h.size ≤ h1.size ∧
        (∀ j ∈ js, ∀ (i : Nat) v, D1.c[j]? = some ((i : Int), v) → s' i = v ∧ t' i = false) ∧ (∀ i : Nat, (∀ j ∈ js, ∀ v, D1.c[j]? ≠ some ((i : Int), v)) → s' i = D1.s i ∧ t' i = D1.t i))
        (fun _ h' => match h'[h1.size]? with | some (.mapIter _ _ seen _) => D1.c.length - seen.size | _ => 0) ?_
        ⟨[], D1.s, D1.t, I2, H2, k2, by rw [u1.size]; exact Nat.le_refl _, by simp, fun i _ => ⟨rfl, rfl⟩⟩
      rintro ⟨⟩ h' ⟨js, s', t', I, Hd, K, hsz, hin, hout⟩ self hself
      unfold disk_Disk_Flush_l1
      have hitm : h1.size ≠ F.bm := fun e => hnF (e ▸ .inr (.inr (.inr rfl)))
      refine nxM_b hitm I (fun j p hj hnj h3 u3 I3 => ?_) (fun hall => ?_)
      · refine exB_b rfl (by rfl) ?_
        refine ite_w (fun _ => ?_) (fun hh => by cases hh)
        refine enM_b I3 hj ?_
        refine exI_b rfl ?_
        obtain ⟨hp1, hp2, hp3⟩ := Hd.clen p (List.mem_of_getElem? hj)
        have hp3' : p.1 < (D1.n : Int) := hp3
        have hcast : p.1 = ((p.1.toNat : Nat) : Int) := by omega
        have hjc : D1.c[j]? = some (((p.1.toNat : Nat) : Int), p.2) := by rw [← hcast]; exact hj
        have hlk : mlk ((p.1.toNat : Nat) : Int) D1.c = some p.2 := mlk_of hm.keys hjc
        have Hd3 := Hd.upd u3 hnF
        have goal : ∀ k : Int, k = p.1 → (disk_Disk_stay (some ⟨F.p, 0, none⟩) k >>= fun _ => self ()).wp h3 Q := by
          rintro k rfl
          rw [hcast]
          refine bind_w (dstay_spec Hd3 (by show p.1.toNat < D1.n; omega) hlk hp1 (fun h4 e4 s4 Hd4 => ?_))
          have hon : ∀ i, ¬ F.on i → h4[i]? = h3[i]? := fun i hi => e4 i (fun e => hi (.inr (.inl e))) (fun e => hi (.inr (.inr (.inl e))))
          have I4 := I3.same (hon _ hnF) (e4 _ (fun e => H1.ne.2.2.2.2.1 e.symm) (fun e => H1.ne.2.2.2.2.2 e.symm))
          refine hself () h4 ⟨js ++ [j], _, _, I4, Hd4, (K.own u3 hsz).trans ⟨by rw [s4]; exact Nat.le_refl _, fun i _ hi => hon i hi⟩, hsz, ?_, ?_⟩ ?_
          · intro j' hj' i v hv
            unfold put
            rw [List.mem_append] at hj'
            rcases hj' with hj' | hj'
            · by_cases hi : i = p.1.toNat
              · subst hi
                have : mlk ((p.1.toNat : Nat) : Int) D1.c = some v := mlk_of hm.keys hv
                rw [hlk] at this
                rw [if_pos rfl, if_pos rfl]
                exact ⟨Option.some.inj this, rfl⟩
              · rw [if_neg hi, if_neg hi]
                exact hin j' hj' i v hv
            · simp at hj'
              subst hj'
              rw [hjc] at hv
              simp only [Option.some.injEq, Prod.mk.injEq] at hv
              have : i = p.1.toNat := by omega
              rw [if_pos this, if_pos this]
              exact ⟨hv.2, rfl⟩
          · intro i hi
            unfold put
            have hne : i ≠ p.1.toNat := fun e => hi j (by simp) p.2 (by rw [e]; exact hjc)
            rw [if_neg hne, if_neg hne]
            exact hout i (fun j' hj' v => hi j' (by simp [hj']) v)
          · rw [I4.seen, I.seen, List.length_append]
            have := nodup_lt_len _ _ I4.nodup I4.lt
            rw [List.length_append] at this
            simp only [List.length_cons, List.length_nil] at this ⊢
            omega
        exact goal _ rfl
      · refine exB_b rfl (by rfl) ?_
        refine ite_w (fun hh => by cases hh) (fun _ => ?_)
        obtain ⟨cs', ct', hb'⟩ := Hd.blk
        refine nilP_b (ldMp_b (n := some F.bm) (by rw [DkAt.cell hb']; rfl) (clM_b I.map (fun h3 u3 hm3 => ?_)))
        have hfin := Hd.setMap u3 hm3 (by simp)
        have es : s' = fun i => (mlk ((i : Nat) : Int) D1.c).getD (D1.s i) := by
          funext i
          cases hx : mlk ((i : Nat) : Int) D1.c with
          | none =>
            refine (hout i (fun j hj v hv => ?_)).1
            rw [mlk_of hm.keys hv] at hx; cases hx
          | some v =>
            obtain ⟨j, hj⟩ := mlk_some hx
            exact (hin j (hall j (List.getElem?_eq_some_iff.1 hj).1) i v hj).1
        have et : t' = fun i => if (mlk ((i : Nat) : Int) D1.c).isSome then false else D1.t i := by
          funext i
          cases hx : mlk ((i : Nat) : Int) D1.c with
          | none =>
            refine (hout i (fun j hj v hv => ?_)).2
            rw [mlk_of hm.keys hv] at hx; cases hx
          | some v =>
            obtain ⟨j, hj⟩ := mlk_some hx
            exact (hin j (hall j (List.getElem?_eq_some_iff.1 hj).1) i v hj).2
        have ek : ({ D1 with s := s', t := t', c := [] } : Dk) = D1.kept := by rw [es, et]; rfl
        refine pure_w (hq h3 (K.trans (Kp.upd u3 (.inr (.inr (.inr rfl))))) ?_)
        rw [← ek]
        exact hfin
    · have e : D.flush = (D.call.1, D.call.2) := by rw [Dk.flush, hw, if_neg (by decide), if_pos hc]
      rw [e] at hq
      exact iteT (by simpa using hc) (pure_w (hq _ k1 H1))
end
end Gx
