/- Own proofs: what those Lean programs compute. No condition. -/
import Derived.Test.YtklegajjmeajiaaHDisk
namespace Gx
open Go
set_option linter.unusedVariables false
set_option linter.unusedSimpArgs false
theorem DkAt.setMap {h h' : Heap} {F : Fp} {D : Dk} {l : List (Int × List UInt8)} {es : Array MapEntry} {c : Nat} (H : DkAt h F D) (u : Upd F.bm h h') (hm : MapR h' F.bm kI dS l es c) (hl : ∀ p ∈ l, p.2.length = 128 ∧ 0 ≤ p.1 ∧ p.1 < D.n) : DkAt h' F { D with c := l } := by
  obtain ⟨cs, ct, hb⟩ := H.blk
  obtain ⟨c1, t1, h1, h1'⟩ := H.sec
  obtain ⟨c2, t2, h2, h2'⟩ := H.tor
  obtain ⟨n1, n2, n3, n4, n5, n6⟩ := H.ne
  exact ⟨⟨cs, ct, (u.ne _ n3).trans hb⟩, ⟨c1, t1, (u.ne _ n5).trans h1, h1'⟩, ⟨c2, t2, (u.ne _ n6).trans h2, h2'⟩, ⟨es, c, hm⟩, H.lens, H.nlt, hl, H.ne, H.fz⟩
theorem DkAt.setTorn {h h' : Heap} {F : Fp} {D : Dk} {t' : Nat → Bool} (H : DkAt h F D) (u : Upd F.bt h h') (hs : ∃ cells ty, h'[F.bt]? = some (.cells cells ty (0, 0)) ∧ ∀ i, i < D.n → cells[i]? = some (.bool (t' i))) : DkAt h' F { D with t := t' } := by
  obtain ⟨cs, ct, hb⟩ := H.blk
  obtain ⟨c1, t1, h1, h1'⟩ := H.sec
  obtain ⟨es, c, hm⟩ := H.map
  obtain ⟨n1, n2, n3, n4, n5, n6⟩ := H.ne
  exact ⟨⟨cs, ct, (u.ne _ n2).trans hb⟩, ⟨c1, t1, (u.ne _ n4).trans h1, h1'⟩, hs, ⟨es, c, hm.ext (u.ne _ n6.symm)⟩, H.lens, H.nlt, H.clen, H.ne, H.fz⟩
theorem DkAt.setSec {h h' : Heap} {F : Fp} {D : Dk} {s' : Nat → List UInt8} (H : DkAt h F D) (u : Upd F.bs h h') (hs : ∃ cells ty, h'[F.bs]? = some (.cells cells ty (0, 0)) ∧ ∀ i, i < D.n → ∀ j, j < 128 → cells[i * 128 + j]? = (s' i)[j]?.map bv)
    (hl : ∀ i, (s' i).length = 128) : DkAt h' F { D with s := s' } := by
  obtain ⟨cs, ct, hb⟩ := H.blk
  obtain ⟨c2, t2, h2, h2'⟩ := H.tor
  obtain ⟨es, c, hm⟩ := H.map
  obtain ⟨n1, n2, n3, n4, n5, n6⟩ := H.ne
  exact ⟨⟨cs, ct, (u.ne _ n1).trans hb⟩, hs, ⟨c2, t2, (u.ne _ n4.symm).trans h2, h2'⟩, ⟨es, c, hm.ext (u.ne _ n5.symm)⟩, hl, H.nlt, H.clen, H.ne, H.fz⟩
def put {α : Type} (f : Nat → α) (k : Nat) (v : α) : Nat → α := fun i => if i = k then v else f i
/-- a sector is loaded -/
theorem DkAt.ldS {β : Type} {h : Heap} {F : Fp} {D : Dk} {Q : β → Heap → Prop} {k : Nat} {f : Array Value → M β} (H : DkAt h F D) (hk : k < D.n) (hq : (f (bcells (D.s k))).wp h Q) : (ldG 128 ⟨F.bs, k * 128, none⟩ >>= f).wp h Q := by
  obtain ⟨c1, t1, h1, h1'⟩ := H.sec
  refine ldG_b (by rw [bcells_size, H.lens]) (fun i hi => ?_) hq
  rw [add_mk, hcell_blk h1, h1' k hk i hi, bcells_get]
/-- a sector is stored -/
theorem DkAt.stS {β : Type} {h : Heap} {F : Fp} {D : Dk} {Q : β → Heap → Prop} {k : Nat} {l : List UInt8} {f : Unit → M β} (H : DkAt h F D) (hk : k < D.n) (hl : l.length = 128) (hq : ∀ h', Upd F.bs h h' → DkAt h' F { D with s := put D.s k l } → (f ()).wp h' Q) : (stG ⟨F.bs, k * 128, none⟩ (bcells l) >>= f).wp h Q := by
  obtain ⟨c1, t1, h1, h1'⟩ := H.sec
  have hcell : ∀ i, i < D.n → ∀ j, j < 128 → i * 128 + j < c1.size := fun i hi j hj => by
    have := h1' i hi j hj
    rw [List.getElem?_eq_getElem (by rw [H.lens]; exact hj)] at this
    exact (Array.getElem?_eq_some_iff.1 this).1
  have hsz : k * 128 + 127 < c1.size := hcell k hk 127 (by omega)
  refine stG_b (fun i hi => ?_) (one_bcells _) (hq _ (Upd.hsetL _ _ _ _ _) (H.setSec (Upd.hsetL _ _ _ _ _) ⟨_, t1, hsetL_at _ _ _ _ h1, ?_⟩ ?_))
  · rw [bcells_size] at hi
    rw [add_mk, hcell_blk h1, hfrozen_blk h1]
    exact ⟨⟨_, Array.getElem?_eq_getElem (by omega)⟩, rfl⟩
  · intro i hi j hj
    have hlen : (bcells l).toList.length = 128 := by rw [Array.length_toList, bcells_size, hl]
    have e : (lay c1 (k * 128 + 0) (bcells l).toList)[i * 128 + j]? = (c1.toList.take (k * 128) ++ (bcells l).toList ++ c1.toList.drop (k * 128 + 128))[i * 128 + j]? := by
      rw [← Array.getElem?_toList, Nat.add_zero, lay_toList _ _ _ (by rw [hlen]; omega), hlen]
    rw [e]
    have htk : (c1.toList.take (k * 128)).length = k * 128 := by rw [List.length_take, Array.length_toList]; omega
    unfold put
    rcases Nat.lt_trichotomy i k with hik | hik | hik
    · rw [if_neg (by omega), List.append_assoc, List.getElem?_append_left (by rw [htk]; omega), List.getElem?_take, if_pos (by omega), Array.getElem?_toList]
      exact h1' i hi j hj
    · subst hik
      rw [if_pos rfl, List.append_assoc, List.getElem?_append_right (by rw [htk]; omega), htk, List.getElem?_append_left (by rw [hlen]; omega), Array.getElem?_toList, bcells_get]
      congr 2; omega
    · rw [if_neg (by omega), List.getElem?_append_right (by rw [List.length_append, htk, hlen]; omega), List.length_append, htk, hlen, List.getElem?_drop, Array.getElem?_toList]
      rw [show k * 128 + 128 + (i * 128 + j - (k * 128 + 128)) = i * 128 + j by omega]
      exact h1' i hi j hj
  · intro i
    unfold put
    split
    · exact hl
    · exact H.lens i
theorem DkAt.stT {β : Type} {h : Heap} {F : Fp} {D : Dk} {Q : β → Heap → Prop} {k : Nat} {b : Bool} {f : Unit → M β} (H : DkAt h F D) (hk : k < D.n) (hq : ∀ h', Upd F.bt h h' → DkAt h' F { D with t := put D.t k b } → (f ()).wp h' Q) : (stV ⟨F.bt, k, none⟩ (.bool b) >>= f).wp h Q := by
  obtain ⟨c1, t1, h1, h1'⟩ := H.tor
  have hlt : k < c1.size := (Array.getElem?_eq_some_iff.1 (h1' k hk)).1
  refine stV_b (x := .bool (D.t k)) (by rw [hcell_blk h1, h1' k hk]) (hfrozen_blk h1) rfl (hq _ (Upd.hset _ _ _ _) (H.setTorn (Upd.hset _ _ _ _) ⟨_, t1, hset_at h1, ?_⟩))
  intro i hi
  unfold put
  rw [Array.getElem?_setIfInBounds]
  by_cases e : k = i
  · subst e; rw [if_pos rfl, if_pos hlt, if_pos rfl]
  · rw [if_neg e, if_neg (fun x => e x.symm)]
    exact h1' i hi
section
variable {h : Heap} {F : Fp} {D : Dk}
theorem call_eq (D : Dk) : D.call.1.n = D.n ∧ D.call.1.s = D.s ∧ D.call.1.t = D.t ∧ D.call.1.c = D.c := by
  unfold Dk.call
  split <;> (try split) <;> exact ⟨rfl, rfl, rfl, rfl⟩
def Dk.write (D : Dk) (n : Int) (x : List UInt8) : Dk × Int := if D.away then (D, 9) else if n < 0 ∨ (D.n : Int) ≤ n then (D, 41) else if D.call.2 ≠ 0 then (D.call.1, D.call.2) else ({ D.call.1 with c := mput n x D.c }, 0)
theorem mput_all {l : List (Int × List UInt8)} {n : Int} {x : List UInt8} {P : Int × List UInt8 → Prop} (hl : ∀ p ∈ l, P p) (hx : P (n, x)) : ∀ p ∈ mput n x l, P p := by
  intro p hp
  unfold mput at hp
  split at hp
  · obtain ⟨q, hq, rfl⟩ := List.mem_map.1 hp
    split
    · exact hx
    · exact hl q hq
  · rw [List.mem_append] at hp
    rcases hp with hp | hp
    · exact hl p hp
    · simp at hp; subst hp; exact hx
theorem dwrite_spec {Q : Int → Heap → Prop} {x2 : Array Value} {n : Int} {x : List UInt8} (H : DkAt h F D) (hx : x2 = bcells x) (hl : x.length = 128) (hq : ∀ h', Kp F h h' → DkAt h' F (D.write n x).1 → Q (D.write n x).2 h') : (disk_Disk_Write (some ⟨F.p, 0, none⟩) n x2).wp h Q := by
  subst hx
  unfold disk_Disk_Write
  refine mkB_b ?_
  have e1 : Ext h (h.push (.cells (bcells x) ty_api_Sector)) := Ext.push _ _
  have b1 : BB (h.push (.cells (bcells x) ty_api_Sector)) h.size ty_api_Sector x := get_push_eq
  have hnF : ¬ F.on h.size := fun ho => by have := H.lt ho; omega
  have H1 := H.ext e1
  generalize h.push (Obj.cells (bcells x) ty_api_Sector) = h1 at e1 b1 H1 ⊢
  refine bind_w (dcan_spec H1 ?_)
  cases hw : D.away with
  | true =>
    have e : D.write n x = (D, 9) := by rw [Dk.write, if_pos hw]
    rw [e] at hq
    exact iteT rfl (pure_w (hq _ (Kp.ext e1) H1))
  | false =>
    refine ite_w (fun h => by cases h) (fun _ => ?_)
    refine bind_w (dthere_spec H1 ?_)
    by_cases hn : n < 0 ∨ (D.n : Int) ≤ n
    · have e : D.write n x = (D, 41) := by rw [Dk.write, hw, if_neg (by decide), if_pos hn]
      rw [e] at hq
      rw [if_pos hn]
      exact iteT rfl (pure_w (hq _ (Kp.ext e1) H1))
    · rw [if_neg hn]
      refine ite_w (fun h => by cases h) (fun _ => ?_)
      refine bind_w (dcall_spec H1 (fun h2 u2 H2 => ?_))
      have hu : Kp F h h2 := (Kp.ext e1).trans (Kp.upd u2 (.inl rfl))
      by_cases hc : D.call.2 = 0
      · have e : D.write n x = ({ D.call.1 with c := mput n x D.c }, 0) := by rw [Dk.write, hw, if_neg (by decide), if_neg hn, if_neg (by simp [hc])]
        rw [e] at hq
        refine ite_w (fun h => by rw [hc] at h; cases h) (fun _ => ?_)
        obtain ⟨cs, ct, hb⟩ := H2.blk
        obtain ⟨es, c, hm⟩ := H2.map
        have b2 : BB h2 h.size ty_api_Sector x := b1.upd u2 (fun e => hnF (.inl e))
        refine nilP_b (ldMp_b (n := some F.bm) (by rw [DkAt.cell hb]; rfl) (ldB128 b2 hl ?_))
        obtain ⟨q1, _, _, q4⟩ := call_eq D
        refine upM_b (dec := dS) keyI hm rfl (fun h3 es' c' u3 hm' => ?_)
        rw [q4] at hm'
        refine pure_w (hq h3 (hu.trans (Kp.upd u3 (.inr (.inr (.inr rfl))))) (H2.setMap u3 hm' (mput_all (fun p hp => ?_) ⟨hl, ?_⟩)))
        · rw [q1]; exact H.clen p hp
        · rw [q1]; exact ⟨by show 0 ≤ n; omega, by show n < D.n; omega⟩
      · have e : D.write n x = (D.call.1, D.call.2) := by rw [Dk.write, hw, if_neg (by decide), if_neg hn, if_pos hc]
        rw [e] at hq
        exact iteT (by simpa using hc) (pure_w (hq _ hu H2))
end
end Gx
