/- Own proofs: what those Lean programs compute. No condition. -/
import Derived.Test.YthelieedlghccaaGreatDoorP0
import Derived.Test.YthelieedlghccaaGreatDoorP1
import Derived.Test.YthelieedlghccaaGreatDoorP2
import Derived.Test.YthelieedlghccaaGreatDoorP3
import Derived.Test.YthelieedlghccaaGreatDoorP4
import Derived.Test.YthelieedlghccaaGreatDoorP5
import Derived.Test.YthelieedlghccaaGreatDoorP6
import Derived.Test.YthelieedlghccaaGreatDoorP7
import Derived.Test.YthelieedlghccaaGreatDoorP8
import Derived.Test.YthelieedlghccaaGreatDoorP9
import Derived.WalkKit
import Derived.ProofKit
import Derived.OpenShut
import Derived.ShutString
import Derived.ChangeOld
import Derived.Below
import Derived.SizedLaws
import Derived.Lib.SmallJoins
set_option linter.unusedVariables false
set_option linter.unusedSimpArgs false
namespace Gx
open Go
set_option maxRecDepth 20000
theorem blk_add (a : Addr) (n : Nat) : (a.add n).block = a.block := by unfold Addr.add; split <;> rfl
theorem sl_ne (x : Sl) : ∀ n, x.v ≠ .int .i64 n := fun n e => by unfold Sl.v at e; cases e
theorem compares_l1 {lo : Nat} {h h0 : Heap} {Q : Bool → Heap → Prop} {a : Vl} {x : Array Value} {y : Sl} {l : List Vl} {p q : Nat} {t : TypeId}
    (ha : VRepS (· < lo) h0 a x) (hla : wt a ≤ 1099511627776) (hx : h0[p]? = some (.cells x t (0, 0))) (hp : p < lo) (hlo : lo ≤ h0.size) (hhl : h.size ≤ lo) (e0 : Ext h h0)
    (hy : hcell h0 ((⟨q, 0, none⟩ : Addr).add 3) = some y.v) (hv : VsRepS (Nf lo h0) h0 y l) (hl : l.length ≤ 1099511627776)
    (H : ∀ h', Ext h h' → Q true h') : (M.loop (ramblelaw02_ValueCompares_l1 ⟨p, 0, none⟩ ⟨q, 0, none⟩ (l.length : Int)) 0).wp h0 Q := by
  refine M.loop_inv (fun (t : Int) hh => ∃ i : Nat, t = (i : Int) ∧ i ≤ l.length ∧ Mt lo h0 hh) (fun t _ => ((l.length : Int) - t).toNat) ?_ ⟨0, rfl, Nat.zero_le _, Mt.refl _ _⟩
  rintro t hh ⟨i, rfl, hi, M1⟩ self hself
  unfold ramblelaw02_ValueCompares_l1
  have hyl := hv.len
  refine ite_w (fun hc => ?_) (fun hc => ?_)
  · have hlt : i < l.length := by have := of_decide_eq_true hc; omega
    obtain ⟨b, cs, hb, nf, hsz, hcs, hrep⟩ := hv.get hlt
    have hi4 : (i : Int).toNat * 4 = i * 4 := by omega
    obtain ⟨k', n', s', l', hli⟩ : ∃ k' n' s' l', l[i] = Vl.mk k' n' s' l' := by cases l[i]; exact ⟨_, _, _, _, rfl⟩
    rw [hli] at hrep
    obtain ⟨x', rfl, _, _, _, r'⟩ := VRepS.eq.1 hrep
    have c1 : hcell h0 ((b.add ((i : Int).toNat * 4)).add 1) = some (.int .i64 n') := by rw [Addr.add_add, hi4, hcs 1 (by decide)]; rfl
    have c3 : hcell h0 ((b.add ((i : Int).toNat * 4)).add 3) = some x'.v := by rw [Addr.add_add, hi4, hcs 3 (by decide)]; rfl
    have nf1 : ∀ j, Nf lo h0 ((b.add ((i : Int).toNat * 4)).add j).block := fun j => by rw [blk_add, blk_add]; exact nf
    have hx'l := r'.len
    have hx'b := r'.big
    refine ldL_b (M1.keep _ _ hy (sl_ne _)) (ixL_b (by omega) (by omega) hb ?_)
    obtain ⟨m1, hm1, hm2⟩ := inc_b (Q := Q) (f := fun _ => (do
      let x77_50 ← ldL ((⟨q, 0, none⟩ : Addr).add 3)
      let x79_51 ← ixL x77_50 (i : Int) 4
      let x81_52 ← ldL ((x79_51).add 3)
      M.loop (ramblelaw02_ValueCompares_l2 self ⟨q, 0, none⟩ (i : Int) (i : Int) (x81_52.len : Int)) 0 : M Bool)) M1 (nf1 1) c1 (fun m => IntKind.wrap .i64 (m + 1)) (fun h2 M2 => by
      refine ldL_b (M2.keep _ _ hy (sl_ne _)) (ixL_b (by omega) (by omega) hb (ldL_b (M2.keep _ _ c3 (sl_ne _)) ?_))
      rw [hx'l]
      refine M.loop_inv (fun (t : Int) hh => ∃ k : Nat, t = (k : Int) ∧ k ≤ l'.length ∧ Mt lo h0 hh) (fun t _ => ((l'.length : Int) - t).toNat) ?_ ⟨0, rfl, Nat.zero_le _, M2⟩
      rintro t hh ⟨k, rfl, hk, M3⟩ self2 hself2
      unfold ramblelaw02_ValueCompares_l2
      refine ite_w (fun hc2 => ?_) (fun hc2 => ?_)
      · have hlt2 : k < l'.length := by have := of_decide_eq_true hc2; omega
        obtain ⟨b2, cs2, hb2, nf2, hsz2, hcs2, hrep2⟩ := r'.get hlt2
        have hk4 : (k : Int).toNat * 4 = k * 4 := by omega
        obtain ⟨k2, n2, s2, l2, hlk⟩ : ∃ k' n' s' l2, l'[k] = Vl.mk k' n' s' l2 := by cases l'[k]; exact ⟨_, _, _, _, rfl⟩
        rw [hlk] at hrep2
        obtain ⟨x2, rfl, _⟩ := VRepS.eq.1 hrep2
        have c0 : hcell h0 ((b2.add ((k : Int).toNat * 4)).add 0) = some (.int .i64 k2) := by rw [Addr.add_add, hk4, hcs2 0 (by decide)]; rfl
        have nf3 : Nf lo h0 ((b2.add ((k : Int).toNat * 4)).add 0).block := by rw [blk_add, blk_add]; exact nf2
        refine ldL_b (M3.keep _ _ hy (sl_ne _)) (ixL_b (by omega) (by omega) hb (ldL_b (M3.keep _ _ c3 (sl_ne _)) (ixL_b (by omega) (by omega) hb2 ?_)))
        obtain ⟨m2, hm3, hm4⟩ := inc_b (Q := Q) (f := fun _ => self2 (IntKind.wrap .i64 ((k : Int) + 1))) M3 nf3 c0 (fun m => IntKind.wrap .i64 (m + 1)) (fun h4 M4 => by
          rw [w64 (by omega) (by omega)]
          exact hself2 _ _ ⟨k + 1, by simp, by omega, M4⟩ (by omega))
        exact ldI_b hm3 (ixL_b (by omega) (by omega) hb2 hm4)
      · rw [w64 (by omega) (by omega)]
        exact hself _ _ ⟨i + 1, by simp, by omega, M3⟩ (by omega))
    exact ldI_b hm1 (ixL_b (by omega) (by omega) hb hm2)
  · have hax : VRep hh a x := (ha.same (fun b hb => M1.low b hb)).to
    have hxx := (M1.low p hp).trans hx
    have E1 : Ext h hh := ⟨by rw [M1.size]; exact e0.size, fun j hj => (M1.low j (by omega)).trans (e0.same j hj)⟩
    have kx : ∀ {h9 : Heap}, Ext hh h9 → x.size = 4 ∧ ∀ i, i < 4 → hcell h9 (Addr.add ⟨p, 0, none⟩ i) = x[i]? := fun e => ⟨hax.size, fun j hj => by rw [blk_cell (e.blk hxx)]⟩
    refine ldR hxx hax.size (ldR hxx hax.size ?_)
    refine bind_w (vclone_spec _ a (Nat.lt_succ_self _) hax hla (fun h5 c e5 hc5 => chk_b ⟨kx e5, kx e5⟩ ?_))
    refine bind_w (rsame_spec (hax.ext e5) hc5.to (fun h6 e6 => pure_w ?_))
    rw [show decide (cmpV a a = 0) = true from decide_eq_true (cmpV_self _)]
    exact H _ ((E1.trans e5).trans e6)
theorem compares_j1 {h h0 : Heap} {Q : Bool → Heap → Prop} {a : Vl} {x : Array Value} {p : Nat} {t : TypeId}
    (ha : VRep h0 a x) (hla : wt a ≤ 1099511627776) (hx : h0[p]? = some (.cells x t (0, 0))) (e0 : Ext h h0)
    (H : ∀ h', Ext h h' → Q true h') : (ramblelaw02_ValueCompares_j1 ⟨p, 0, none⟩ false).wp h0 Q := by
  have hp : p < h0.size := (Array.getElem?_eq_some_iff.1 hx).1
  unfold ramblelaw02_ValueCompares_j1
  refine iteF rfl (ldR hx ha.size ?_)
  refine bind_w (vcloneF_spec _ a (Nat.lt_succ_self _) ha hla (fun h1 c e1 hc => ?_))
  refine mkV_b (fun h2 e2 s2 g2 => need_b hc.size (stR g2 (by rw [hc.size]; exact Nat.le_refl 4) hc.to.one (fun h3 u3 g3 => ?_)))
  rw [lay_full (by rw [Array.length_toList, hc.size]; rfl), Array.toArray_toList] at g3
  have e13 : Ext h1 h3 := e2.upd u3 (Nat.le_refl _)
  have E3 := e1.trans e13
  have hc3 : VRepS (Nf h0.size h3) h3 a c := (hc.lt2.same (fun b hb => e13.same b hb.2)).mono (fun b hb => hb.1.same (e13.same b hb.2) (Nat.le_refl _))
  refine ldR (E3.blk hx) ha.size (ldR g3 hc.size ?_)
  refine bind_w (rsame_spec (ha.ext E3) hc3.to (fun h4 e4 => ?_))
  rw [show decide (cmpV a a = 0) = true from decide_eq_true (cmpV_self _)]
  refine iteF rfl ?_
  have E4 := E3.trans e4
  have hc4 : VRepS (Nf h0.size h4) h4 a c := (hc3.lt2.same (fun b hb => e4.same b hb.2)).mono (fun b hb => hb.1.same (e4.same b hb.2) (Nat.le_refl _))
  have g4 := e4.blk g3
  have has : VRepS (· < h0.size) h4 a x := ha.lt.same (fun b hb => E4.same b hb)
  obtain ⟨k, n, s, l⟩ := a
  obtain ⟨y, rfl, _, _, _, r⟩ := VRepS.eq.1 hc4
  have cy : hcell h4 ((⟨h1.size, 0, none⟩ : Addr).add 3) = some y.v := by rw [blk_cell g4]; rfl
  refine ldL_b cy ?_
  rw [r.len]
  have hla' := hla
  rw [wt] at hla'
  have hcnt := wts_len l
  exact compares_l1 has hla (E4.blk hx) hp E4.size e0.size (e0.trans E4) cy r (by omega) H
theorem compares_law {a b : Vl} {h : Heap} {Q : Bool → Heap → Prop} {x y : Array Value} (ha : VRep h a x) (hb : VRep h b y) (hla : wt a ≤ 1099511627776) (hp : PowTab h) (hd : DbTab h) (he : ErrV h)
    (H : ∀ h', Ext h h' → Q true h') : (ramblelaw02_ValueCompares x y).wp h Q := by
  unfold ramblelaw02_ValueCompares
  refine mkV_b (fun h1 e1 s1 g1 => mkV_b (fun h2 e2 s2 g2 => ?_))
  have E2 := e1.trans e2
  have g1' := e2.blk g1
  have kx : ∀ {hh : Heap}, Ext h2 hh → x.size = 4 ∧ ∀ i, i < 4 → hcell hh (Addr.add ⟨h.size, 0, none⟩ i) = x[i]? := fun e => ⟨ha.size, fun j hj => by rw [blk_cell (e.blk g1')]⟩
  have ky : ∀ {hh : Heap}, Ext h2 hh → y.size = 4 ∧ ∀ i, i < 4 → hcell hh (Addr.add ⟨h1.size, 0, none⟩ i) = y[i]? := fun e => ⟨hb.size, fun j hj => by rw [blk_cell (e.blk g2)]⟩
  have rx : ∀ {hh : Heap} {β : Type} {f : Array Value → M β} {Q' : β → Heap → Prop}, Ext h2 hh → (f x).wp hh Q' → (ldG 4 ⟨h.size, 0, none⟩ >>= f).wp hh Q' := fun e H => ldR (e.blk g1') ha.size H
  have ry : ∀ {hh : Heap} {β : Type} {f : Array Value → M β} {Q' : β → Heap → Prop}, Ext h2 hh → (f y).wp hh Q' → (ldG 4 ⟨h1.size, 0, none⟩ >>= f).wp hh Q' := fun e H => ldR (e.blk g2) hb.size H
  have r0 := Ext.refl h2
  refine rx r0 (ry r0 (bind_w (vget_spec (ha.ext E2) (hb.ext E2) hla (fun h3 c e3 V3 => ?_))))
  refine mkV_b (fun h4 e4 s4 g4 => need_b V3.size (stR g4 (by rw [V3.size]; exact Nat.le_refl 4) V3.one (fun h5 u5 g5 => ?_)))
  rw [lay_full (by rw [Array.length_toList, V3.size]; rfl), Array.toArray_toList] at g5
  have e35 : Ext h3 h5 := e4.upd u5 (Nat.le_refl _)
  have e25 := e3.trans e35
  have V5 := V3.ext e35
  have hlen : a.l.length ≤ 1099511627776 := by
    obtain ⟨k, n, s, l⟩ := a
    have hla' := hla
    rw [wt] at hla'
    have hcnt := wts_len l
    show l.length ≤ _
    omega
  refine rx e25 (ry e25 (bind_w (rget_spec (ha.ext (E2.trans e25)).lt (fun b hb => hb) (hb.ext (E2.trans e25)) hlen (fun h6 d e6 W6 => ?_))))
  refine mkV_b (fun h7 e7 s7 g7 => need_b W6.size (stR g7 (by rw [W6.size]; exact Nat.le_refl 4) W6.to.one (fun h8 u8 g8 => ?_)))
  rw [lay_full (by rw [Array.length_toList, W6.size]; rfl), Array.toArray_toList] at g8
  have e68 : Ext h6 h8 := e7.upd u8 (Nat.le_refl _)
  have e58 := e6.trans e68
  have e28 := e25.trans e58
  have W8 := W6.to.ext e68
  have V8 := V5.ext e58
  have g58 := e58.blk g5
  refine bind_w (begun02_spec (hp.ext (E2.trans e28)) (hd.ext (E2.trans e28)) (he.ext (E2.trans e28)) (fun h9 e9 => iteF rfl ?_))
  have e29 := e28.trans e9
  refine rx e29 (ry e29 (rx e29 (ry e29 ?_)))
  refine bind_w (vcompare_spec (ha.ext (E2.trans e29)) (hb.ext (E2.trans e29)) (fun h10 e10 => ?_))
  have e210 := e29.trans e10
  refine chk_b ⟨kx e210, ky e210, kx e210, ky e210⟩ ?_
  refine bind_w (rcompare_spec (ha.ext (E2.trans e210)) (hb.ext (E2.trans e210)) (fun h11 e11 => ?_))
  have e211 := e210.trans e11
  rw [show (cmpV a b != cmpV a b) = false from bne_self_eq_false _]
  refine iteF rfl (rx e211 (ry e211 (rx e211 (ry e211 ?_))))
  refine bind_w (vsame_spec (ha.ext (E2.trans e211)) (hb.ext (E2.trans e211)) (fun h12 e12 => ?_))
  have e212 := e211.trans e12
  refine chk_b ⟨kx e212, ky e212, kx e212, ky e212⟩ ?_
  refine bind_w (rsame_spec (ha.ext (E2.trans e212)) (hb.ext (E2.trans e212)) (fun h13 e13 => ?_))
  have e213 := e212.trans e13
  rw [show (decide (cmpV a b = 0) != decide (cmpV a b = 0)) = false from bne_self_eq_false _]
  have e8_13 := (((e9.trans e10).trans e11).trans e12).trans e13
  refine iteF rfl (ldR (e8_13.blk g58) V3.size (ldR (e8_13.blk g8) W6.size ?_))
  refine bind_w (rsame_spec (V8.ext e8_13) (W8.ext e8_13) (fun h14 e14 => ?_))
  have e214 := e213.trans e14
  rw [show decide (cmpV (optV (getM a b)) (optV (getM a b)) = 0) = true from decide_eq_true (cmpV_self _)]
  refine iteF rfl ?_
  rw [show ((getM a b).isSome != (getM a b).isSome) = false from bne_self_eq_false _]
  exact compares_j1 (ha.ext (E2.trans e214)) hla (e214.blk g1') (E2.trans e214) H
end Gx
namespace Gx
open Go Go.RowKit Go.ChangeShapes Go.WideShapes Go.ChangeAt Go.Joins
set_option linter.unusedVariables false
section
variable {H : Type} {enc : TypeId × Value → H} {P : Program}
theorem ext_same {W W' : World} (he : Ext W.heap W'.heap) {p : MemPlace} (hp : p.block < W.heap.size) : W.sameAt W' p := by
  cases p with
  | cell b o => exact World.cell?_of_block (w := W) (he.same b hp)
  | map b => exact he.same b hp
theorem ext_trod {t : TypeId} (hl : laidOutB P = true) (hr : P.readableRec t = true) (hrow : t < P.types.size) {W W' : World} {v : Value} {d : DataW H} {ps : List MemPlace}
    (h : DataW.Trod enc P W 0 (fun _ => true) true t v d ps) (he : Ext W.heap W'.heap) :
    DataW.Trod enc P W' 0 (fun b => decide (b < W.heap.size)) true t v d ps := by
  have hlt : ∀ x ∈ ps, x.block < W.heap.size := by
    obtain ⟨m, hm⟩ := h
    exact DataW.trod_lt m _ _ _ hm
  exact WideElems.Trod_stays hl hr hrow h (fun x hx => ext_same he (hlt x hx)) (fun x hx => by simpa using hlt x hx)
theorem ext_frame {W W' : World} (he : Ext W.heap W'.heap) (hr : Rest W W') (may : MemPlace → Prop) : W.keptBut W' may := by
  refine ⟨hr.os, hr.output, fun i hi => ?_⟩
  rw [he.same i hi]
  split <;> simp_all
end
end Gx
