/- Own proofs: what those Lean programs compute. No condition. -/
import Derived.Test.YthelieedlghccaaGreatDoorP0
import Derived.Test.YthelieedlghccaaGreatDoorP1
import Derived.Test.YthelieedlghccaaGreatDoorP2
import Derived.Test.YthelieedlghccaaGreatDoorP3
import Derived.Test.YthelieedlghccaaGreatDoorP4
import Derived.Test.YthelieedlghccaaGreatDoorP5
import Derived.Test.YthelieedlghccaaGreatDoorP6
import Derived.Test.YthelieedlghccaaGreatDoorP7
import Derived.Test.YthelieedlghccaaGreatDoorP8
import Derived.WalkKit
import Derived.ProofKit
import Derived.OpenShut
import Derived.ShutString
import Derived.ChangeOld
import Derived.Below
import Derived.SizedLaws
import Derived.Lib.SmallJoins
set_option linter.unusedVariables false
set_option linter.unusedSimpArgs false
namespace Gx
open Go
set_option linter.unusedVariables false
set_option linter.unusedSimpArgs false
structure Tri (ab bc ac : Int) : Prop where
  tr : ab < 0 → bc < 0 → ac < 0
  z1 : ab = 0 → ac = bc
  z2 : bc = 0 → ac = ab
theorem Tri.cOr {x y z x' y' z' : Int} (h : Tri x y z) (h' : x = 0 → y = 0 → Tri x' y' z') : Tri (cOr x x') (cOr y y') (cOr z z') := by
  unfold Gx.cOr
  obtain ⟨t, a, b⟩ := h
  by_cases hx : x = 0
  · have hz := a hx
    by_cases hy : y = 0
    · have hz0 : z = 0 := by omega
      rw [if_pos hx, if_pos hy, if_pos hz0]
      exact h' hx hy
    · have hz0 : ¬ z = 0 := by omega
      rw [if_pos hx, if_neg hy, if_neg hz0]
      refine ⟨fun h1 h2 => by omega, fun h1 => hz, fun h1 => by omega⟩
  · by_cases hy : y = 0
    · have hz := b hy
      have hz0 : ¬ z = 0 := by omega
      rw [if_neg hx, if_pos hy, if_neg hz0]
      exact ⟨fun h1 h2 => by omega, fun h1 => by omega, fun h1 => hz⟩
    · rw [if_neg hx, if_neg hy]
      refine ⟨fun h1 h2 => ?_, fun h1 => by omega, fun h1 => by omega⟩
      have := t h1 h2
      rw [if_neg (by omega)]; exact this
theorem cmpI_tri (a b c : Int) : Tri (cmpI a b) (cmpI b c) (cmpI a c) := by
  unfold cmpI
  constructor <;> (repeat' split) <;> intros <;> omega
theorem cmpI_anti (a b : Int) : cmpI b a = - cmpI a b := by
  unfold cmpI
  (repeat' split) <;> omega
theorem cmpI_eq (a b : Int) : cmpI a b = 0 ↔ a = b := by
  unfold cmpI
  (repeat' split) <;> omega
theorem cOr_anti {x x' y y' : Int} (h : x' = -x) (h' : x = 0 → y' = -y) : cOr x' y' = - cOr x y := by
  unfold cOr
  by_cases hx : x = 0
  · rw [if_pos hx, if_pos (by omega)]; exact h' hx
  · rw [if_neg hx, if_neg (by omega)]; exact h
theorem cOr_zero {x y : Int} : cOr x y = 0 ↔ x = 0 ∧ y = 0 := by
  unfold cOr
  by_cases hx : x = 0
  · rw [if_pos hx]; simp [hx]
  · rw [if_neg hx]; simp [hx]
def cmpL {α : Type} (f : α → α → Int) : List α → List α → Int
  | [], [] => 0
  | [], _ :: _ => -1
  | _ :: _, [] => 1
  | a :: l, b :: l' => cOr (f a b) (cmpL f l l')
theorem cmpL_anti {α : Type} {f : α → α → Int} : ∀ {l l' : List α}, (∀ a ∈ l, ∀ b ∈ l', f b a = - f a b) → cmpL f l' l = - cmpL f l l'
  | [], [], _ => rfl
  | [], _ :: _, _ => rfl
  | _ :: _, [], _ => rfl
  | a :: l, b :: l', h => cOr_anti (h a (by simp) b (by simp)) (fun _ => cmpL_anti (fun x hx y hy => h x (List.mem_cons_of_mem _ hx) y (List.mem_cons_of_mem _ hy)))
theorem cmpL_eq {α : Type} {f : α → α → Int} : ∀ {l l' : List α}, (∀ a ∈ l, ∀ b ∈ l', f a b = 0 ↔ a = b) → (cmpL f l l' = 0 ↔ l = l')
  | [], [], _ => by simp [cmpL]
  | [], _ :: _, _ => by simp [cmpL]
  | _ :: _, [], _ => by simp [cmpL]
  | a :: l, b :: l', h => by
    rw [cmpL, cOr_zero, h a (by simp) b (by simp), cmpL_eq (fun x hx y hy => h x (List.mem_cons_of_mem _ hx) y (List.mem_cons_of_mem _ hy))]
    simp
theorem cmpL_tri {α : Type} {f : α → α → Int} : ∀ {l l' l'' : List α}, (∀ a ∈ l, ∀ b ∈ l', ∀ c ∈ l'', Tri (f a b) (f b c) (f a c)) → Tri (cmpL f l l') (cmpL f l' l'') (cmpL f l l'')
  | [], [], [], _ => by simp only [cmpL]; constructor <;> intros <;> omega
  | [], [], _ :: _, _ => by simp only [cmpL]; constructor <;> intros <;> omega
  | [], _ :: _, [], _ => by simp only [cmpL]; constructor <;> intros <;> omega
  | [], b :: l', c :: l'', _ => by
    show Tri (-1) (cmpL f (b :: l') (c :: l'')) (-1)
    constructor <;> intros <;> omega
  | _ :: _, [], [], _ => by simp only [cmpL]; constructor <;> intros <;> omega
  | _ :: _, [], _ :: _, _ => by simp only [cmpL]; constructor <;> intros <;> omega
  | a :: l, b :: l', [], _ => by
    show Tri (cmpL f (a :: l) (b :: l')) 1 1
    constructor <;> intros <;> omega
  | a :: l, b :: l', c :: l'', h => Tri.cOr (h a (by simp) b (by simp) c (by simp)) (fun _ _ => cmpL_tri (fun x hx y hy z hz => h x (List.mem_cons_of_mem _ hx) y (List.mem_cons_of_mem _ hy) z (List.mem_cons_of_mem _ hz)))
def cmpU (a b : UInt8) : Int := cmpI (a.toNat : Int) (b.toNat : Int)
theorem cmpB_L : ∀ s t : List UInt8, Lib.compareBytes s t = cmpL cmpU s t
  | [], [] => rfl
  | [], _ :: _ => rfl
  | _ :: _, [] => rfl
  | a :: s, b :: t => by
    rw [compareBytes_cons, cmpL, cOr, cmpB_L s t]
    have : cmpU a b = 0 ↔ a = b := by
      unfold cmpU
      rw [cmpI_eq, ← UInt8.toNat_inj]; omega
    by_cases h : a = b
    · rw [if_pos h, if_pos (this.2 h)]
    · rw [if_neg h, if_neg (fun h' => h (this.1 h'))]; rfl
theorem cmpU_eq (a b : UInt8) : cmpU a b = 0 ↔ a = b := by
  unfold cmpU
  rw [cmpI_eq, ← UInt8.toNat_inj]; omega
theorem cmpVs_L : ∀ l l' : List Vl, cmpVs l l' = cmpL cmpV l l'
  | [], [] => by simp [cmpVs, cmpL]
  | [], _ :: _ => by simp [cmpVs, cmpL]
  | _ :: _, [] => by simp [cmpVs, cmpL]
  | a :: l, b :: l' => by rw [cmpVs, cmpL, cmpVs_L l l']
theorem cmpV_mk (k n k' n' : Int) (s s' : List UInt8) (l l' : List Vl) : cmpV (.mk k n s l) (.mk k' n' s' l') = cOr (cmpI k k') (cOr (cmpI n n') (cOr (cmpL cmpU s s') (cmpL cmpV l l'))) := by
  rw [cmpV, cmpB_L, cmpVs_L]
theorem mem_lt {k n : Int} {s : List UInt8} {l : List Vl} {m : Nat} {v : Vl} (hm : sizeOf (Vl.mk k n s l) < m + 1) (hv : v ∈ l) : sizeOf v < m := by
  have := List.sizeOf_lt_of_mem hv
  simp only [Vl.mk.sizeOf_spec] at hm
  omega
theorem cmpV_anti_ : ∀ (m : Nat) (a b : Vl), sizeOf a < m → cmpV b a = - cmpV a b := by
  intro m
  induction m with
  | zero => intro a b h; omega
  | succ m ih =>
    rintro ⟨k, n, s, l⟩ ⟨k', n', s', l'⟩ hm
    rw [cmpV_mk, cmpV_mk]
    exact cOr_anti (cmpI_anti _ _) (fun _ => cOr_anti (cmpI_anti _ _) (fun _ => cOr_anti (cmpL_anti (fun a _ b _ => cmpI_anti _ _)) (fun _ => cmpL_anti (fun a ha b hb => ih a b (mem_lt hm ha)))))
theorem cmpV_anti (a b : Vl) : cmpV b a = - cmpV a b := cmpV_anti_ _ a b (Nat.lt_succ_self _)
theorem cmpV_eq_ : ∀ (m : Nat) (a b : Vl), sizeOf a < m → (cmpV a b = 0 ↔ a = b) := by
  intro m
  induction m with
  | zero => intro a b h; omega
  | succ m ih =>
    rintro ⟨k, n, s, l⟩ ⟨k', n', s', l'⟩ hm
    rw [cmpV_mk, cOr_zero, cOr_zero, cOr_zero, cmpI_eq, cmpI_eq, cmpL_eq (fun a _ b _ => cmpU_eq a b), cmpL_eq (fun a ha b hb => ih a b (mem_lt hm ha))]
    simp
theorem cmpV_eq (a b : Vl) : cmpV a b = 0 ↔ a = b := cmpV_eq_ _ a b (Nat.lt_succ_self _)
theorem cmpV_tri_ : ∀ (m : Nat) (a b c : Vl), sizeOf a < m → Tri (cmpV a b) (cmpV b c) (cmpV a c) := by
  intro m
  induction m with
  | zero => intro a b c h; omega
  | succ m ih =>
    rintro ⟨k, n, s, l⟩ ⟨k', n', s', l'⟩ ⟨k'', n'', s'', l''⟩ hm
    rw [cmpV_mk, cmpV_mk, cmpV_mk]
    exact Tri.cOr (cmpI_tri _ _ _) (fun _ _ => Tri.cOr (cmpI_tri _ _ _) (fun _ _ => Tri.cOr (cmpL_tri (fun a _ b _ c _ => cmpI_tri _ _ _)) (fun _ _ => cmpL_tri (fun a ha b hb c hc => ih a b c (mem_lt hm ha)))))
theorem cmpV_tri (a b c : Vl) : Tri (cmpV a b) (cmpV b c) (cmpV a c) := cmpV_tri_ _ a b c (Nat.lt_succ_self _)
theorem cmpV_self (a : Vl) : cmpV a a = 0 := (cmpV_eq a a).2 rfl
theorem cmpV_trans {a b c : Vl} (h1 : cmpV a b < 0) (h2 : cmpV b c < 0) : cmpV a c < 0 := (cmpV_tri a b c).tr h1 h2
theorem cmpV_lt_or (a b : Vl) : cmpV a b < 0 ∨ a = b ∨ cmpV b a < 0 := by
  have := cmpV_anti a b
  have := cmpV_eq a b
  by_cases h : cmpV a b = 0
  · exact .inr (.inl (this.1 h))
  · omega
end Gx
namespace Gx
open Go Go.Proofs Go.Shelf Go.RowKit Go.Lib
set_option linter.unusedVariables false
set_option linter.unusedSimpArgs false
set_option maxRecDepth 100000
theorem Gw.ix1 {β : Type} {lo : Nat} {h : Heap} {Q : β → Heap → Prop} {r : Sl} {vs : List Value} {i : Nat} {t : Int} {v : Value} {f : Addr → M β} (G : Gw lo h r 1 vs) (hi : vs[i]? = some v) (ht : t = (i : Int))
    (H : ∀ b, r.base = some ⟨b, 0, none⟩ → hcell h ⟨b, i, none⟩ = some v → hfrozen h ⟨b, i, none⟩ = false → (f ⟨b, i, none⟩).wp h Q) : (ixL r t 1 >>= f).wp h Q := by
  subst ht
  have hl := G.len
  have hil := (List.getElem?_eq_some_iff.1 hi).1
  rcases G with ⟨rfl, rfl⟩ | ⟨b, ty, cells, R⟩
  · cases hi
  · refine ixL_b (by omega) (by omega) R.base ?_
    rw [add_mk, show 0 + (i : Int).toNat * 1 = i by omega]
    exact H b R.base (by rw [hcell_blk R.blk]; exact R.get i v hi) (hfrozen_blk R.blk)
theorem Gw.set1 {lo : Nat} {h : Heap} {r : Sl} {vs : List Value} {b i : Nat} {v : Value} (G : Gw lo h r 1 vs) (hb : r.base = some ⟨b, 0, none⟩) (hi : i < vs.length) : Gw lo (hset h ⟨b, i, none⟩ v) r 1 (vs.set i v) := by
  rcases G with ⟨rfl, rfl⟩ | ⟨b', ty, cells, R⟩
  · cases hb
  · have : b' = b := by
      have := R.base.symm.trans hb
      cases this
      rfl
    subst this
    have hsz := R.size
    have hcap := R.cap
    have hlen := R.len
    refine .inr ⟨b', ty, _, R.base, R.lo, hset_at R.blk, by rw [Array.size_setIfInBounds]; exact R.size, R.cap, by rw [List.length_set]; exact R.len, fun j u hj => ?_⟩
    rw [Array.getElem?_setIfInBounds]
    rw [List.getElem?_set] at hj
    by_cases hij : i = j
    · subst hij
      rw [if_pos rfl, if_pos hi] at hj
      rw [if_pos rfl, if_pos (by omega)]
      exact hj
    · rw [if_neg hij] at hj
      rw [if_neg hij]
      exact R.get j u hj
theorem set_swap {α β : Type} (g : α → β) (L1 L2 : List α) (x y : α) : (((L1 ++ y :: x :: L2).map g).set (L1.length + 1) (g y)).set L1.length (g x) = (L1 ++ x :: y :: L2).map g := by
  simp only [List.map_append, List.map_cons]
  rw [show L1.map g ++ g y :: g x :: L2.map g = (L1.map g ++ [g y]) ++ g x :: L2.map g by simp]
  rw [list_set_mid (by simp)]
  rw [show (L1.map g ++ [g y]) ++ g y :: L2.map g = L1.map g ++ g y :: g y :: L2.map g by simp]
  rw [list_set_mid (by simp)]
def vv {α : Type} (sl : α → Sl) (a : α) : Value := (sl a).v
theorem swap_b {α β : Type} {sl : α → Sl} {lo : Nat} {h : Heap} {Q : β → Heap → Prop} {r : Sl} {y x : α} {L1 L2 : List α} {j : Int} {f : Unit → M β} (G : Gw lo h r 1 ((L1 ++ y :: x :: L2).map (vv sl))) (hj : j = ((L1.length + 1 : Nat) : Int)) (hsm : L1.length ≤ 1099511627776)
    (H : ∀ h', Km (Sl.on r) h h' → Gw lo h' r 1 ((L1 ++ x :: y :: L2).map (vv sl)) → (f ()).wp h' Q) :
    (ixL r (IntKind.wrap .i64 (j - 1)) 1 >>= fun a => ixL r j 1 >>= fun b => ldL a >>= fun u => ldL b >>= fun v => ixL r j 1 >>= fun c => stV c u.v >>= fun _ => ixL r (IntKind.wrap .i64 (j - 1)) 1 >>= fun d => stV d v.v >>= f).wp h Q := by
  subst hj
  rw [w64 (by omega) (by omega), show (((L1.length + 1 : Nat) : Int) - 1) = (L1.length : Int) by omega]
  have hy : ((L1 ++ y :: x :: L2).map (vv sl))[L1.length]? = some (sl y).v := by simp [vv]
  have hx : ((L1 ++ y :: x :: L2).map (vv sl))[L1.length + 1]? = some (sl x).v := by
    rw [List.map_append, List.getElem?_append_right (by simp)]
    simp [vv]
  have hlen : L1.length + 1 < ((L1 ++ y :: x :: L2).map (vv sl)).length := by simp
  refine G.ix1 hy rfl (fun b hb hc hf => G.ix1 hx rfl (fun b2 hb2 hc2 hf2 => ldL_b hc (ldL_b hc2 (G.ix1 hx rfl (fun b3 hb3 hc3 hf3 => stV_b hc3 hf3 (one_v (sl y)) ?_)))))
  have e3 : b3 = b := by rw [hb3] at hb; cases hb; rfl
  subst e3
  have G1 := G.set1 (v := (sl y).v) hb3 hlen
  have u1 := Upd.hset h b3 (L1.length + 1) (sl y).v
  generalize hset h ⟨b3, L1.length + 1, none⟩ (sl y).v = h1 at G1 u1 ⊢
  have hy1 : (((L1 ++ y :: x :: L2).map (vv sl)).set (L1.length + 1) (sl y).v)[L1.length]? = some (sl y).v := by
    rw [List.getElem?_set_ne (by omega)]
    exact hy
  refine G1.ix1 hy1 rfl (fun b4 hb4 hc4 hf4 => stV_b hc4 hf4 (one_v (sl x)) ?_)
  have e4 : b4 = b3 := by rw [hb4] at hb3; cases hb3; rfl
  subst e4
  have G2 := G1.set1 (v := (sl x).v) (i := L1.length) hb4 (by rw [List.length_set]; omega)
  have u2 := Upd.hset h1 b4 L1.length (sl x).v
  rw [show (sl y).v = vv sl y from rfl, show (sl x).v = vv sl x from rfl, set_swap] at G2
  have hon : Sl.on r b4 := ⟨_, hb4, rfl⟩
  exact H _ ((Km.upd u1 hon).trans (Km.upd u2 hon)) G2
structure Cmpr {α : Type} (sl : α → Sl) (r : Sl) (T : Heap → Prop) (cmp : Value) (key : α → Vl) (ss : List α) : Prop where
  keep : ∀ hh h', T hh → Km (Sl.on r) hh h' → T h'
  call : ∀ hh, T hh → ∀ p q, p ∈ ss → q ∈ ss → ∀ Q : Int → Heap → Prop, (∀ h', Ext hh h' → Q (cmpV (key p) (key q)) h') → (callW Go.Proofs.Tryz.prog (fun r : Int => .int .i64 r) cmp [(sl p).v, (sl q).v]).wp hh Q
def Srt {α : Type} (key : α → Vl) (l : List α) : Prop := l.Pairwise (fun p q => ¬ cmpV (key q) (key p) < 0)
theorem ncmp_trans {x y z : Vl} (h1 : ¬ cmpV z y < 0) (h2 : ¬ cmpV y x < 0) : ¬ cmpV z x < 0 := by
  intro h3
  rcases cmpV_lt_or y x with h | h | h
  · exact h2 h
  · subst h; exact h1 h3
  · exact h1 (cmpV_trans h3 h)
theorem isort_spec {α : Type} {sl : α → Sl} {lo : Nat} {h : Heap} {Q : Unit → Heap → Prop} {r : Sl} {T : Heap → Prop} {cmp : Value} {key : α → Vl} {ss pre mid post : List α} (C : Cmpr sl r T cmp key ss) (hT : T h) (G : Gw lo h r 1 ((pre ++ mid ++ post).map (vv sl))) (hp : ∀ p ∈ mid, p ∈ ss)
    (hsm : (pre ++ mid ++ post).length ≤ 1099511627776) (H : ∀ h' mid', Gw lo h' r 1 ((pre ++ mid' ++ post).map (vv sl)) → mid'.Perm mid → Srt key mid' → Km (Sl.on r) h h' → Q () h') :
    (slices_insertionSortCmpFunc_slapi_Value r (pre.length : Int) ((pre.length + mid.length : Nat) : Int) cmp).wp h Q := by
  simp only [List.length_append] at hsm
  unfold slices_insertionSortCmpFunc_slapi_Value
  rw [w64 (by omega) (by omega)]
  refine M.loop_inv (fun (t : Int) hh => ∃ (k : Nat) (m1 : List α), t = ((pre.length + k : Nat) : Int) ∧ 1 ≤ k ∧ m1.Perm (mid.take k) ∧ Srt key m1 ∧ Km (Sl.on r) h hh ∧ Gw lo hh r 1 ((pre ++ m1 ++ (mid.drop k ++ post)).map (vv sl))) (fun t _ => (((pre.length + mid.length + 1 : Nat) : Int) - t).toNat) ?_
    ⟨1, mid.take 1, by omega, Nat.le_refl _, List.Perm.refl _, ?_, Km.refl _ _, ?_⟩
  · rintro t hh ⟨k, m1, rfl, hk, hperm, hs, K, G1⟩ self hself
    have hm1 := hperm.length_eq
    rw [List.length_take] at hm1
    unfold slices_insertionSortCmpFunc_slapi_Value_l1
    refine ite_w (fun hc => ?_) (fun hc => ?_)
    · have hkl : k < mid.length := by have := of_decide_eq_true hc; omega
      have hxm : mid[k] ∈ ss := hp _ (List.getElem_mem hkl)
      have hm1s : ∀ p ∈ m1, p ∈ ss := fun p hp1 => hp p (List.mem_of_mem_take (hperm.mem_iff.1 hp1))
      rw [List.drop_eq_getElem_cons hkl] at G1
      generalize hxx : mid[k] = x at hxm G1
      refine M.loop_inv (fun (t : Int) h2 => ∃ u w : List α, t = ((pre.length + u.length : Nat) : Int) ∧ u ++ w = m1 ∧ (∀ y ∈ w, cmpV (key x) (key y) < 0) ∧ Km (Sl.on r) h h2 ∧ Gw lo h2 r 1 ((pre ++ u ++ x :: (w ++ (mid.drop (k + 1) ++ post))).map (vv sl))) (fun t _ => t.toNat) ?_
        ⟨m1, [], by omega, by simp, fun y hy => (by cases hy), K, by simpa using G1⟩
      rintro t h2 ⟨u, w, rfl, huw, hw, K2, G2⟩ self2 hself2
      have hul : u.length ≤ mid.length := by have := congrArg List.length huw; rw [List.length_append] at this; omega
      -- the place is found
      have done : (u ≠ [] → ∀ y, u.getLast? = some y → ¬ cmpV (key x) (key y) < 0) → ∀ h3, Km (Sl.on r) h h3 → Gw lo h3 r 1 ((pre ++ u ++ x :: (w ++ (mid.drop (k + 1) ++ post))).map (vv sl)) →
          (slices_insertionSortCmpFunc_slapi_Value_j1 self self2 r ((pre.length + k : Nat) : Int) ((pre.length + u.length : Nat) : Int) false).wp h3 Q := by
        intro hlast h3 K3 G3
        unfold slices_insertionSortCmpFunc_slapi_Value_j1
        refine iteF rfl ?_
        rw [w64 (by omega) (by omega)]
        refine hself _ _ ⟨k + 1, u ++ x :: w, by omega, by omega, ?_, ?_, K3, ?_⟩ (by omega)
        · rw [List.take_succ_eq_append_getElem hkl, hxx]
          refine List.Perm.trans (List.perm_middle) ?_
          refine List.Perm.trans ?_ (List.perm_append_singleton _ _).symm
          rw [huw]
          exact hperm.cons x
        · unfold Srt at hs ⊢
          rw [← huw, List.pairwise_append] at hs
          rw [List.pairwise_append]
          refine ⟨hs.1, List.pairwise_cons.2 ⟨fun y hy => ?_, hs.2.1⟩, fun p hp1 q hq => ?_⟩
          · have := hw y hy
            have a := cmpV_anti (key x) (key y)
            omega
          · rcases List.mem_cons.1 hq with rfl | hq
            · have hne : u ≠ [] := List.ne_nil_of_mem hp1
              obtain ⟨u', y, rfl⟩ : ∃ u' y, u = u' ++ [y] := ⟨u.dropLast, u.getLast hne, (List.dropLast_concat_getLast hne).symm⟩
              have hy := hlast hne y (by simp)
              rcases List.mem_append.1 hp1 with hp2 | hp2
              · have h4 := hs.1
                rw [List.pairwise_append] at h4
                exact ncmp_trans hy (h4.2.2 p hp2 y (by simp))
              · rw [List.mem_singleton] at hp2
                subst hp2
                exact hy
            · exact hs.2.2 p hp1 q hq
        · rw [show pre ++ (u ++ x :: w) ++ (mid.drop (k + 1) ++ post) = pre ++ u ++ x :: (w ++ (mid.drop (k + 1) ++ post)) by simp]
          exact G3
      unfold slices_insertionSortCmpFunc_slapi_Value_l2
      refine ite_w (fun hpos => ?_) (fun hz => ?_)
      · have hne : u ≠ [] := by
          intro e
          subst e
          have := of_decide_eq_true hpos
          simp at this
        obtain ⟨u', y, rfl⟩ : ∃ u' y, u = u' ++ [y] := ⟨u.dropLast, u.getLast hne, (List.dropLast_concat_getLast hne).symm⟩
        have hys : y ∈ ss := hm1s y (by rw [← huw]; simp)
        have eL : pre ++ (u' ++ [y]) ++ x :: (w ++ (mid.drop (k + 1) ++ post)) = (pre ++ u') ++ y :: x :: (w ++ (mid.drop (k + 1) ++ post)) := by simp
        have G2' := G2
        rw [eL] at G2'
        have hjl : ((pre.length + (u' ++ [y]).length : Nat) : Int) = (((pre ++ u').length + 1 : Nat) : Int) := by simp; omega
        rw [hjl]
        have hul' : u'.length + 1 ≤ mid.length := by simpa using hul
        have hpl : (pre ++ u').length = pre.length + u'.length := List.length_append
        have hx : ((((pre ++ u') ++ y :: x :: (w ++ (mid.drop (k + 1) ++ post))).map (vv sl)))[(pre ++ u').length + 1]? = some (sl x).v := by
          rw [List.map_append, List.getElem?_append_right (by simp)]
          simp [vv]
        have hy : ((((pre ++ u') ++ y :: x :: (w ++ (mid.drop (k + 1) ++ post))).map (vv sl)))[(pre ++ u').length]? = some (sl y).v := by
          rw [List.map_append, List.getElem?_append_right (by simp)]
          simp [vv]
        refine G2'.ix1 hx rfl (fun b1 hb1 hc1 hf1 => ?_)
        rw [w64 (by omega) (by omega), show ((((pre ++ u').length + 1 : Nat) : Int) - 1) = (((pre ++ u').length : Nat) : Int) by omega]
        refine G2'.ix1 hy rfl (fun b2 hb2 hc2 hf2 => ldL_b hc1 (ldL_b hc2 (bind_w (C.call h2 (C.keep _ _ hT K2) x y hxm hys _ (fun h3 e3 => ?_)))))
        have K3 := K2.trans (Km.ext e3)
        by_cases hlt : cmpV (key x) (key y) < 0
        · rw [decide_eq_true hlt]
          unfold slices_insertionSortCmpFunc_slapi_Value_j1
          refine iteT rfl (swap_b (G2'.ext e3) rfl (by omega) (fun h4 K4 G4 => ?_))
          rw [w64 (by omega) (by omega)]
          refine hself2 _ _ ⟨u', y :: w, by omega, by rw [← huw]; simp, fun z hz => ?_, K3.trans K4, by simpa using G4⟩ (by omega)
          rcases List.mem_cons.1 hz with rfl | hz
          · exact hlt
          · exact hw z hz
        · rw [decide_eq_false hlt]
          have h5 := done (fun _ z hz => by simp at hz; subst hz; exact hlt) h3 K3 (by rw [eL]; exact G2'.ext e3)
          rw [hjl] at h5
          exact h5
      · have hu0 : u = [] := by
          have := of_decide_eq_false hz
          exact List.length_eq_zero_iff.1 (by omega)
        subst hu0
        exact done (fun h => absurd rfl h) h2 K2 G2
    · have hkl : mid.length ≤ k := by have := of_decide_eq_false hc; omega
      rw [List.take_of_length_le hkl] at hperm
      rw [List.drop_of_length_le hkl, List.nil_append] at G1
      exact pure_w (H _ _ G1 hperm hs K)
  · unfold Srt
    cases mid with
    | nil => exact List.Pairwise.nil
    | cons a m => simp
  · rw [show pre ++ mid.take 1 ++ (mid.drop 1 ++ post) = pre ++ (mid.take 1 ++ mid.drop 1) ++ post by simp, List.take_append_drop]
    exact G
end Gx
namespace Gx
open Go
set_option linter.unusedVariables false
set_option linter.unusedSimpArgs false
def piece (x : Sl) (i : Nat) : Sl := ⟨x.base.map (fun a => a.add (2 * i * 4)), min 2 (x.len - 2 * i), min 2 (x.len - 2 * i)⟩
def pieces (x : Sl) : List Sl := (List.range ((x.len + 1) / 2)).map (piece x)
theorem pieces_len (x : Sl) : (pieces x).length = (x.len + 1) / 2 := by simp [pieces]
theorem pieces_get (x : Sl) {i : Nat} (hi : i < (pieces x).length) : (pieces x)[i] = piece x i := by simp [pieces]
def pairAt (l : List Vl) (i : Nat) : List Vl := (l.drop (2 * i)).take 2
theorem piece_rep {S : Nat → Prop} {h : Heap} {x : Sl} {l : List Vl} (H : VsRepS S h x l) {i : Nat} (hi : 2 * i < l.length) : VsRepS S h (piece x i) (pairAt l i) := by
  have hl := H.len
  have hlen : (pairAt l i).length = min 2 (l.length - 2 * i) := by simp [pairAt]
  refine ⟨by rw [hlen]; show min 2 (x.len - 2 * i) = _; rw [hl], Nat.le_refl _, by show min 2 (x.len - 2 * i) ≤ _; omega, VsAtS.of (fun j hj => ?_)⟩
  rw [hlen] at hj
  obtain ⟨a, cs, ha, hS, hs, hc, hv⟩ := H.get (j := 2 * i + j) (by omega)
  refine ⟨a.add (2 * i * 4), cs, by show x.base.map _ = _; rw [ha]; rfl, by rw [add_block]; exact hS, hs, fun m hm => ?_, ?_⟩
  · rw [Addr.add_add, ← hc m hm]
    congr 2; omega
  · have : (pairAt l i)[j]'(by rw [hlen]; omega) = l[2 * i + j]'(by omega) := by simp [pairAt]
    rw [this]; exact hv
theorem slL3_b {β : Type} {h : Heap} {Q : β → Heap → Prop} {s : Sl} {lo hi mx : Int} {sz : Nat} {f : Sl → M β} (h0 : 0 ≤ lo) (h1 : lo ≤ hi) (h2 : hi ≤ mx) (h3 : mx ≤ s.cap) (H : (f ⟨if mx.toNat = lo.toNat then s.base else s.base.map (·.add (lo.toNat * sz)), hi.toNat - lo.toNat, mx.toNat - lo.toNat⟩).wp h Q) : (slL3 s lo hi mx sz >>= f).wp h Q := ⟨_, ⟨h0, h1, h2, h3, rfl⟩, H⟩
theorem chunk_seq {x : Sl} {a b : Addr} (hlc : x.len ≤ x.cap) (hb : x.len ≤ 1099511627776) {J : Nat → Heap → Prop} (hJ : ∀ i h1, J i h1 → hcell h1 a = some x.v ∧ hcell h1 b = some (.int .i64 2)) :
    SeqW Go.Proofs.Tryz.prog (fun x : Sl => [x.v]) (pieces x) (.func (.func fn_slices_Chunk_slapi_Value_api_Value_1) #[] #[.pointer (some a), .pointer (some b)]) J := by
  intro l Inv Stop h hInv h0 hround
  refine callV_f cl_slices_Chunk_slapi_Value_api_Value_1 (S_slices_Chunk_slapi_Value_api_Value_1 (yV l) a b) ?_
  unfold slices_Chunk_slapi_Value_api_Value_1
  rw [pieces_len]
  refine M.loop_inv (fun (t : Int) h' => ∃ i : Nat, t = ((2 * i : Nat) : Int) ∧ i ≤ (x.len + 1) / 2 ∧ Inv i h') (fun t _ => ((x.len : Int) + 2 - t).toNat) ?_ ⟨0, rfl, Nat.zero_le _, h0⟩
  rintro t h' ⟨i, rfl, hi, hI⟩ self hself
  unfold slices_Chunk_slapi_Value_api_Value_1_l1
  obtain ⟨ca, cb⟩ := hJ i h' (hInv i h' hI)
  refine ldL_b ca (ite_w (fun hc => ?_) (fun hc => ?_))
  · have hlt : 2 * i < x.len := by have := of_decide_eq_true hc; omega
    refine ldI_b cb (ldL_b ca (slL_b (by omega) (by omega) (by omega) (ldL_b ca ?_)))
    have hmin : iMin 2 (((x.len : Int).toNat - ((2 * i : Nat) : Int).toNat : Nat) : Int) = ((min 2 (x.len - 2 * i) : Nat) : Int) := by
      unfold iMin
      (repeat' split) <;> omega
    dsimp only
    rw [hmin, w64 (by omega) (by omega)]
    refine slL3_b (by omega) (by omega) (by omega) (by omega) ?_
    have hp : (⟨if (((2 * i : Nat) : Int) + ((min 2 (x.len - 2 * i) : Nat) : Int)).toNat = ((2 * i : Nat) : Int).toNat then x.base else x.base.map (fun a => a.add (((2 * i : Nat) : Int).toNat * 4)), (((2 * i : Nat) : Int) + ((min 2 (x.len - 2 * i) : Nat) : Int)).toNat - ((2 * i : Nat) : Int).toNat, (((2 * i : Nat) : Int) + ((min 2 (x.len - 2 * i) : Nat) : Int)).toNat - ((2 * i : Nat) : Int).toNat⟩ : Sl) = piece x i := by
      have e1 : (((2 * i : Nat) : Int) + ((min 2 (x.len - 2 * i) : Nat) : Int)).toNat = 2 * i + min 2 (x.len - 2 * i) := by omega
      have e2 : ((2 * i : Nat) : Int).toNat = 2 * i := rfl
      rw [e1, e2, if_neg (by omega)]
      unfold piece
      congr 1 <;> omega
    rw [hp]
    have hr := hround i (by rw [pieces_len]; omega) h' hI
    rw [pieces_get x (by rw [pieces_len]; omega)] at hr
    refine bind_w ((callV _ _ _ _).mono ?_ hr)
    rintro b1 h2 hb1
    cases b1 with
    | true =>
      have hb1 : Inv (i + 1) h2 := hb1
      obtain ⟨ca2, cb2⟩ := hJ _ _ (hInv _ _ hb1)
      refine iteF rfl (ldI_b cb2 ?_)
      rw [w64 (by omega) (by omega)]
      exact hself _ _ ⟨i + 1, by omega, by omega, hb1⟩ (by omega)
    | false => exact iteT rfl (pure_w (.inr hb1))
  · have hge : (x.len + 1) / 2 = i := by have := of_decide_eq_false hc; omega
    rw [hge]
    exact pure_w (.inl hI)
end Gx
namespace Gx
open Go Go.Proofs Go.Shelf Go.RowKit Go.Lib
set_option linter.unusedVariables false
set_option linter.unusedSimpArgs false
set_option maxRecDepth 100000
theorem rounds0_w {P : Program} {α : Type} {enc : α → List Value} {js : List Code} {Y : Nat → α → M Nat} {Yb : α → M Nat} {r : Loop} {l : Nat} (hY : ∀ x, Y l x = (beg l >>= fun _ => Yb x)) (hr : Rounds P enc js Y r l) {J J' : Heap → Prop} {x : α}
    (hJ : ∀ h1 h2, J h1 → Upd l h1 h2 → J h2) (hJ' : ∀ h1 h2, J' h1 → Upd l h1 h2 → J' h2)
    (hbody : ∀ h1 o, J h1 → h1[l]? = some o → (Yb x).wp h1 (fun j h2 => h2[l]? = some o ∧ j = 0 ∧ J' h2)) {h1 : Heap} (h0 : J h1) (hrec : h1[l]? = some (recAt r .ready none)) :
    (callV P (fun b : Bool => .bool b) (yV l) (enc x)).wp h1 (fun b h2 => if b = true then (J' h2 ∧ h2[l]? = some (recAt r .ready none)) else False) := by
  refine hr x h1 _ .ready none hrec ?_
  rw [hY]
  refine ⟨{ r with state := .ready, pending := none }, hrec, rfl, ?_⟩
  have hb := set_self (o' := recAt r .busy none) hrec
  refine (Yb x).mono ?_ (hbody _ _ (hJ _ _ h0 (Upd.set_ h1 l (recAt r .busy none))) hb)
  rintro j h2 ⟨h3, rfl, h4⟩
  refine ⟨.busy, none, h3, ?_⟩
  show if true = true then _ else _
  rw [if_pos rfl]
  exact ⟨hJ' _ _ h4 (Upd.set_ _ _ _), set_self h3⟩
theorem rgE_w {P : Program} {α : Type} {enc : α → List Value} {js : List Code} {Y : Nat → α → M Nat} {Yb : α → M Nat} (hY : ∀ l x, Y l x = (beg l >>= fun _ => Yb x)) {g : Value} (hg : ∀ l, g ≠ .func (.yield l) #[] #[]) {h : Heap} {Q : Nat × Nat → Heap → Prop} {xs : List α}
    (J J0 : Nat → Heap → Prop) (hJ : ∀ i h1 h2, J i h1 → Upd (h.size + 1) h1 h2 → J i h2) (hJ0 : ∀ i h1, J i h1 → J0 i h1)
    (hseq : SeqW P enc xs g J0) (h0 : ∀ r : Loop, J 0 ((h.push (.deferred (some []))).push (recAt r .ready none)))
    (hbody : ∀ i (hi : i < xs.length) h1 o, J i h1 → h1[h.size + 1]? = some o → (Yb xs[i]).wp h1 (fun j h2 => h2[h.size + 1]? = some o ∧ j = 0 ∧ J (i + 1) h2))
    (hq0 : ∀ h1, J xs.length h1 → Q (0, h.size) h1) : (rgF P enc js Y g).wp h Q := by
  refine ⟨hg, fun r hr => ?_⟩
  have hrec : ((h.push (.deferred (some []))).push (recAt r .ready none))[h.size + 1]? = some (recAt r .ready none) := by
    have : h.size + 1 = (h.push (.deferred (some []))).size := by simp
    rw [this]; exact get_push_eq
  refine (callV P _ _ _).mono ?_ (hseq (h.size + 1) (fun i h1 => J i h1 ∧ h1[h.size + 1]? = some (recAt r .ready none)) (fun h1 => False) _ (fun i h1 hh => hJ0 i h1 hh.1) ⟨h0 r, hrec⟩ (fun i hi h1 hh => rounds0_w (hY _) hr (hJ i) (hJ (i + 1)) (hbody i hi) hh.1 hh.2))
  rintro _ h1 (⟨h2, h3⟩ | h2)
  · exact ⟨.ready, 0, by decide, h3, hq0 _ (hJ _ _ _ h2 (Upd.set_ _ _ _))⟩
  · exact h2.elim
theorem box_set {h : Heap} {b : Nat} {v u : Value} {t : TypeId} (hb : h[b]? = some (.cells #[v] t (0, 0))) : (hset h ⟨b, 0, none⟩ u)[b]? = some (.cells #[u] t (0, 0)) := by
  rw [hset_at hb]; rfl
theorem apSl_b {β : Type} {lo : Nat} {h : Heap} {Q : β → Heap → Prop} {r x : Sl} {ss : List Value} {f : Sl → M β} (G : Gw lo h r 1 ss) (hle : lo ≤ h.size) (hm : ss.length ≤ 1099511627776)
    (H : ∀ h' r', Gw lo h' r' 1 (ss ++ [x.v]) → h.size ≤ h'.size → (∀ j, j < h.size → ¬ Sl.on r j → h'[j]? = h[j]?) → (f r').wp h' Q) : (bdL ty_sl_api_Value 1 #[x.v] >>= fun y => apL ty_sl_api_Value 1 24 (#[.slice none 0 0] : Array Value) r y >>= f).wp h Q := by
  refine bdL_b ?_
  have e6 := Ext.push h (.cells #[x.v] ty_sl_api_Value)
  have g6 : (h.push (.cells #[x.v] ty_sl_api_Value))[h.size]? = some (.cells #[x.v] ty_sl_api_Value (0, 0)) := get_push_eq
  generalize h.push (.cells #[x.v] ty_sl_api_Value) = h6 at e6 g6 ⊢
  have G6 := G.ext e6
  have hrl := G6.len
  rw [Nat.mul_one] at hrl
  refine ap_grow (vs := ss) (news := [x.v]) rfl G6 rfl (.inr ⟨_, rfl, fun j v hj => ?_⟩) (fun v hv => by simp at hv; subst hv; exact one_v x) (by dsimp only; omega) (by dsimp only; omega) (by have := e6.size; omega) (fun h7 r7 G7 hlen7 hs7 same7 on7 => ?_)
  · rw [add_mk, Nat.zero_add, hcell_blk g6]
    rw [show (#[x.v] : Array Value) = [x.v].toArray from rfl]
    simpa using hj
  · exact H h7 r7 G7 (Nat.le_trans e6.size hs7) (fun j hj ho => (same7 j (by have := e6.size; omega) ho).trans (e6.same j hj))
theorem collect_spec {h : Heap} {Q : Sl → Heap → Prop} {g : Value} {xs : List Sl} (hg : ∀ l, g ≠ .func (.yield l) #[] #[]) (hxs : xs.length ≤ 1000000000) (hseq : SeqW Go.Proofs.Tryz.prog (fun x : Sl => [x.v]) xs g (fun _ h1 => Ext h h1))
    (H : ∀ h' r, Ext h h' → Gw h.size h' r 1 (xs.map Sl.v) → Q r h') : (slices_Collect_slapi_Value g).wp h Q := by
  unfold slices_Collect_slapi_Value slices_AppendSeq_slslapi_Value_slapi_Value
  refine bind_w (mkV_b (fun h1 e1 s1 g1 => ?_))
  refine bind_w (rgE_w (Yb := fun x7 => ldL ⟨h.size, 0, none⟩ >>= fun r => bdL ty_sl_api_Value 1 #[(x7 : Sl).v] >>= fun y => apL ty_sl_api_Value 1 24 (#[.slice none 0 0] : Array Value) r y >>= fun r2 => stV ⟨h.size, 0, none⟩ ((r2 : Sl).v) >>= fun _ => M.pure 0) (fun _ _ => rfl) hg (xs := xs)
    (fun i hh => Ext h hh ∧ (∃ r, hh[h.size]? = some (.cells #[(r : Sl).v] ty_sl_sl_api_Value (0, 0)) ∧ Gw (h.size + 3) hh r 1 ((xs.take i).map Sl.v)) ∧ hh[h1.size]? = some (.deferred (some [])) ∧ h.size + 3 ≤ hh.size) (fun _ h1 => Ext h h1) ?_ (fun i hh hJ => hJ.1) hseq (fun r => ?_) (fun i hi h2 o hJ ho => ?_) (fun h2 hJ => ?_))
  · rintro i h2 h3 ⟨E, ⟨r, hr, G⟩, hd, hs⟩ u
    refine ⟨E.upd u (by omega), ⟨r, (u.ne _ (by omega)).trans hr, G.same (fun k hk => u.ne k (by have := (G.lt hk).2; omega))⟩, (u.ne _ (by omega)).trans hd, by rw [u.size]; exact hs⟩
  · have e2 := Ext.push h1 (.deferred (some []))
    have e3 := Ext.push (h1.push (.deferred (some []))) (recAt r .ready none)
    refine ⟨(e1.trans e2).trans e3, ⟨Sl.nil, (e2.trans e3).blk g1, Gw.nil _ _ _⟩, e3.blk get_push_eq, ?_⟩
    simp; omega
  · obtain ⟨E, ⟨r, hr, G⟩, hd, hs⟩ := hJ
    refine ldL_b (n := r) (by rw [hcell_blk hr]; rfl) (apSl_b G (by omega) (by simp; omega) (fun h3 r3 G3 s3 same3 => ?_))
    have hno : ∀ k, k < h.size + 3 → ¬ Sl.on r k := fun k hk ho => by have := (G.lt ho).2; omega
    have hr3 := (same3 h.size (by omega) (hno _ (by omega))).trans hr
    refine stV_b (x := r.v) (by rw [hcell_blk hr3]; rfl) (hfrozen_blk hr3) (one_v r3) (pure_w ?_)
    have u4 := Upd.hset h3 h.size 0 r3.v
    have g4 := box_set (u := r3.v) hr3
    generalize hset h3 ⟨h.size, 0, none⟩ r3.v = h4 at u4 g4 ⊢
    refine ⟨(u4.ne _ (by omega)).trans ((same3 _ (by omega) (hno _ (by omega))).trans ho), rfl, ?_, ⟨r3, g4, ?_⟩, (u4.ne _ (by omega)).trans ((same3 _ (by omega) (hno _ (by omega))).trans hd), by rw [u4.size]; omega⟩
    · refine ⟨by rw [u4.size]; have := E.size; omega, fun k hk => (u4.ne k (by omega)).trans ((same3 k (by omega) (hno k (by omega))).trans (E.same k hk))⟩
    · rw [List.take_succ_eq_append_getElem hi, List.map_append]
      exact G3.same (fun k hk => u4.ne k (by have := (G3.lt hk).2; omega))
  · obtain ⟨E, ⟨r, hr, G⟩, hd, hs⟩ := hJ
    rw [List.take_length] at G
    refine ldL_b (n := r) (by rw [hcell_blk hr]; rfl) ⟨hd, pure_w (pure_w ?_)⟩
    have u3 := Upd.set_ h2 h1.size (.deferred none)
    exact H _ r (E.upd u3 (by omega)) ((G.same (fun k hk => u3.ne k (by have := (G.lt hk).2; omega))).weak (by omega))
def SortsN (n : Nat) : Prop := ∀ {α : Type} {sl : α → Sl} {lo : Nat} {h : Heap} {Q : Unit → Heap → Prop} {r : Sl} {T : Heap → Prop} {cmp : Value} {key : α → Vl} {ss : List α}, ss.length = n → Cmpr sl r T cmp key ss → T h → Gw lo h r 1 (ss.map (vv sl)) →
  (∀ h' ss', Gw lo h' r 1 (ss'.map (vv sl)) → ss'.Perm ss → Srt key ss' → Km (Sl.on r) h h' → Q () h') → (slices_SortStableFunc_slslapi_Value_slapi_Value r cmp).wp h Q
theorem Cmpr.perm {α : Type} {sl : α → Sl} {r : Sl} {T : Heap → Prop} {cmp : Value} {key : α → Vl} {ss ss' : List α} (C : Cmpr sl r T cmp key ss) (p : ss'.Perm ss) : Cmpr sl r T cmp key ss' :=
  ⟨C.keep, fun hh hT a b ha hb Q H => C.call hh hT a b (p.mem_iff.1 ha) (p.mem_iff.1 hb) Q H⟩
theorem sorts20 {n : Nat} (hn : n ≤ 20) : SortsN n := by
  intro α sl lo h Q r T cmp key ss hlen C hT G H
  unfold slices_SortStableFunc_slslapi_Value_slapi_Value slices_stableCmpFunc_slapi_Value
  have hrl := G.len
  rw [List.length_map, Nat.mul_one] at hrl
  refine bind_w (M.loop_inv (fun (t : Int × Int) hh => ∃ ss', Gw lo hh r 1 (ss'.map (vv sl)) ∧ ss'.Perm ss ∧ Km (Sl.on r) h hh ∧ (t = (0, 20) ∨ (t = (20, 40) ∧ n = 20 ∧ Srt key ss'))) (fun t _ => (40 - t.1).toNat) ?_ ⟨ss, G, List.Perm.refl _, Km.refl _ _, .inl rfl⟩)
  rintro t hh ⟨ss', G1, hp, K1, ht⟩ self hself
  have hl' := hp.length_eq
  -- the blocks are merged: there is one
  have last : ∀ h2 ss2, Gw lo h2 r 1 (ss2.map (vv sl)) → ss2.Perm ss → Srt key ss2 → Km (Sl.on r) h h2 → (M.loop (slices_stableCmpFunc_slapi_Value_l2 r (r.len : Int) cmp) 20).wp h2 (fun _ h' => (M.pure () : M Unit).wp h' Q) := by
    intro h2 ss2 G2 p2 s2 K2
    refine M.loop_inv (fun (t : Int) hh => t = 20 ∧ hh = h2) (fun _ _ => 0) ?_ ⟨rfl, rfl⟩
    rintro t hh ⟨rfl, rfl⟩ self2 _
    unfold slices_stableCmpFunc_slapi_Value_l2
    exact iteF (decide_eq_false (by omega)) (pure_w (pure_w (H _ _ G2 p2 s2 K2)))
  unfold slices_stableCmpFunc_slapi_Value_l1
  rcases ht with rfl | ⟨rfl, h20, hs⟩
  · dsimp only
    refine ite_w (fun hc => ?_) (fun hc => ?_)
    · have h20 : n = 20 := by have := of_decide_eq_true hc; omega
      have hi := isort_spec (pre := []) (mid := ss') (post := []) (Q := fun _ h2 => (self (20, IntKind.wrap .i64 (20 + 20))).wp h2 (fun _ h' => (M.pure () : M Unit).wp h' Q)) (C.perm hp) (C.keep _ _ hT K1) (by simpa using G1) (fun p hp => hp) (by simp; omega)
        (fun h2 mid' G2 p2 s2 K2 => hself _ _ ⟨mid', by simpa using G2, p2.trans hp, K1.trans K2, .inr ⟨by rw [w64 (by omega) (by omega)]; rfl, h20, s2⟩⟩ (by decide))
      rw [show ((([] : List α).length : Nat) : Int) = 0 from rfl, show (((([] : List α).length + ss'.length : Nat)) : Int) = 20 by rw [hl', hlen, h20]; rfl] at hi
      exact bind_w hi
    · have hlt : n < 20 := by have := of_decide_eq_false hc; omega
      have hi := isort_spec (pre := []) (mid := ss') (post := []) (Q := fun _ h2 => (M.loop (slices_stableCmpFunc_slapi_Value_l2 r (r.len : Int) cmp) 20).wp h2 (fun _ h' => (M.pure () : M Unit).wp h' Q)) (C.perm hp) (C.keep _ _ hT K1) (by simpa using G1) (fun p hp => hp) (by simp; omega)
        (fun h2 mid' G2 p2 s2 K2 => last _ _ (by simpa using G2) (p2.trans hp) s2 (K1.trans K2))
      rw [show ((([] : List α).length : Nat) : Int) = 0 from rfl, show (((([] : List α).length + ss'.length : Nat)) : Int) = (r.len : Int) by simp; omega] at hi
      exact bind_w hi
  · dsimp only
    refine iteF (decide_eq_false (by omega)) ?_
    have hi := isort_spec (pre := ss') (mid := []) (post := []) (Q := fun _ h2 => (M.loop (slices_stableCmpFunc_slapi_Value_l2 r (r.len : Int) cmp) 20).wp h2 (fun _ h' => (M.pure () : M Unit).wp h' Q)) (C.perm hp) (C.keep _ _ hT K1) (by simpa using G1) (fun p hp => by cases hp) (by simp; omega)
      (fun h2 mid' G2 p2 s2 K2 => last _ ss' (by have e := List.perm_nil.1 p2; subst e; simpa using G2) hp hs (K1.trans K2))
    rw [show ((ss'.length : Nat) : Int) = 20 by omega, show (((ss'.length + ([] : List α).length : Nat)) : Int) = (r.len : Int) by simp; omega] at hi
    exact bind_w hi
end Gx
namespace Gx
open Go Go.Proofs Go.Shelf Go.RowKit Go.Lib
set_option linter.unusedVariables false
set_option linter.unusedSimpArgs false
set_option maxRecDepth 100000
theorem vgrow_spec {h : Heap} {Q : Sl → Heap → Prop} {n : Nat} (hn : n ≤ 1099511627776) (hq : ∀ h' r, Ext h h' → Gw h.size h' r 4 [] → Q r h') : (slices_Grow_slapi_Value_api_Value Sl.nil (n : Int)).wp h Q := by
  unfold slices_Grow_slapi_Value_api_Value
  refine iteF (by simp) ?_
  unfold slices_Grow_slapi_Value_api_Value_j1
  have e : IntKind.wrap .i64 ((n : Int) - IntKind.wrap .i64 ((Sl.nil.cap : Int) - (Sl.nil.len : Int))) = (n : Int) := by
    show IntKind.wrap .i64 ((n : Int) - IntKind.wrap .i64 (0 - 0)) = _
    rw [w64 (n := 0 - 0) (by omega) (by omega), w64 (by omega) (by omega)]
    omega
  rw [e]
  refine ite_w (fun hc => ?_) (fun hc => pure_w (hq _ _ (Ext.refl h) (Gw.nil _ _ _)))
  have hc : 0 < n := by have := of_decide_eq_true hc; omega
  refine slL_b (by omega) (by show (0 : Int) ≤ ((0 : Nat) : Int); omega) (by show ((0 : Nat) : Int) ≤ ((0 : Nat) : Int); omega) ?_
  refine bind_w ⟨by omega, by omega, by omega, _, rfl, ?_⟩
  unfold apGo
  have h0 : ¬ ((⟨if Sl.nil.cap = (0 : Int).toNat then Sl.nil.base else Sl.nil.base.map (·.add ((0 : Int).toNat * 4)), (Sl.nil.cap : Int).toNat - (0 : Int).toNat, Sl.nil.cap - (0 : Int).toNat⟩ : Sl).len + (n : Int).toNat ≤ (⟨if Sl.nil.cap = (0 : Int).toNat then Sl.nil.base else Sl.nil.base.map (·.add ((0 : Int).toNat * 4)), (Sl.nil.cap : Int).toNat - (0 : Int).toNat, Sl.nil.cap - (0 : Int).toNat⟩ : Sl).cap) := by
    show ¬ (0 + (n : Int).toNat ≤ 0)
    omega
  rw [if_neg h0]
  refine ⟨by show (0 + (n : Int).toNat) * 56 ≤ _; omega, by show 0 + (n : Int).toNat ≤ _; omega, [], rfl, .inl rfl, fun cap hcap => ?_⟩
  have hcap' : 0 + (n : Int).toNat ≤ cap := hcap
  refine slL_b (by omega) (by show (0 : Int) ≤ ((0 : Nat) : Int); omega) (by show ((0 : Nat) : Int) ≤ (cap : Int); omega) ?_
  refine pure_w (hq _ _ (Ext.push _ _) (.inr ⟨h.size, _, _, ?_, Nat.le_refl _, get_push_eq, ?_, Nat.zero_le _, rfl, fun j v hj => by cases hj⟩))
  · show (if cap = (0 : Int).toNat then _ else _) = _
    split <;> rfl
  · simp [zRow_size]
    show n * 4 + (cap - (0 + n)) * 4 = cap * 4
    omega
def flatL (L : List (List Vl)) : List Vl := L.flatten
theorem flatL_take {L : List (List Vl)} {k : Nat} (hk : k < L.length) : flatL (L.take (k + 1)) = flatL (L.take k) ++ L[k] := by
  unfold flatL
  rw [List.take_succ_eq_append_getElem hk, List.flatten_append]
  simp
theorem flatL_le (L : List (List Vl)) (k : Nat) : (flatL (L.take k)).length ≤ (flatL L).length := by
  unfold flatL
  conv => rhs; rw [← List.take_append_drop k L, List.flatten_append, List.length_append]
  omega
theorem vconcat_spec {S : Nat → Prop} {h : Heap} {Q : Sl → Heap → Prop} {lo : Nat} {x : Sl} {ss : List Sl} {L : List (List Vl)} (G : Gw lo h x 1 (ss.map Sl.v)) (hsL : ss.length = L.length) (hS : ∀ b, S b → b < h.size) (hr : ∀ k (h1 : k < ss.length) (h2 : k < L.length), VsRepS S h ss[k] L[k])
    (hL : (flatL L).length ≤ 1000000000) (hl : L.length ≤ 1000000000) (H : ∀ h' r css, Ext h h' → VGw h.size S h' r css (flatL L) → Q r h') : (slices_Concat_slapi_Value_api_Value x).wp h Q := by
  have hxl : x.len = L.length := by have := G.len; rw [List.length_map, Nat.mul_one] at this; omega
  have cell : ∀ {h1 : Heap}, Ext h h1 → ∀ {k : Nat} (hk : k < L.length), ∃ b, x.base = some ⟨b, 0, none⟩ ∧ hcell h1 ⟨b, k, none⟩ = some (ss[k]'(by omega)).v := fun e k hk =>
    (G.ext e).cell (by rw [List.getElem?_map, List.getElem?_eq_getElem (by omega)]; rfl)
  unfold slices_Concat_slapi_Value_api_Value
  refine M.loop_inv (fun (t : Int × Int) h' => h' = h ∧ ∃ k : Nat, t = (((flatL (L.take k)).length : Int), (k : Int)) ∧ k ≤ L.length) (fun t _ => ((L.length : Int) - t.2).toNat) ?_ ⟨rfl, 0, by simp [flatL], Nat.zero_le _⟩
  rintro t h' ⟨rfl, k, rfl, hk⟩ self hself
  unfold slices_Concat_slapi_Value_api_Value_l1
  rw [hxl]
  dsimp only
  refine ite_w (fun hlt => ?_) (fun hge => ?_)
  · have hlt : k < L.length := by have := of_decide_eq_true hlt; omega
    obtain ⟨b, hb, hc⟩ := cell (Ext.refl _) hlt
    refine ixL_b (by omega) (by rw [hxl]; omega) hb ?_
    rw [add_mk, Nat.zero_add]
    refine ldL_b (n := ss[k]'(by omega)) (by rw [show (k : Int).toNat * 1 = k by omega]; exact hc) ?_
    have h2 := (hr k (by omega) hlt).len
    have h3 := flatL_le L (k + 1)
    have e : IntKind.wrap .i64 (((flatL (L.take k)).length : Int) + ((ss[k]'(by omega)).len : Int)) = (((flatL (L.take (k + 1))).length : Nat) : Int) := by
      rw [flatL_take hlt, List.length_append] at h3 ⊢
      rw [w64 (by omega) (by omega)]
      omega
    rw [e]
    refine iteF (by simp) ?_
    rw [w64 (by omega) (by omega)]
    exact hself _ _ ⟨rfl, k + 1, by simp, by omega⟩ (by dsimp only; omega)
  · have hge : k = L.length := by have := of_decide_eq_false hge; omega
    subst hge
    rw [List.take_length]
    refine bind_w (vgrow_spec (by omega) (fun h1 r1 e1 g1 => ?_))
    refine M.loop_inv (fun (t : Sl × Int) h2 => Ext h' h2 ∧ ∃ (k : Nat) (css : List (Array Value)), t.2 = (k : Int) ∧ k ≤ L.length ∧ VGw h'.size S h2 t.1 css (flatL (L.take k))) (fun t _ => ((L.length : Int) - t.2).toNat) ?_
      ⟨e1, 0, [], rfl, Nat.zero_le _, ⟨g1, fun c hc => (by cases hc), rfl, fun j h1 => (by cases h1)⟩⟩
    rintro ⟨r, t⟩ h2 ⟨E, k, css, hkk, hk, hg⟩ self hself
    dsimp only at hkk hg
    subst hkk
    unfold slices_Concat_slapi_Value_api_Value_l2
    refine ite_w (fun hlt => ?_) (fun hge => ?_)
    · have hlt : k < L.length := by have := of_decide_eq_true hlt; omega
      obtain ⟨b, hb, hc⟩ := cell E hlt
      refine ixL_b (by omega) (by rw [hxl]; omega) hb ?_
      rw [add_mk, Nat.zero_add]
      refine ldL_b (n := ss[k]'(by omega)) (by rw [show (k : Int).toNat * 1 = k by omega]; exact hc) ?_
      have hk2 := hr k (by omega) hlt
      obtain ⟨css', w4, hcl, hrep, hrd⟩ := hk2.css
      have h3 := flatL_le L (k + 1)
      rw [flatL_take hlt, List.length_append] at h3
      refine bind_w (vap_grow (l' := L[k]) (css' := css') hg E.size (fun b hb => ⟨by have := hS b hb; have := E.size; omega, fun ho => by have := (hg.gw.lt ho).2; have := hS b hb; omega⟩) w4 hcl hk2.len (E.reads hrd) (fun j h1' h2' => (hrep j h1' h2').same (fun b hb => E.same b (hS b hb))) (by omega) (fun h3 r3 G3 hs3 same3 on3 => ?_))
      rw [w64 (by omega) (by omega)]
      refine hself _ _ ⟨⟨by have := E.size; omega, fun i hi => (same3 i (by have := E.size; omega) (fun ho => by have := (hg.gw.lt ho).2; omega)).trans (E.same i hi)⟩, k + 1, css ++ css', by simp, by omega, ?_⟩ (by dsimp only; omega)
      rw [flatL_take hlt]
      exact G3
    · have hge : k = L.length := by have := of_decide_eq_false hge; omega
      subst hge
      rw [List.take_length] at hg
      exact pure_w (H _ _ css E hg)
theorem vmade_spec {v : Vl} {h : Heap} {Q : Array Value × Int → Heap → Prop} {c : Array Value} (hv : VRep h v c) (hw : wt v ≤ 1099511627776) (H : ∀ h' c', Ext h h' → VRepS (h.size ≤ ·) h' (if mayV 8 v = true then v else vl0) c' → Q (c', checkV v) h') : (value_made c).wp h Q := by
  unfold value_made
  have hc := hv.size
  refine mkV_b (fun h1 e1 s1 g1 => mkV_b (fun h2 e2 s2 g2 => ?_))
  have g1' := e2.blk g1
  refine ldR g1' hc (bind_w (vcheck_spec (hv.ext (e1.trans e2)) (fun h3 e3 => ?_)))
  have E3 := (e1.trans e2).trans e3
  have g2' := e3.blk g2
  by_cases hm : mayV 8 v = true
  · have hk : checkV v = 0 := by unfold checkV; rw [if_pos hm]
    rw [hk] at H ⊢
    rw [if_pos hm] at H
    refine iteF rfl (ldR (e3.blk g1') hc (bind_w (vclone_spec _ v (Nat.lt_succ_self _) (hv.ext E3) hw (fun h4 c4 e4 V4 => need_b V4.size (stR (e4.blk g2') (by rw [V4.size]; exact Nat.le_refl 4) V4.to.one (fun h5 u5 g5 => ?_))))))
    rw [lay_full (by rw [Array.length_toList, V4.size]; rfl)] at g5
    have hE := E3.size
    refine ldR g5 V4.size (pure_w (H h5 c4 ((E3.trans e4).upd u5 (by omega)) ?_))
    exact (V4.same (fun k hk => u5.ne k (by have := e3.size; omega))).mono (fun k hk => by omega)
  · have hk : checkV v = 20 := by unfold checkV; rw [if_neg hm]
    rw [hk] at H ⊢
    rw [if_neg hm] at H
    refine iteT rfl (need_b rfl (stR g2' (Nat.le_refl 4) (vcells_one 0 0 [] Sl.nil) (fun h5 u5 g5 => ?_)))
    rw [lay_full rfl] at g5
    exact ldR g5 rfl (pure_w (H h5 _ (E3.upd u5 (by have := e1.size; omega)) (vl0_rep _ _)))
end Gx
namespace Gx
open Go Go.Proofs Go.Shelf Go.RowKit Go.Lib
set_option linter.unusedVariables false
set_option linter.unusedSimpArgs false
set_option maxRecDepth 100000
theorem list_rep2 {S : Nat → Prop} {h : Heap} {k n : Int} {l : List Vl} {x : Sl} (hk : I64 k) (hn : I64 n) (hl : VsRepS S h x l) : VRepS S h (.mk k n [] l) (vcells k n [] x) :=
  VRepS.eq.2 ⟨x, rfl, hk, hn, by decide, hl⟩
def pairsL (l : List Vl) (n : Nat) : List (List Vl) := (List.range n).map (pairAt l)
def kOf (p : List Vl) : Vl := p.headD vl0
abbrev vzM : Array Value := #[.int .i64 0, .int .i64 0, .string ByteArray.empty, .slice none 0 0]
theorem kOf_get {m : List Vl} (h : 0 < m.length) : m[0] = kOf m := by cases m with | nil => cases h | cons a r => rfl
theorem pairsL_flat (l : List Vl) : ∀ n, (pairsL l n).flatten = l.take (2 * n)
  | 0 => by simp [pairsL]
  | n + 1 => by
    have := pairsL_flat l n
    unfold pairsL at this ⊢
    rw [List.range_succ, List.map_append, List.flatten_append, this]
    simp only [List.map_cons, List.map_nil, List.flatten_cons, List.flatten_nil, List.append_nil, pairAt]
    rw [show 2 * (n + 1) = 2 * n + 2 by omega, List.take_add]
theorem wts_append : ∀ a b : List Vl, wt.wts (a ++ b) = wt.wts a + wt.wts b
  | [], b => by simp [wt.wts]
  | v :: a, b => by rw [List.cons_append, wt.wts, wt.wts, wts_append a b]; omega
theorem wts_perm {ps qs : List (List Vl)} (p : ps.Perm qs) : wt.wts ps.flatten = wt.wts qs.flatten := by
  induction p with
  | nil => rfl
  | cons x _ ih => rw [List.flatten_cons, List.flatten_cons, wts_append, wts_append, ih]
  | swap x y l => simp only [List.flatten_cons, wts_append]; omega
  | trans _ _ h1 h2 => exact h1.trans h2
inductive MapRes (l : List Vl) : Vl → Int → Prop
  | odd : l.length % 2 = 1 → MapRes l vl0 1
  | twice (ps : List (List Vl)) : l.length % 2 = 0 → ps.Perm (pairsL l (l.length / 2)) → ps.Pairwise (fun p q => ¬ cmpV (kOf q) (kOf p) < 0) → (∃ i, ∃ h : i + 1 < ps.length, kOf ps[i] = kOf ps[i + 1]) → MapRes l vl0 5
  | made (ps : List (List Vl)) : l.length % 2 = 0 → ps.Perm (pairsL l (l.length / 2)) → ps.Pairwise (fun p q => ¬ cmpV (kOf q) (kOf p) < 0) → (∀ i, ∀ h : i + 1 < ps.length, kOf ps[i] ≠ kOf ps[i + 1]) → MapRes l (if mayV 8 (.mk 5 0 [] ps.flatten) = true then .mk 5 0 [] ps.flatten else vl0) (checkV (.mk 5 0 [] ps.flatten))
abbrev It := Sl × List Vl
abbrev itKey (a : It) : Vl := kOf a.2
theorem pair2 {l : List Vl} {i : Nat} (hi : 2 * i + 1 < l.length) : (pairAt l i).length = 2 := by simp [pairAt]; omega
theorem mapcmp_spec {h : Heap} {Q : Int → Heap → Prop} {x y : Sl} {l m : List Vl} (hx : VsRep h x l) (hy : VsRep h y m) (h1 : 0 < l.length) (h2 : 0 < m.length) (H : ∀ h', Ext h h' → Q (cmpV (kOf l) (kOf m)) h') : (value_Map_1 x y).wp h Q := by
  unfold value_Map_1
  have e1 : kOf l = l[0] := by unfold kOf; cases l with | nil => cases h1 | cons a r => rfl
  have e2 : kOf m = m[0] := by unfold kOf; cases m with | nil => cases h2 | cons a r => rfl
  rw [e1, e2] at H
  refine ixV_b hx h1 rfl (fun a cs ha hc hv => ixV_b hy h2 rfl (fun a2 cs2 ha2 hc2 hv2 => ldG_b ha hc (ldG_b ha2 hc2 (bind_w (vcompare_spec hv hv2 (fun h' e => pure_w (H h' e)))))))
theorem vmap_spec {l : List Vl} {x : Sl} {h : Heap} {Q : Array Value × Int → Heap → Prop} (hx : VsRep h x l) (hn : SortsN (l.length / 2)) (hw : wt.wts l ≤ 1000000000)
    (H : ∀ h' c v e, MapRes l v e → Ext h h' → VRepS (h.size ≤ ·) h' v c → Q (c, e) h') : (value_Map x).wp h Q := by
  have hxl := hx.len
  have hll := wts_len l
  unfold value_Map
  refine mkV_b (fun h1 e1 s1 g1 => ?_)
  refine ite_w (fun hodd => ?_) (fun heven => ?_)
  · have hodd : l.length % 2 = 1 := by
      rw [eqI, decide_eq_true_iff, Int.tmod_eq_emod_of_nonneg (by omega)] at hodd
      omega
    refine need_b rfl (stR g1 (Nat.le_refl 4) (vcells_one 0 0 [] Sl.nil) (fun h2 u2 g2 => ?_))
    rw [lay_full rfl] at g2
    exact ldR g2 rfl (pure_w (H h2 _ _ _ (.odd hodd) (e1.upd u2 (Nat.le_refl _)) (vl0_rep _ _)))
  have heven : l.length % 2 = 0 := by
    rw [eqI, decide_eq_false_iff_not, Int.tmod_eq_emod_of_nonneg (by omega)] at heven
    omega
  -- the chunks
  unfold slices_Chunk_slapi_Value_api_Value
  refine bind_w (mkV_b (fun h2 e2 s2 g2 => mkV_b (fun h3 e3 s3 g3 => ldI_b (n := 2) (by rw [hcell_blk g3]; rfl) (iteF rfl (pure_w ?_)))))
  have E3 := (e1.trans e2).trans e3
  have g2' := e3.blk g2
  have hpl : (pieces x).length = l.length / 2 := by rw [pieces_len]; omega
  refine bind_w (collect_spec (xs := pieces x) (fun l h => by cases h) (by omega) (chunk_seq hx.cap (by omega) (fun i h4 e4 => ⟨by rw [hcell_blk (e4.blk g2')]; rfl, by rw [hcell_blk (e4.blk g3)]; rfl⟩)) (fun h4 r e4 G4 => ?_))
  have E4 := E3.trans e4
  obtain ⟨its, hits⟩ : ∃ its : List It, its = (List.range (l.length / 2)).map (fun i => (piece x i, pairAt l i)) := ⟨_, rfl⟩
  have hitl : its.length = l.length / 2 := by rw [hits]; simp
  have hit : ∀ a ∈ its, VsRepS (· < h.size) h a.1 a.2 ∧ a.2.length = 2 := fun a ha => by
    rw [hits] at ha
    obtain ⟨i, hi, rfl⟩ := List.mem_map.1 ha
    have hi := List.mem_range.1 hi
    exact ⟨piece_rep hx.lt (by omega), pair2 (by omega)⟩
  have hrow : (pieces x).map Sl.v = its.map (vv Prod.fst) := by
    rw [hits, List.map_map]
    unfold pieces
    rw [List.map_map, show (x.len + 1) / 2 = l.length / 2 by omega]
    rfl
  rw [hrow] at G4
  have hron : ∀ b, Sl.on r b → h.size ≤ b := fun b hb => by have := (G4.lt hb).2; have := E3.size; omega
  have C : Cmpr (α := It) Prod.fst r (fun hh => Ext h hh) (.func (.func fn_value_Map_1) #[] #[]) itKey its := by
    refine ⟨fun hh h' e K => ⟨Nat.le_trans e.size K.size, fun i hi => (K.same i (by have := e.size; omega) (fun ho => by have := hron i ho; omega)).trans (e.same i hi)⟩, fun hh e p q hp hq Q' HQ => ?_⟩
    refine callW_f cl_value_Map_1 (S_value_Map_1 p.1 q.1) (mapcmp_spec ((hit p hp).1.to.ext e) ((hit q hq).1.to.ext e) (by rw [(hit p hp).2]; decide) (by rw [(hit q hq).2]; decide) HQ)
  refine bind_w (hn hitl C E4 G4 (fun h5 ps G5 hperm hs K5 => ?_))
  have E5 : Ext h h5 := C.keep _ _ E4 K5
  have hpsl : ps.length = l.length / 2 := by rw [hperm.length_eq, hitl]
  have hps : ∀ a ∈ ps, VsRepS (· < h.size) h a.1 a.2 ∧ a.2.length = 2 := fun a ha => hit a (hperm.mem_iff.1 ha)
  have g5 : h5[h.size]? = some (.cells vzM ty_api_Value (0, 0)) := K5.blk ((e2.trans (e3.trans e4)).blk g1) (fun ho => by have := (G4.lt ho).2; have := (e2.trans e3).size; omega)
  have hpermL : (ps.map Prod.snd).Perm (pairsL l (l.length / 2)) := by
    have := hperm.map Prod.snd
    rw [hits, List.map_map] at this
    exact this
  have hsL : (ps.map Prod.snd).Pairwise (fun p q => ¬ cmpV (kOf q) (kOf p) < 0) := by
    rw [List.pairwise_map]
    exact hs
  have hrl : r.len = ps.length := by have := G5.len; rw [List.length_map, Nat.mul_one] at this; exact this.symm
  refine M.loop_inv (fun (t : Int) hh => ∃ i : Nat, t = (i : Int) ∧ 1 ≤ i ∧ Ext h5 hh ∧ ∀ j, ∀ h : j + 1 < ps.length, j + 1 < i → kOf (ps[j]).2 ≠ kOf (ps[j + 1]).2) (fun t _ => (((ps.length : Nat) : Int) + 1 - t).toNat) ?_ ⟨1, rfl, Nat.le_refl _, Ext.refl _, fun j h1 h2 => by omega⟩
  rintro t hh ⟨i, rfl, hi1, E, hne⟩ self hself
  have EE := E5.trans E
  unfold value_Map_l1
  refine ite_w (fun hc => ?_) (fun hc => ?_)
  · have hil : i < ps.length := by have := of_decide_eq_true hc; omega
    rw [w64 (by omega) (by omega), show ((i : Int) - 1) = ((i - 1 : Nat) : Int) by omega]
    refine (G5.ext E).ix1 (i := i - 1) (v := (ps[i - 1]'(by omega)).1.v) (by rw [List.getElem?_map, List.getElem?_eq_getElem (by omega)]; rfl) rfl (fun b hb hc1 hf1 => ?_)
    refine (G5.ext E).ix1 (i := i) (v := (ps[i]).1.v) (by rw [List.getElem?_map, List.getElem?_eq_getElem hil]; rfl) rfl (fun b2 hb2 hc2 hf2 => ?_)
    obtain ⟨r1, l1⟩ := hps _ (List.getElem_mem (show i - 1 < ps.length by omega))
    obtain ⟨r2, l2⟩ := hps _ (List.getElem_mem hil)
    refine ldL_b hc1 (ixV_b (i := 0) (r1.to.ext EE) (by omega) rfl (fun a cs ha hca hv => ldG_b ha hca (ldL_b hc2 (ixV_b (i := 0) (r2.to.ext EE) (by omega) rfl (fun a2 cs2 ha2 hca2 hv2 => ldG_b ha2 hca2 (bind_w (vsame_spec hv hv2 (fun h6 e6 => ?_))))))))
    have k1 := kOf_get (m := (ps[i - 1]'(by omega)).2) (by omega)
    have k2 := kOf_get (m := (ps[i]).2) (by omega)
    rw [k1, k2]
    refine ite_w (fun hsame => ?_) (fun hdiff => ?_)
    · have heq := (cmpV_eq _ _).1 (of_decide_eq_true hsame)
      refine need_b rfl (stR (e6.blk (E.blk g5)) (Nat.le_refl 4) (vcells_one 0 0 [] Sl.nil) (fun h7 u7 g7 => ?_))
      rw [lay_full rfl] at g7
      refine ldR g7 rfl (pure_w (H h7 _ _ _ (.twice (ps.map Prod.snd) heven hpermL hsL ⟨i - 1, by rw [List.length_map]; omega, ?_⟩) ((EE.trans e6).upd u7 (Nat.le_refl _)) (vl0_rep _ _)))
      simp only [List.getElem_map, show i - 1 + 1 = i by omega]
      exact heq
    · rw [w64 (by omega) (by omega)]
      refine hself _ _ ⟨i + 1, by omega, by omega, E.trans e6, fun j hj hj2 => ?_⟩ (by omega)
      by_cases hji : j + 1 < i
      · exact hne j hj hji
      · have : j = i - 1 := by omega
        subst this
        intro heq
        have := of_decide_eq_false hdiff
        simp only [show i - 1 + 1 = i by omega] at heq
        exact this ((cmpV_eq _ _).2 heq)
  · have hge : ps.length ≤ i := by have := of_decide_eq_false hc; omega
    have hflat : wt.wts (flatL (ps.map Prod.snd)) = wt.wts l := by
      unfold flatL
      rw [wts_perm hpermL, pairsL_flat, List.take_of_length_le (by omega)]
    have hfl := wts_len (flatL (ps.map Prod.snd))
    have hrow5 : ps.map (vv Prod.fst) = (ps.map Prod.fst).map Sl.v := by rw [List.map_map]; rfl
    have G6 := G5.ext E
    rw [hrow5] at G6
    refine bind_w (vconcat_spec (S := (· < h.size)) (ss := ps.map Prod.fst) (L := ps.map Prod.snd) G6 (by simp) (fun b hb => by have := EE.size; omega) (fun k hk1 hk2 => ?_) (by omega) (by rw [List.length_map]; omega) (fun h6 r6 css e6 V6 => ?_))
    · rw [List.getElem_map, List.getElem_map]
      exact ((hps _ (List.getElem_mem _)).1).same (fun b hb => EE.same b hb) (fun b hb => hb)
    · have hl6 : (flatL (ps.map Prod.snd)).length ≤ 1000000000 := by omega
      have R6 : VRep h6 (.mk 5 0 [] (flatL (ps.map Prod.snd))) (vcells 5 0 [] r6) := (list_rep2 ⟨by decide, by decide⟩ ⟨by decide, by decide⟩ (V6.rep_ (by omega))).to
      refine bind_w (vmade_spec R6 (by rw [wt]; simp only [List.length_nil]; omega) (fun h7 c7 e7 V7 => ?_))
      have E7 := (EE.trans e6).trans e7
      have g7 := e7.blk (e6.blk (E.blk g5))
      refine need_b V7.size (stR g7 (by rw [V7.size]; exact Nat.le_refl 4) V7.to.one (fun h8 u8 g8 => ?_))
      rw [lay_full (by rw [Array.length_toList, V7.size]; rfl)] at g8
      have hz6 := (EE.trans e6).size
      have hz5 := (E.trans e6).size
      have hlt : h.size < h5.size := blk_lt g5
      refine ldR g8 V7.size (pure_w (H h8 c7 _ _ (.made (ps.map Prod.snd) heven hpermL hsL (fun j hj => ?_)) (E7.upd u8 (Nat.le_refl _)) ?_))
      · rw [List.length_map] at hj
        simp only [List.getElem_map]
        exact hne j hj (by omega)
      · exact (V7.same (fun k hk => u8.ne k (by omega))).mono (fun k hk => by omega)
end Gx
namespace Gx
open Go Go.Proofs Go.Shelf Go.RowKit Go.Lib
set_option linter.unusedVariables false
set_option linter.unusedSimpArgs false
set_option maxRecDepth 100000
def b2txt : List UInt8 := [123, 39, 97, 39, 58, 32, 116, 114, 117, 101, 44, 32, 39, 98, 39, 58, 32, 49, 125]
def vSa : Vl := .mk 2 0 [97] []
def vSb : Vl := .mk 2 0 [98] []
def vI1 : Vl := .mk 1 1 [] []
def vTr : Vl := .mk 3 1 [] []
def b2map : Vl := .mk 5 0 [] [vSa, vTr, vSb, vI1]
theorem cmp_ab : cmpV vSa vSb < 0 := by
  rw [show vSa = .mk 2 0 [97] [] from rfl, show vSb = .mk 2 0 [98] [] from rfl, cmpV]
  decide
theorem b2may : mayV 8 b2map = true := by
  have := cmp_ab
  simp only [b2map, mayV, risesL]
  rw [decide_eq_true cmp_ab]
  decide
theorem b2text : txV b2map = b2txt := by
  have h1 : Lib.itoa 1 = [49] := by
    unfold Lib.itoa
    rw [if_neg (by decide), Lib.decDigits_one (by decide)]
    decide
  show txt 8 b2map = b2txt
  unfold b2map
  rw [txt]
  simp only [vSa, vTr, vSb, vI1, List.map_cons, List.map_nil, txt, h1]
  decide
theorem b2parse : readP b2txt = .ok b2map := by
  rfl
theorem perm_two {α : Type} {ps : List α} {p q : α} (h : ps.Perm [p, q]) : ps = [p, q] ∨ ps = [q, p] := by
  have hl := h.length_eq
  match ps, hl with
  | [x, y], _ =>
    have hx : x ∈ [p, q] := h.mem_iff.1 (by simp)
    simp only [List.mem_cons, List.not_mem_nil, or_false] at hx
    rcases hx with rfl | rfl
    · have := (List.perm_singleton.1 (List.Perm.cons_inv h))
      left; rw [this]
    · have h2 : [x, y].Perm [x, p] := h.trans (List.Perm.swap _ _ _)
      have := (List.perm_singleton.1 (List.Perm.cons_inv h2))
      right; rw [this]
theorem b2res {v : Vl} {e : Int} (h : MapRes [vSb, vI1, vSa, vTr] v e) : v = b2map ∧ e = 0 := by
  have hp : pairsL [vSb, vI1, vSa, vTr] ([vSb, vI1, vSa, vTr].length / 2) = [[vSb, vI1], [vSa, vTr]] := rfl
  have key : ∀ ps : List (List Vl), ps.Perm (pairsL [vSb, vI1, vSa, vTr] ([vSb, vI1, vSa, vTr].length / 2)) → ps.Pairwise (fun p q => ¬ cmpV (kOf q) (kOf p) < 0) → ps = [[vSa, vTr], [vSb, vI1]] := by
    intro ps hperm hs
    rw [hp] at hperm
    rcases perm_two hperm with rfl | rfl
    · exfalso
      rw [List.pairwise_cons] at hs
      exact hs.1 [vSa, vTr] (by simp) cmp_ab
    · rfl
  cases h with
  | odd h => exact absurd h (by decide)
  | twice ps h1 h2 h3 h4 =>
    obtain rfl := key ps h2 h3
    obtain ⟨i, hi, heq⟩ := h4
    have : i = 0 := by simp at hi; omega
    subst this
    exfalso
    have h5 : vSa = vSb := heq
    have := cmp_ab
    rw [h5, cmpV_self] at this
    omega
  | made ps h1 h2 h3 h4 =>
    obtain rfl := key ps h2 h3
    have hf : ([[vSa, vTr], [vSb, vI1]] : List (List Vl)).flatten = [vSa, vTr, vSb, vI1] := rfl
    rw [hf]
    have hm := b2may
    unfold b2map at hm
    exact ⟨if_pos hm, by unfold checkV; rw [if_pos hm]⟩
def c16 : List (Array Value) := [vcells 2 0 [98] Sl.nil, vcells 1 1 [] Sl.nil, vcells 2 0 [97] Sl.nil, vcells 3 1 [] Sl.nil]
theorem begun02_spec {h : Heap} {Q : Bool → Heap → Prop} (hp : PowTab h) (hd : DbTab h) (he : ErrV h) (H : ∀ h', Ext h h' → Q true h') : (ramblelaw02_begun).wp h Q := by
  unfold ramblelaw02_begun
  refine vstr_b (s := [98]) (fun h1 e1 => vint_b (fun h2 e2 => vstr_b (s := [97]) (fun h3 e3 => vbool_b (fun h4 e4 => ?_))))
  have E4 := ((e1.trans e2).trans e3).trans e4
  refine ⟨(flat4 c16).toArray, rfl, bdL_b ?_⟩
  have e5 := Ext.push h4 (.cells (flat4 c16).toArray ty_api_Value)
  have g5 : (h4.push (.cells (flat4 c16).toArray ty_api_Value))[h4.size]? = some (.cells (flat4 c16).toArray ty_api_Value (0, 0)) := get_push_eq
  generalize h4.push (.cells (flat4 c16).toArray ty_api_Value) = h5 at e5 g5 ⊢
  have sc : ∀ {k n : Int} {t : List UInt8}, I64 k → I64 n → t.length ≤ 1099511627776 → VRepS (fun _ => False) h5 (.mk k n t []) (vcells k n t Sl.nil) := fun hk hn ht => scal_rep _ _ hk hn (by omega)
  have w4 : W4 c16 := fun c hc => by
    simp only [c16, List.mem_cons, List.not_mem_nil, or_false] at hc
    rcases hc with rfl | rfl | rfl | rfl <;> exact ⟨rfl, vcells_one _ _ _ _⟩
  have V5 : VGw 0 (fun _ => False) h5 ⟨some ⟨h4.size, 0, none⟩, 4, 4⟩ c16 [vSb, vI1, vSa, vTr] := by
    refine ⟨.inr ⟨h4.size, ty_api_Value, (flat4 c16).toArray, rfl, Nat.zero_le _, g5, rfl, Nat.le_refl _, rfl, fun j v hj => by rw [List.getElem?_toArray]; exact hj⟩, w4, rfl, fun j h1 h2 => ?_⟩
    have hj : j < 4 := h1
    match j, hj with
    | 0, _ => exact sc ⟨by decide, by decide⟩ ⟨by decide, by decide⟩ (by decide)
    | 1, _ => exact sc ⟨by decide, by decide⟩ ⟨by decide, by decide⟩ (by decide)
    | 2, _ => exact sc ⟨by decide, by decide⟩ ⟨by decide, by decide⟩ (by decide)
    | 3, _ => exact sc ⟨by decide, by decide⟩ ⟨by decide, by decide⟩ (by decide)
  have E5 := E4.trans e5
  refine bind_w (vmap_spec (l := [vSb, vI1, vSa, vTr]) (V5.rep_ (by decide)).to (sorts20 (by decide)) (by simp [wt.wts, wt, vSb, vI1, vSa, vTr]) (fun h6 c6 v6 ev hres e6 V6 => ?_))
  obtain ⟨rfl, rfl⟩ := b2res hres
  refine mkV_b (fun h7 e7 s7 g7 => need_b V6.size (stR g7 (by rw [V6.size]; exact Nat.le_refl 4) V6.to.one (fun h8 u8 g8 => ?_)))
  rw [lay_full (by rw [Array.length_toList, V6.size]; rfl)] at g8
  have e68 : Ext h6 h8 := e7.upd u8 (Nat.le_refl _)
  have E8 := (E5.trans e6).trans e68
  have V8 : VRep h8 b2map c6 := V6.to.ext e68
  have hP : parseP b2txt = (b2map, 0, 0) := by unfold parseP; rw [b2parse]; dsimp only; rw [if_pos b2may]
  refine bind_w (vparse_spec (s := b2txt) (by decide) (he.ext E8) (fun h9 c9 e9 V9 => ?_))
  rw [hP] at V9 ⊢
  refine mkV_b (fun h10 e10 s10 g10 => need_b V9.size (stR g10 (by rw [V9.size]; exact Nat.le_refl 4) V9.to.one (fun h11 u11 g11 => ?_)))
  rw [lay_full (by rw [Array.length_toList, V9.size]; rfl)] at g11
  have e911 : Ext h9 h11 := e10.upd u11 (Nat.le_refl _)
  have E11 := (E8.trans e9).trans e911
  have g8' := (e9.trans e911).blk g8
  refine iteT_b rfl (ldR g8' V6.size (bind_w (vText_spec (V8.ext (e9.trans e911)) (hp.ext E11) (hd.ext E11) (by rw [b2text]; decide) (fun h12 e12 => pure_b ?_))))
  rw [b2text, show sEq (bs b2txt) (⟨#[123, 39, 97, 39, 58, 32, 116, 114, 117, 101, 44, 32, 39, 98, 39, 58, 32, 49, 125]⟩ : ByteArray) = true by
    show sEq (bs b2txt) (bs b2txt) = true
    rw [sEq_bs]
    exact decide_eq_true rfl]
  dsimp only
  refine iteT rfl (pure_w ?_)
  refine iteT_b rfl ?_
  refine pure_b ?_
  refine iteT_b rfl ?_
  have g8'' := e12.blk g8'
  have g11' := e12.blk g11
  refine assoc_b (ldR g8'' V6.size (assoc_b (ldR g11' V9.size (assoc_b (bind_w (rsame_spec ((V8.ext (e9.trans e911)).ext e12) ((V9.to.ext e911).ext e12) (fun h13 e13 => pure_b (pure_w ?_))))))))
  rw [show decide (cmpV b2map b2map = 0) = true from decide_eq_true (cmpV_self _)]
  exact H _ ((E11.trans e12).trans e13)
end Gx
namespace Gx
open Go Go.Proofs Go.Shelf Go.RowKit Go.Lib
set_option linter.unusedVariables false
set_option linter.unusedSimpArgs false
set_option maxRecDepth 100000
theorem txt_wtB : ∀ (d : Nat) (v : Vl) {h : Heap} {cs : Array Value}, VRep h v cs → (txt d v).length + 2 ≤ 26 * wt v
  | 0, v, h, cs, _ => by have := wt_pos v; simp [txt]; omega
  | d + 1, .mk k n s l, h, cs, H => by
    obtain ⟨x, rfl, k1, n1, s1, r1⟩ := VRep.eq.1 H
    have hi := itoa_len n1
    have hq : (quoteB s).length ≤ 4 * s.length + 2 := by
      rw [quote_len]
      have : (s.flatMap qc).length ≤ 4 * s.length := by
        clear s1 H
        induction s with
        | nil => simp
        | cons a s ih => rw [List.flatMap_cons, List.length_append, List.length_cons]; have := qc_le a; omega
      omega
    have hs : ∀ (ev od : List UInt8), ev.length = 2 → od.length = 2 → (shw ev od (l.map (txt d))).length ≤ 26 * wt.wts l := by
      have hel : ∀ v ∈ l, (txt d v).length + 2 ≤ 26 * wt v := fun v hv => by
        obtain ⟨j, hj, rfl⟩ := List.getElem_of_mem hv
        obtain ⟨a, c, _, _, _, hv'⟩ := r1.get hj
        exact txt_wtB d _ hv'
      clear r1 H
      induction l with
      | nil => intro ev od _ _; simp [shw]
      | cons a r ih =>
        intro ev od h1 h2
        have ha := hel a (by simp)
        have ihr := ih (fun v hv => hel v (List.mem_cons_of_mem _ hv)) od ev h2 h1
        rw [List.map_cons, shw_step, wt.wts]
        split
        · omega
        · rw [List.length_append, List.length_append]; omega
    have h4 := hs [44, 32] [44, 32] rfl rfl
    have h5 := hs [58, 32] [44, 32] rfl rfl
    rw [wt]
    unfold txt
    repeat' split
    all_goals (try simp only [List.length_append, List.length_cons, List.length_nil])
    all_goals omega
theorem back_j1 {s : List UInt8} {h : Heap} {Q : Bool → Heap → Prop} (hs : s.length ≤ 1099511627776) (hp : PowTab h) (hd : DbTab h) (he : ErrV h) (H : ∀ h', Ext h h' → Q true h') : (ramblelaw02_ValueBack_j1 (bs s)).wp h Q := by
  unfold ramblelaw02_ValueBack_j1
  refine bind_w (vparse_spec hs he (fun h1 c e1 V1 => ?_))
  refine mkV_b (fun h2 e2 s2 g2 => need_b V1.size (stR g2 (by rw [V1.size]; exact Nat.le_refl 4) V1.to.one (fun h3 u3 g3 => ?_)))
  rw [lay_full (by rw [Array.length_toList, V1.size]; rfl)] at g3
  have e13 : Ext h1 h3 := e2.upd u3 (Nat.le_refl _)
  have E3 := e1.trans e13
  refine ite_w (fun hne => ?_) (fun heq => ?_)
  · have hat := parseP_at s
    refine iteT_b (decide_eq_true (by show (((parseP s).2.1 : Nat) : Int) ≥ 0; omega)) (pure_b (pure_w ?_))
    rw [bs_size, show decide ((((parseP s).2.1 : Nat) : Int) ≤ (s.length : Int)) = true from decide_eq_true (by omega)]
    exact H _ E3
  · have h0 : (parseP s).2.2 = 0 := by
      by_cases hz : (parseP s).2.2 = 0
      · exact hz
      · rw [(bne_iff_ne).2 hz] at heq; cases heq
    obtain ⟨hr, hm⟩ := parseP_ok h0
    have ht := text_of_parse hr
    have V3 := V1.to.ext e13
    refine ldR g3 V1.size (bind_w (vcheck_spec V3 (fun h4 e4 => ?_)))
    unfold checkV
    rw [if_pos hm]
    have E4 := E3.trans e4
    refine iteT_b rfl (assoc_b (ldR (e4.blk g3) V1.size (assoc_b (bind_w (vText_spec (V3.ext e4) (hp.ext E4) (hd.ext E4) (by rw [ht]; exact hs) (fun h5 e5 => pure_b (pure_w ?_)))))))
    rw [ht, sEq_bs, show decide (s = s) = true from decide_eq_true rfl]
    exact H _ (E4.trans e5)
theorem back_law {a b : Vl} {s : List UInt8} {h : Heap} {Q : Bool → Heap → Prop} {x y : Array Value} (ha : VRep h a x) (hb : VRep h b y) (hs : s.length ≤ 1099511627776) (hwa : wt a ≤ 1048576) (hwb : wt b ≤ 1048576) (hp : PowTab h) (hd : DbTab h) (he : ErrV h)
    (H : ∀ h', Ext h h' → Q true h') : (ramblelaw02_ValueBack x y (bs s)).wp h Q := by
  have hta := txt_wtB 8 a ha
  have htb := txt_wtB 8 b hb
  have hla : (txV a).length ≤ 1099511627776 := by show (txt 8 a).length ≤ _; omega
  have hlb : (txV b).length ≤ 1099511627776 := by show (txt 8 b).length ≤ _; omega
  unfold ramblelaw02_ValueBack
  refine mkV_b (fun h1 e1 s1 g1 => mkV_b (fun h2 e2 s2 g2 => ?_))
  have E2 := e1.trans e2
  have g1' := e2.blk g1
  have kx : ∀ {hh : Heap}, Ext h2 hh → x.size = 4 ∧ ∀ i, i < 4 → hcell hh (Addr.add ⟨h.size, 0, none⟩ i) = x[i]? := fun e => ⟨ha.size, fun j hj => by rw [blk_cell (e.blk g1')]⟩
  have ky : ∀ {hh : Heap}, Ext h2 hh → y.size = 4 ∧ ∀ i, i < 4 → hcell hh (Addr.add ⟨h1.size, 0, none⟩ i) = y[i]? := fun e => ⟨hb.size, fun j hj => by rw [blk_cell (e.blk g2)]⟩
  have rx : ∀ {hh : Heap} {β : Type} {f : Array Value → M β} {Q' : β → Heap → Prop}, Ext h2 hh → (f x).wp hh Q' → (ldG 4 ⟨h.size, 0, none⟩ >>= f).wp hh Q' := fun e H => ldR (e.blk g1') ha.size H
  have ry : ∀ {hh : Heap} {β : Type} {f : Array Value → M β} {Q' : β → Heap → Prop}, Ext h2 hh → (f y).wp hh Q' → (ldG 4 ⟨h1.size, 0, none⟩ >>= f).wp hh Q' := fun e H => ldR (e.blk g2) hb.size H
  have j1 : ∀ {hh : Heap}, Ext h2 hh → (ramblelaw02_ValueBack_j1 (bs s)).wp hh Q := fun e => back_j1 hs (hp.ext (E2.trans e)) (hd.ext (E2.trans e)) (he.ext (E2.trans e)) (fun h' e' => H _ ((E2.trans e).trans e'))
  refine bind_w (begun02_spec (hp.ext E2) (hd.ext E2) (he.ext E2) (fun h3 e3 => iteF rfl ?_))
  refine rx e3 (bind_w (vcheck_spec (ha.ext (E2.trans e3)) (fun h4 e4 => ?_)))
  have e24 := e3.trans e4
  unfold checkV
  by_cases hma : mayV 8 a = true
  · rw [if_pos hma]
    have hpa := parse_of_text hma (wf_rep 8 a x ha)
    refine iteT rfl (rx e24 (bind_w (vText_spec (ha.ext (E2.trans e24)) (hp.ext (E2.trans e24)) (hd.ext (E2.trans e24)) hla (fun h5 e5 => ?_))))
    have e25 := e24.trans e5
    refine bind_w (vparse_spec hla (he.ext (E2.trans e25)) (fun h6 c6 e6 V6 => ?_))
    rw [hpa] at V6 ⊢
    have e26 := e25.trans e6
    refine mkV_b (fun h7 e7 s7 g7 => need_b V6.size (stR g7 (by rw [V6.size]; exact Nat.le_refl 4) V6.to.one (fun h8 u8 g8 => ?_)))
    rw [lay_full (by rw [Array.length_toList, V6.size]; rfl)] at g8
    have e68 : Ext h6 h8 := e7.upd u8 (Nat.le_refl _)
    have e28 := e26.trans e68
    have V8 := V6.to.ext e68
    refine iteF_b rfl (pure_b ?_)
    refine iteF_b rfl (assoc_b (ldR g8 V6.size (assoc_b (rx e28 (assoc_b (bind_w (rsame_spec V8 (ha.ext (E2.trans e28)) (fun h9 e9 => pure_b ?_))))))))
    rw [show decide (cmpV a a = 0) = true from decide_eq_true (cmpV_self _)]
    have e29 := e28.trans e9
    refine iteF rfl (ry e29 (bind_w (vcheck_spec (hb.ext (E2.trans e29)) (fun h10 e10 => ?_))))
    have e210 := e29.trans e10
    unfold checkV
    by_cases hmb : mayV 8 b = true
    · rw [if_pos hmb]
      have hpb := parse_of_text hmb (wf_rep 8 b y hb)
      refine iteT rfl (rx e210 (ry e210 (rx e210 (ry e210 ?_))))
      refine bind_w (vText_spec (ha.ext (E2.trans e210)) (hp.ext (E2.trans e210)) (hd.ext (E2.trans e210)) hla (fun h11 e11 => ?_))
      have e211 := e210.trans e11
      refine chk_b ⟨kx e211, ky e211, kx e211, ky e211⟩ ?_
      refine bind_w (vText_spec (hb.ext (E2.trans e211)) (hp.ext (E2.trans e211)) (hd.ext (E2.trans e211)) hlb (fun h12 e12 => ?_))
      have e212 := e211.trans e12
      refine chk_b ⟨kx e212, ky e212, kx e212, ky e212⟩ ?_
      refine bind_w (rsame_spec (ha.ext (E2.trans e212)) (hb.ext (E2.trans e212)) (fun h13 e13 => ?_))
      have e213 := e212.trans e13
      have hsame : (sEq (bs (txV a)) (bs (txV b)) != decide (cmpV a b = 0)) = false := by
        rw [sEq_bs]
        by_cases hab : a = b
        · subst hab
          rw [decide_eq_true rfl, decide_eq_true (cmpV_self _)]
          rfl
        · have hne : txV a ≠ txV b := fun e => by
            rw [e, hpb] at hpa
            exact hab (congrArg Prod.fst hpa).symm
          rw [decide_eq_false hne, decide_eq_false (fun h0 => hab ((cmpV_eq a b).1 h0))]
          rfl
      rw [hsame]
      unfold ramblelaw02_ValueBack_j2
      exact iteF rfl (j1 e213)
    · rw [if_neg hmb]
      unfold ramblelaw02_ValueBack_j2
      exact iteF rfl (iteF rfl (j1 e210))
  · rw [if_neg hma]
    exact iteF rfl (j1 e24)
end Gx
namespace Gx
open Go Go.RowKit Go.ChangeShapes Go.WideShapes Go.ChangeAt Go.Joins
set_option linter.unusedVariables false
section
variable {H : Type} {enc : TypeId × Value → H} {P : Program}
theorem ext_same {W W' : World} (he : Ext W.heap W'.heap) {p : MemPlace} (hp : p.block < W.heap.size) : W.sameAt W' p := by
  cases p with
  | cell b o => exact World.cell?_of_block (w := W) (he.same b hp)
  | map b => exact he.same b hp
theorem ext_trod {t : TypeId} (hl : laidOutB P = true) (hr : P.readableRec t = true) (hrow : t < P.types.size) {W W' : World} {v : Value} {d : DataW H} {ps : List MemPlace}
    (h : DataW.Trod enc P W 0 (fun _ => true) true t v d ps) (he : Ext W.heap W'.heap) :
    DataW.Trod enc P W' 0 (fun b => decide (b < W.heap.size)) true t v d ps := by
  have hlt : ∀ x ∈ ps, x.block < W.heap.size := by
    obtain ⟨m, hm⟩ := h
    exact DataW.trod_lt m _ _ _ hm
  exact WideElems.Trod_stays hl hr hrow h (fun x hx => ext_same he (hlt x hx)) (fun x hx => by simpa using hlt x hx)
theorem ext_frame {W W' : World} (he : Ext W.heap W'.heap) (hr : Rest W W') (may : MemPlace → Prop) : W.keptBut W' may := by
  refine ⟨hr.os, hr.output, fun i hi => ?_⟩
  rw [he.same i hi]
  split <;> simp_all
end
end Gx
