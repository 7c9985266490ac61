/- Own proofs: what those Lean programs compute. No condition. -/
import Derived.Test.YthelieedlghccaaGreatDoorP0
import Derived.Test.YthelieedlghccaaGreatDoorP1
import Derived.Test.YthelieedlghccaaGreatDoorP2
import Derived.Test.YthelieedlghccaaGreatDoorP3
import Derived.Test.YthelieedlghccaaGreatDoorP4
import Derived.Test.YthelieedlghccaaGreatDoorP5
import Derived.Test.YthelieedlghccaaGreatDoorP6
import Derived.Test.YthelieedlghccaaGreatDoorP7
import Derived.Test.YthelieedlghccaaGreatDoorP8
set_option linter.unusedVariables false
set_option linter.unusedSimpArgs false
namespace Gx
open Go Go.Proofs Go.Shelf Go.RowKit Go.Lib
set_option linter.unusedVariables false
set_option maxRecDepth 100000
section
variable {α : Type} {sl : α → Sl} {lo : Nat} {r : Sl} {T : Heap → Prop} {cmp : Value} {key : α → Vl} {ss : List α}
def Runs (key : α → Vl) (bs : Nat) (D : List (List α)) : Prop:=∀ b ∈ D,b.length = bs ∧ Srt key b
theorem Runs.len {bs : Nat} {D : List (List α)} (H : Runs key bs D) : D.flatten.length = D.length * bs:=by
  induction D with
  | nil=>simp
  | cons b D ih =>
    rw [List.flatten_cons,List.length_append,ih (fun c hc=>H c (List.mem_cons_of_mem _ hc)),(H b List.mem_cons_self).1,List.length_cons,Nat.succ_mul]
    omega
theorem Runs.snoc {bs : Nat} {D : List (List α)} {b : List α} (H : Runs key bs D) (h1 : b.length = bs) (h2 : Srt key b) : Runs key bs (D ++ [b]):=fun c hc=>by
  rcases List.mem_append.1 hc with hc | hc
  · exact H c hc
  · rw [List.mem_singleton.1 hc]; exact ⟨h1,h2⟩
theorem Runs.tail {bs : Nat} {D : List (List α)} {b : List α} (H : Runs key bs (b :: D)) : Runs key bs D:=fun c hc=>H c (List.mem_cons_of_mem _ hc)
theorem passes {n : Nat} {h : Heap} {Q : Unit → Heap → Prop} {L : List α} {bs : Nat} {D : List (List α)} {last : List α} (C : Cmpr sl r T cmp key ss) (hT : T h) (hn : L.length = n) (hnb : n ≤ 549755813888) (hL : L = D.flatten ++ last) (hD : Runs key bs D) (hl : last.length < bs) (hbs : 0 < bs) (hb2 : bs ≤ 2 * n + 20) (sl_ : Srt key last)
    (hm : L.Perm ss) (G : Gw lo h r 1 (L.map (vv sl)))
    (H : ∀ h' L',Km (Sl.on r) h h' → Gw lo h' r 1 (L'.map (vv sl)) → L'.Perm ss → Srt key L' → Q () h') : (M.loop (slices_stableCmpFunc_slapi_Value_l2 r (n : Int) cmp) (bs : Int)).wp h Q:=by
  refine M.loop_inv (fun (t : Int) hh=>∃ (bs : Nat) (D : List (List α)) (last L : List α),t = (bs : Int) ∧ L = D.flatten ++ last ∧ Runs key bs D ∧ last.length < bs ∧ 0 < bs ∧ bs ≤ 2 * n + 20 ∧ Srt key last ∧ L.Perm ss ∧ Km (Sl.on r) h hh ∧ Gw lo hh r 1 (L.map (vv sl))) (fun t _=>(2 * (n : Int) + 20 - t).toNat) ?_
    ⟨bs,D,last,L,rfl,hL,hD,hl,hbs,hb2,sl_,hm,Km.refl _ _,G⟩
  clear hL hD hl hbs hb2 sl_
  have hssn : ss.length = n:=by rw [← hm.length_eq,hn]
  clear hm hn G
  rintro t hh ⟨bs,D,last,L,rfl,hL,hD,hl,hbs,hb2,sl_,hm,K,G⟩ self hself
  have hLn : L.length = n:=by rw [hm.length_eq,hssn]
  have hlen : D.length * bs + last.length = n:=by rw [← hLn,hL,List.length_append,hD.len]
  unfold slices_stableCmpFunc_slapi_Value_l2
  refine ite_w (fun hc=>?_) (fun hc=>?_)
  · have hbn : bs < n:=by have:=of_decide_eq_true hc; omega
    rw [w64 (n:=2 * (bs : Int)) (by omega) (by omega)]
    refine M.loop_inv (fun (t : Int × Int) h2=>∃ (E R : List (List α)) (L2 : List α),t = ((E.flatten.length : Int),((E.flatten.length + 2 * bs : Nat) : Int)) ∧ L2 = E.flatten ++ (R.flatten ++ last) ∧ Runs key (2 * bs) E ∧ Runs key bs R ∧ L2.Perm ss ∧ Km (Sl.on r) h h2 ∧ Gw lo h2 r 1 (L2.map (vv sl))) (fun t _=>((n : Int) + 1 - t.1).toNat) ?_
      ⟨[],D,L,by simp,by simpa using hL,(fun b hb=>by cases hb),hD,hm,K,G⟩
    rintro t h2 ⟨E,R,L2,rfl,hL2,hE,hR,hm2,K2,G2⟩ self3 hself3
    have hL2n : L2.length = n:=by rw [hm2.length_eq,hssn]
    have hlen2 : E.flatten.length + (R.length * bs + last.length) = n:=by rw [← hL2n,hL2,List.length_append,List.length_append,hR.len]
    unfold slices_stableCmpFunc_slapi_Value_l3
    dsimp only
    have hw1 : IntKind.wrap .i64 ((E.flatten.length : Int) + (bs : Int)) = ((E.flatten.length + bs : Nat) : Int):=by rw [w64 (by omega) (by omega)]; omega
    rw [hw1]
    -- the next pass
    have next : ∀ h3 (E' : List (List α)) (last' L3 : List α),L3 = E'.flatten ++ last' → Runs key (2 * bs) E' → last'.length < 2 * bs → Srt key last' → L3.Perm ss → Km (Sl.on r) h h3 → Gw lo h3 r 1 (L3.map (vv sl)) → (slices_stableCmpFunc_slapi_Value_j1 self (bs : Int)).wp h3 Q:=by
      intro h3 E' last' L3 e1 e2 e3 e4 e5 e6 e7
      unfold slices_stableCmpFunc_slapi_Value_j1
      rw [w64 (by omega) (by omega)]
      exact hself _ _ ⟨2 * bs,E',last',L3,by omega,e1,e2,e3,by omega,by omega,e4,e5,e6,e7⟩ (by omega)
    refine ite_w (fun hle=>?_) (fun hgt=>?_)
    · have hle:=of_decide_eq_true hle
      have hR2 : 2 ≤ R.length:=by
        rcases Nat.lt_or_ge R.length 2 with h9 | h9
        · exfalso
          have : R.length * bs ≤ 1 * bs:=Nat.mul_le_mul_right _ (by omega)
          omega
        · exact h9
      obtain ⟨b1,b2,R',rfl⟩ : ∃ b1 b2 R',R = b1 :: b2 :: R':=by
        match R,hR2 with
        | b1 :: b2 :: R',_=>exact ⟨b1,b2,R',rfl⟩
      obtain ⟨l1,s1⟩:=hR b1 List.mem_cons_self
      obtain ⟨l2,s2⟩:=hR b2 (List.mem_cons_of_mem _ List.mem_cons_self)
      have e0 : L2 = E.flatten ++ b1 ++ b2 ++ (R'.flatten ++ last):=by rw [hL2]; simp
      rw [e0] at G2
      refine bind_w (symMerge_spec (C.perm hm2) _ (A:=b1) (B:=b2) (pre:=E.flatten) (post:=R'.flatten ++ last) (Nat.le_refl _) (by omega) (by omega) (C.keep _ _ hT K2) s1 s2 (fun p hp=>by rw [e0]; simp only [List.mem_append] at hp ⊢; rcases hp with hp | hp <;> simp [hp]) G2 (by rw [← e0]; omega) rfl (by rw [l1]) (by rw [l1,l2]; omega) (fun h3 X K3 G3 pX sX=>?_))
      have lX:=pX.length_eq
      rw [List.length_append,l1,l2] at lX
      have hE':=hE.snoc (b:=X) (by omega) sX
      have e3 : (E ++ [X]).flatten = E.flatten ++ X:=by simp
      rw [w64 (n:=2 * (bs : Int)) (by omega) (by omega),w64 (by omega) (by omega)]
      refine hself3 _ _ ⟨E ++ [X],R',E.flatten ++ X ++ (R'.flatten ++ last),by rw [Prod.mk.injEq,e3,List.length_append]; omega,by rw [e3],hE',hR.tail.tail,?_,K2.trans K3,G3⟩ ?_
      · refine List.Perm.trans ?_ hm2
        rw [e0,List.append_assoc E.flatten b1 b2]
        exact List.Perm.append_right _ (List.Perm.append_left _ pX)
      · dsimp only; omega
    · have hgt:=of_decide_eq_false hgt
      have hR1 : R.length < 2:=by
        rcases Nat.lt_or_ge R.length 2 with h9 | h9
        · exact h9
        · exfalso
          have : 2 * bs ≤ R.length * bs:=Nat.mul_le_mul_right _ h9
          omega
      refine ite_w (fun hlt=>?_) (fun hge=>?_)
      · have hlt:=of_decide_eq_true hlt
        obtain ⟨b1,rfl⟩ : ∃ b1,R = [b1]:=by
          match R,hR1 with
          | [],_ =>
            exfalso
            have h0 : ([] : List (List α)).length * bs = 0:=by simp
            omega
          | [b1],_=>exact ⟨b1,rfl⟩
        obtain ⟨l1,s1⟩:=hR b1 List.mem_cons_self
        have e0 : L2 = E.flatten ++ b1 ++ last ++ []:=by rw [hL2]; simp
        have hll : [b1].length * bs = bs:=by simp
        rw [e0] at G2
        refine bind_w (symMerge_spec (C.perm hm2) _ (A:=b1) (B:=last) (pre:=E.flatten) (post:=[]) (Nat.le_refl _) (by omega) (by omega) (C.keep _ _ hT K2) s1 sl_ (fun p hp=>by rw [e0]; simp only [List.mem_append] at hp ⊢; rcases hp with hp | hp <;> simp [hp]) G2 (by rw [← e0]; omega) rfl (by rw [l1]) (by rw [l1]; omega) (fun h3 X K3 G3 pX sX=>?_))
        have lX:=pX.length_eq
        rw [List.length_append,l1] at lX
        refine next h3 E X (E.flatten ++ X ++ []) (by simp) hE (by omega) sX ?_ (K2.trans K3) G3
        refine List.Perm.trans ?_ hm2
        rw [e0,List.append_assoc E.flatten b1 last]
        exact List.Perm.append_right _ (List.Perm.append_left _ pX)
      · have hge:=of_decide_eq_false hge
        match R,hR1 with
        | [],_=>exact next h2 E last L2 (by rw [hL2]; simp) hE (by omega) sl_ hm2 K2 G2
        | [b1],_ =>
          obtain ⟨l1,s1⟩:=hR b1 List.mem_cons_self
          have hll : [b1].length * bs = bs:=by simp
          have hlast : last = []:=List.length_eq_zero_iff.1 (by omega)
          subst hlast
          exact next h2 E b1 L2 (by rw [hL2]; simp) hE (by omega) s1 hm2 K2 G2
  · have hbn : n ≤ bs:=by have:=of_decide_eq_false hc; omega
    refine pure_w (H hh L K G hm ?_)
    match D,hL,hD,hlen with
    | [],hL,_,_=>rw [hL]; exact sl_
    | [b1],hL,hD,hlen =>
      obtain ⟨l1,s1⟩:=hD b1 List.mem_cons_self
      have hll : [b1].length * bs = bs:=by simp
      have hlast : last = []:=List.length_eq_zero_iff.1 (by omega)
      rw [hL,hlast]
      simpa using s1
    | b1 :: b2 :: D',_,_,hlen =>
      exfalso
      rw [List.length_cons,List.length_cons,Nat.succ_mul,Nat.succ_mul] at hlen
      omega
end
theorem sortsN {n : Nat} (hn : n ≤ 549755813888) : SortsN n:=by
  intro α sl lo h Q r T cmp key ss hlen C hT G H
  unfold slices_SortStableFunc_slslapi_Value_slapi_Value slices_stableCmpFunc_slapi_Value
  have hrl:=G.len
  rw [List.length_map,Nat.mul_one] at hrl
  rw [← hrl,hlen]
  refine bind_w (M.loop_inv (fun (t : Int × Int) hh=>∃ (D : List (List α)) (R L : List α),t = ((D.flatten.length : Int),((D.flatten.length + 20 : Nat) : Int)) ∧ L = D.flatten ++ R ∧ Runs key 20 D ∧ L.Perm ss ∧ Km (Sl.on r) h hh ∧ Gw lo hh r 1 (L.map (vv sl))) (fun t _=>((n : Int) + 1 - t.1).toNat) ?_
    ⟨[],ss,ss,by simp,by simp,(fun b hb=>by cases hb),List.Perm.refl _,Km.refl _ _,G⟩)
  rintro t hh ⟨D,R,L,rfl,hL,hD,hm,K,G1⟩ self hself
  have hLn : L.length = n:=by rw [hm.length_eq,hlen]
  have hl2 : D.flatten.length + R.length = n:=by rw [← hLn,hL,List.length_append]
  unfold slices_stableCmpFunc_slapi_Value_l1
  dsimp only
  refine ite_w (fun hc=>?_) (fun hc=>?_)
  · have hc:=of_decide_eq_true hc
    have e0 : L = D.flatten ++ R.take 20 ++ R.drop 20:=by rw [hL,List.append_assoc,List.take_append_drop]
    have lt : (R.take 20).length = 20:=by rw [List.length_take]; omega
    rw [e0] at G1
    have hi:=isort_spec (pre:=D.flatten) (mid:=R.take 20) (post:=R.drop 20) (Q:=fun _ h2=>(self (((D.flatten.length + 20 : Nat) : Int),IntKind.wrap .i64 (((D.flatten.length + 20 : Nat) : Int) + 20))).wp h2 (fun _ h'=>(M.pure () : M Unit).wp h' Q)) (C.perm hm) (C.keep _ _ hT K) G1 (fun p hp=>by rw [e0]; exact List.mem_append_left _ (List.mem_append_right _ hp)) (by rw [← e0]; omega)
      (fun h2 mid' G2 p2 s2 K2=>by
        have lm:=p2.length_eq
        rw [lt] at lm
        have e3 : (D ++ [mid']).flatten = D.flatten ++ mid':=by simp
        rw [w64 (by omega) (by omega)]
        refine hself _ _ ⟨D ++ [mid'],R.drop 20,D.flatten ++ mid' ++ R.drop 20,by rw [Prod.mk.injEq,e3,List.length_append]; omega,by rw [e3],hD.snoc lm s2,?_,K.trans K2,G2⟩ ?_
        · refine List.Perm.trans ?_ hm
          rw [e0]
          exact List.Perm.append_right _ (List.Perm.append_left _ p2)
        · dsimp only; omega)
    rw [lt] at hi
    exact bind_w hi
  · have hc:=of_decide_eq_false hc
    have e0 : L = D.flatten ++ R ++ []:=by rw [hL,List.append_nil]
    rw [e0] at G1
    have hi:=isort_spec (pre:=D.flatten) (mid:=R) (post:=[]) (Q:=fun _ h2=>(M.loop (slices_stableCmpFunc_slapi_Value_l2 r (n : Int) cmp) 20).wp h2 (fun _ h'=>(M.pure () : M Unit).wp h' Q)) (C.perm hm) (C.keep _ _ hT K) G1 (fun p hp=>by rw [hL]; exact List.mem_append_right _ hp) (by rw [← e0]; omega)
      (fun h2 mid' G2 p2 s2 K2=>by
        have lm:=p2.length_eq
        refine passes (bs:=20) (D:=D) (last:=mid') C (C.keep _ _ hT (K.trans K2)) (L:=D.flatten ++ mid') (by rw [List.length_append]; omega) hn rfl hD (by omega) (by decide) (by omega) s2 ?_ (by simpa using G2) (fun h3 L' K3 G3 p3 s3=>pure_w (H h3 L' G3 p3 s3 ((K.trans K2).trans K3)))
        refine List.Perm.trans ?_ hm
        rw [hL]
        exact List.Perm.append_left _ p2)
    rw [hl2] at hi
    exact bind_w hi
end Gx
namespace Gx
open Go Go.Proofs Go.Shelf Go.RowKit Go.Lib
set_option linter.unusedVariables false
set_option maxRecDepth 100000
def Strict (ps : List (List Vl)) : Prop:=ps.Pairwise (fun p q=>cmpV (kOf p) (kOf q) < 0)
theorem strict_of {ps : List (List Vl)} (s : ps.Pairwise (fun p q=>¬ cmpV (kOf q) (kOf p) < 0)) (d : ∀ i,∀ h : i + 1 < ps.length,kOf ps[i] ≠ kOf ps[i + 1]) : Strict ps:=by
  have s' : Srt kOf ps:=s
  refine List.pairwise_iff_getElem.2 (fun i j hi hj hij=>?_)
  have h1 : ¬ cmpV (kOf ps[i + 1]) (kOf ps[i]) < 0:=s'.le (Nat.le_succ i) (by omega)
  have h2 : cmpV (kOf ps[i]) (kOf ps[i + 1]) < 0:=by
    rcases cmpV_lt_or (kOf ps[i]) (kOf ps[i + 1]) with h | h | h
    · exact h
    · exact absurd h (d i (by omega))
    · exact absurd h h1
  exact lt_le h2 (s'.le (show i + 1 ≤ j by omega) hj)
theorem strict_eq {ps qs : List (List Vl)} (p : ps.Perm qs) (s : Strict ps) (t : Strict qs) : ps = qs:=by
  refine List.Perm.eq_of_pairwise (le:=fun p q=>cmpV (kOf p) (kOf q) < 0) ?_ s t p
  intro a b _ _ h1 h2
  have:=cmpV_anti (kOf a) (kOf b)
  omega
theorem strict_ne {ps qs : List (List Vl)} (p : ps.Perm qs) (s : Strict ps) {i : Nat} (h : i + 1 < qs.length) : kOf qs[i] ≠ kOf qs[i + 1]:=by
  have n1 : (ps.map kOf).Nodup:=by
    unfold List.Nodup
    rw [List.pairwise_map]
    refine s.imp (fun {a b} hab e=>?_)
    rw [e,cmpV_self] at hab
    exact absurd hab (by decide)
  have n2 : (qs.map kOf).Nodup:=(p.map kOf).nodup_iff.1 n1
  intro e
  have:=List.pairwise_iff_getElem.1 n2 i (i + 1) (by rw [List.length_map]; omega) (by rw [List.length_map]; omega) (by omega)
  rw [List.getElem_map,List.getElem_map] at this
  exact this e
theorem mapres_turn {l x : List Vl} {v v' : Vl} {e' : Int} (hlen : x.length = l.length) (hp : (pairsL x (l.length / 2)).Perm (pairsL l (l.length / 2))) (h1 : MapRes l v 0) (h2 : MapRes x v' e') : e' = 0 ∧ v' = v ∧ mayV 8 v = true:=by
  generalize he : (0 : Int) = e at h1
  cases h1 with
  | odd h=>exact absurd he (by decide)
  | twice ps _ _ _ _=>exact absurd he (by decide)
  | made ps even perm srt dist =>
    have hm : mayV 8 (.mk 5 0 [] ps.flatten) = true:=by
      unfold checkV at he
      by_cases hm : mayV 8 (.mk 5 0 [] ps.flatten) = true
      · exact hm
      · rw [if_neg hm] at he; exact absurd he (by decide)
    have st:=strict_of srt dist
    rw [if_pos hm]
    cases h2 with
    | odd h=>omega
    | twice qs even2 perm2 srt2 eq2 =>
      rw [hlen] at perm2
      obtain ⟨i,hi,e⟩:=eq2
      exact absurd e (strict_ne ((perm.trans hp.symm).trans perm2.symm) st hi)
    | made qs even2 perm2 srt2 dist2 =>
      rw [hlen] at perm2
      have hpq : ps = qs:=strict_eq ((perm.trans hp.symm).trans perm2.symm) st (strict_of srt2 dist2)
      subst hpq
      rw [if_pos hm]
      exact ⟨by unfold checkV; rw [if_pos hm],rfl,hm⟩
theorem mapres_even {l : List Vl} {v : Vl} (h : MapRes l v 0) : l.length % 2 = 0:=by
  generalize he : (0 : Int) = e at h
  cases h with
  | odd h=>exact absurd he (by decide)
  | twice ps h _ _ _=>exact h
  | made ps h _ _ _=>exact h
def turnL (l : List Vl) (a b : Nat) (ha : 2 * a + 1 < l.length) (hb : 2 * b + 1 < l.length) : List Vl :=
  (((l.set (2 * a) (l[2 * b]'(by omega))).set (2 * b) (l[2 * a]'(by omega))).set (2 * a + 1) l[2 * b + 1]).set (2 * b + 1) l[2 * a + 1]
theorem turnL_len {l : List Vl} {a b : Nat} (ha : 2 * a + 1 < l.length) (hb : 2 * b + 1 < l.length) : (turnL l a b ha hb).length = l.length:=by simp [turnL]
theorem pairAt_get {l : List Vl} {i : Nat} (h : 2 * i + 1 < l.length) : pairAt l i = [l[2 * i]'(by omega),l[2 * i + 1]]:=by
  unfold pairAt
  rw [List.drop_eq_getElem_cons (show 2 * i < l.length by omega),List.drop_eq_getElem_cons h]
  rfl
theorem turn_pairs {l : List Vl} {a b n : Nat} (ha : 2 * a + 1 < l.length) (hb : 2 * b + 1 < l.length) (hn : l.length = 2 * n) : (pairsL (turnL l a b ha hb) n).Perm (pairsL l n):=by
  have han : a < (pairsL l n).length:=by simp [pairsL]; omega
  have hbn : b < (pairsL l n).length:=by simp [pairsL]; omega
  have e : pairsL (turnL l a b ha hb) n = ((pairsL l n).set a (pairsL l n)[b]).set b (pairsL l n)[a]:=by
    refine List.ext_getElem (by simp [pairsL]) (fun i h1 h2=>?_)
    have hi : i < n:=by simpa [pairsL] using h1
    have hil : 2 * i + 1 < l.length:=by omega
    have hil2 : 2 * i + 1 < (turnL l a b ha hb).length:=by rw [turnL_len]; exact hil
    rw [List.getElem_set,List.getElem_set]
    simp only [pairsL,List.getElem_map,List.getElem_range]
    rw [pairAt_get hil2,pairAt_get hil,pairAt_get ha,pairAt_get hb]
    simp only [turnL,List.getElem_set]
    by_cases h3 : b = i
    · subst h3
      simp
      intro h4
      omega
    · by_cases h4 : a = i
      · subst h4
        have h5 : ¬ 2 * b = 2 * a:=by omega
        have h6 : ¬ 2 * b + 1 = 2 * a:=by omega
        have h7 : ¬ 2 * a + 1 = 2 * a:=by omega
        have h8 : ¬ 2 * b = 2 * a + 1:=by omega
        simp [h3,h5,h6,h8]
      · have h5 : ¬ 2 * b = 2 * i:=by omega
        have h6 : ¬ 2 * b + 1 = 2 * i:=by omega
        have h7 : ¬ 2 * a + 1 = 2 * i:=by omega
        have h8 : ¬ 2 * b = 2 * i + 1:=by omega
        have h9 : ¬ 2 * a = 2 * i:=by omega
        have h10 : ¬ 2 * a = 2 * i + 1:=by omega
        simp [h3,h4,h5,h6,h7,h8,h9,h10]
  rw [e]
  exact List.set_set_perm han hbn
end Gx
namespace Gx
open Go Go.Proofs Go.Shelf Go.RowKit Go.Lib
set_option linter.unusedVariables false
set_option linter.unusedSimpArgs false
set_option maxRecDepth 100000
theorem ext_bs0 {s : List UInt8} {a b : Nat} : (bs s).extract a b = bs ((s.drop a).take (b - a)):=by
  apply ByteArray.ext
  simp [bs,ByteArray.extract,ByteArray.copySlice]
theorem sbytes_bs0 (l : List UInt8) : sbytes (bs l) = l.map bv:=rfl
theorem cutS_b {β : Type} {h : Heap} {Q : β → Heap → Prop} {s : List UInt8} {a b : Nat} {lo hi : Int} {f : ByteArray → M β} (hl : lo = (a : Int)) (hh : hi = (b : Int)) (h1 : a ≤ b) (h2 : b ≤ s.length) (H : (f (bs ((s.drop a).take (b - a)))).wp h Q) : (slS (bs s) lo hi >>= f).wp h Q:=by
  subst hl; subst hh
  refine ⟨_,⟨by omega,by omega,by rw [bs_size]; omega,rfl⟩,?_⟩
  rw [Int.toNat_natCast,Int.toNat_natCast,ext_bs0]
  exact H
theorem bcontains_spec {h : Heap} {Q : Bool → Heap → Prop} {x : Sl} {l : List UInt8} {g : Value} {p : UInt8 → Bool} (hx : Bys h x l) (hl : l.length ≤ 4611686018427387904)
    (hg : ∀ (c : UInt8) (Q1 : Bool → Heap → Prop),Q1 (p c) h → (callV Go.Proofs.Tryz.prog (fun r : Bool=>.bool r) g [.int .u8 (c.toNat : Int)]).wp h Q1)
    (H : Q (l.any p) h) : (slices_ContainsFunc_slbyte_byte x g).wp h Q:=by
  unfold slices_ContainsFunc_slbyte_byte slices_IndexFunc_slbyte_byte
  have hxl:=hx.len
  refine bind_w (M.loop_inv (fun (t : Int) h'=>h' = h ∧ ∃ i : Nat,t = (i : Int) ∧ i ≤ l.length ∧ (l.drop i).any p = l.any p) (fun t _=>((l.length : Int) - t).toNat) ?_ ⟨rfl,0,rfl,Nat.zero_le _,by simp⟩)
  rintro t h' ⟨rfl,i,rfl,hi,hd⟩ self hself
  unfold slices_IndexFunc_slbyte_byte_l1
  refine ite_w (fun hc=>?_) (fun hc=>?_)
  · have hlt : i < l.length:=by have:=of_decide_eq_true hc; omega
    rw [List.drop_eq_getElem_cons hlt,List.any_cons] at hd
    obtain ⟨b,hb,hcell⟩:=hx.get hlt
    refine ixL_b (by omega) (by omega) hb (ldI_b (n:=(l[i].toNat : Int)) ?_ (bind_w (hg l[i] _ ?_)))
    · rw [show (i : Int).toNat * 1 = i by omega]; exact hcell
    refine ite_w (fun ht=>pure_w (pure_w ?_)) (fun hf=>?_)
    · rw [ht] at hd
      rw [show decide ((i : Int) ≥ 0) = l.any p by rw [← hd]; simp]
      exact H
    · rw [hf,Bool.false_or] at hd
      rw [w64 (by omega) (by omega)]
      exact hself _ _ ⟨rfl,i + 1,by simp,by omega,hd⟩ (by omega)
  · have hge : i = l.length:=by have:=of_decide_eq_false hc; omega
    subst hge
    rw [List.drop_length] at hd
    refine pure_w (pure_w ?_)
    rw [show decide ((-1 : Int) ≥ 0) = l.any p by rw [← hd]; rfl]
    exact H
def digB (c : UInt8) : Bool:=decide (48 ≤ c.toNat) && decide (c.toNat ≤ 57)
theorem nodig_spec {c : UInt8} {h : Heap} {Q : Bool → Heap → Prop} (H : Q (!digB c) h) : (num_Parse_1 (c.toNat : Int)).wp h Q:=by
  unfold num_Parse_1
  refine or_b (c:=decide ((c.toNat : Int) > 57)) (fun _ Q' hq=>pure_w hq) (pure_w ?_)
  rw [show (decide ((c.toNat : Int) < 48) || decide ((c.toNat : Int) > 57)) = !digB c by
    unfold digB
    by_cases h1 : c.toNat < 48
    · simp [show ((c.toNat : Int) < 48) by omega,show ¬ 48 ≤ c.toNat by omega]
    · by_cases h2 : c.toNat > 57
      · simp [show ((c.toNat : Int) > 57) by omega,show ¬ c.toNat ≤ 57 by omega]
      · simp [show ¬ ((c.toNat : Int) < 48) by omega,show ¬ ((c.toNat : Int) > 57) by omega,show 48 ≤ c.toNat by omega,show c.toNat ≤ 57 by omega]]
  exact H
def ErrV (h : Heap) : Prop:=∃ t p,hcell h ⟨5,0,none⟩ = some (.iface t p)
theorem ErrV.ext {h h' : Heap} (H : ErrV h) (e : Ext h h') : ErrV h':=by obtain ⟨t,p,hc⟩:=H; exact ⟨t,p,e.cell hc⟩
theorem sclone_str {t : List UInt8} {h : Heap} {Q : ByteArray → Heap → Prop} (ht : t.length ≤ 281474976710656) (H : ∀ h',Ext h h' → Q (bs t) h') : (internal_stringslite_Clone (bs t)).wp h Q:=by
  unfold internal_stringslite_Clone
  rw [bs_size]
  refine ite_w (fun h0=>?_) (fun h0=>?_)
  · have : t = []:=by have:=eq_of_beq h0; exact List.length_eq_zero_iff.1 (by omega)
    subst this
    exact pure_w (H _ (Ext.refl _))
  · have hne : t ≠ []:=fun e=>by subst e; exact absurd h0 (by decide)
    have hpos : 0 < t.length:=List.length_pos_iff.2 hne
    refine ⟨by omega,by omega,by omega,by omega,?_⟩
    rw [Int.toNat_natCast,Nat.mul_one]
    have e1:=Ext.push h (.cells (zRow #[.int .u8 0] t.length) ty_uint8)
    have g1 : (h.push (.cells (zRow #[.int .u8 0] t.length) ty_uint8))[h.size]? = some (.cells (zRow #[.int .u8 0] t.length) ty_uint8 (0,0)):=get_push_eq
    have s1 : (h.push (.cells (zRow #[.int .u8 0] t.length) ty_uint8)).size = h.size + 1:=Array.size_push _
    generalize h.push (.cells (zRow #[.int .u8 0] t.length) ty_uint8) = h1 at e1 g1 s1 ⊢
    have hz : (zRow #[.int .u8 0] t.length).size = t.length:=zRow_size _ _
    refine ⟨by rw [bs_size]; exact Nat.le_refl _,?_,?_⟩
    · intro a ha j hj
      cases ha
      rw [bs_size] at hj
      rw [add_mk,Nat.zero_add]
      refine ⟨⟨(zRow #[.int .u8 0] t.length)[j]'(by omega),?_⟩,hfrozen_blk g1⟩
      rw [hcell_blk g1]; exact Array.getElem?_eq_getElem (by omega)
    show M.wp _ (hsetL h1 ((⟨h.size,0,none⟩ : Addr).add 0) (sbytes (bs t)) 0) Q
    rw [add_mk,Nat.zero_add]
    have g2:=hsetL_at (o:=0) (sbytes (bs t)) h1 0 _ g1
    have e2 : Ext h (hsetL h1 ⟨h.size,0,none⟩ (sbytes (bs t)) 0):=e1.hsetL (Nat.le_refl _)
    have s2:=hsetL_size (a:=⟨h.size,0,none⟩) (sbytes (bs t)) h1 0
    have hlen : (sbytes (bs t)).length = (zRow #[.int .u8 0] t.length).size:=by rw [hz]; simp [sbytes,bs]
    rw [Nat.add_zero,lay_full hlen] at g2
    generalize hsetL h1 ⟨h.size,0,none⟩ (sbytes (bs t)) 0 = h2 at g2 e2 s2 ⊢
    refine ixL_b (b:=⟨h.size,0,none⟩) (by decide) (by show (0 : Int) < ((t.length : Nat) : Int); omega) rfl (.inr ⟨h.size,_,_,t,?_,rfl,hne,?_,by omega,g2,?_,?_⟩)
    · rw [add_mk]; rfl
    · rw [List.size_toArray,hlen,hz]; exact Nat.le_refl _
    · intro j x hx
      rw [List.getElem?_toArray]
      simp [sbytes,bs,hx]
    · intro h3 hs3 same3
      refine pure_w (H _ ⟨by have:=e2.size; omega,fun i hi=>?_⟩)
      rw [same3 i (by omega)]
      exact e2.same i hi
theorem rangeErr_spec {fn t : List UInt8} {h : Heap} {Q : Option Addr → Heap → Prop} (ht : t.length ≤ 281474976710656) (hv : ErrV h) (H : ∀ h' a,Ext h h' → Q (some a) h') : (strconv_rangeError (bs fn) (bs t)).wp h Q:=by
  obtain ⟨ty,p,hc⟩:=hv
  unfold strconv_rangeError
  refine ⟨_,hc,bind_w (sclone_str ht (fun h1 e1=>chk_b (e1.cell hc) ?_))⟩
  refine ⟨_,rfl,mkB_b (pure_w (H _ _ (e1.pushed _)))⟩
theorem toErr_spec {fn t : List UInt8} {h : Heap} {Q : Value → Heap → Prop} (ht : t.length ≤ 281474976710656) (hv : ErrV h) (H : ∀ h' u x,Ext h h' → Q (.iface u x) h') : (strconv_toError (bs fn) (bs t) 10 64 (.iface ty_internal_strconv_Error (.int .i64 1))).wp h Q:=by
  unfold strconv_toError
  refine ⟨false,⟨_,_,_,rfl,rfl,rfl⟩,iteF rfl ⟨true,⟨_,_,_,rfl,rfl,rfl⟩,iteT rfl (bind_w (rangeErr_spec ht hv (fun h1 a e1=>pure_w (H _ _ _ e1))))⟩⟩
def numD (t : List UInt8) : List UInt8:=if t.head? = some 45 then t.tail else t
def numP (t : List UInt8) : Int × Int :=
  if numD t = [] then (0,10) else if (numD t).all digB = false then (0,10) else if (numD t).head? = some 48 ∧ t ≠ [48] then (0,10)
  else match Lib.parseIntB 64 t with | .ok n=>(n,0) | _=>(0,7)
def isNum {α : Type} : Lib.NumEnd α → Bool
  | .ok _=>true
  | .range=>true
  | _=>false
theorem parseM_dig (M : Nat) : ∀ (r : List UInt8) (acc : Nat),r.all digB = true → isNum (parseUintM M acc r) = true
  | [],acc,_=>by rw [parseUintM]; rfl
  | c :: r,acc,h=>by
    rw [List.all_cons,Bool.and_eq_true] at h
    have h1:=h.1
    unfold digB at h1
    rw [Bool.and_eq_true,decide_eq_true_iff,decide_eq_true_iff] at h1
    rw [parseUintM,if_pos h1]
    split
    · rfl
    · split
      · rfl
      · exact parseM_dig M r _ h.2
theorem u8_45 {c : UInt8} : ((c.toNat : Int) == 45) = decide (some c = some (45 : UInt8)):=by
  rw [eqI]
  refine decide_eq_decide.2 ⟨fun h=>?_,fun h=>by cases h; rfl⟩
  have : c = 45:=UInt8.toNat_inj.1 (by show c.toNat = 45; omega)
  rw [this]
theorem u8_48 {c : UInt8} : ((c.toNat : Int) == 48) = decide (some c = some (48 : UInt8)):=by
  rw [eqI]
  refine decide_eq_decide.2 ⟨fun h=>?_,fun h=>by cases h; rfl⟩
  have : c = 48:=UInt8.toNat_inj.1 (by show c.toNat = 48; omega)
  rw [this]
theorem parseB_dig {t : List UInt8} (h1 : numD t ≠ []) (h2 : (numD t).all digB = true) : isNum (Lib.parseIntB 64 t) = true:=by
  cases t with
  | nil=>exact absurd rfl h1
  | cons c r =>
    have hd : numD (c :: r) = (if c.toNat = 43 ∨ c.toNat = 45 then r else c :: r):=by
      unfold numD
      rw [List.head?_cons,List.tail_cons]
      by_cases h45 : c = 45
      · subst h45; rfl
      · have hn : c.toNat ≠ 45:=fun e=>h45 (UInt8.toNat_inj.1 (by rw [e]; rfl))
        rw [if_neg (by simpa using h45)]
        by_cases h43 : c.toNat = 43
        · exfalso
          unfold numD at h2
          rw [List.head?_cons,if_neg (by simpa using h45),List.all_cons,Bool.and_eq_true] at h2
          have:=h2.1
          unfold digB at this
          rw [Bool.and_eq_true,decide_eq_true_iff,decide_eq_true_iff] at this
          omega
        · rw [if_neg (by omega)]
    rw [hd] at h1 h2
    unfold parseIntB
    dsimp only
    unfold parseUintB
    rw [if_neg h1]
    have:=parseM_dig (2 ^ 64 - 1) _ 0 h2
    split
    · rename_i hh; rw [hh] at this; cases this
    · rfl
    · split
      · rfl
      · split <;> rfl
theorem numj_spec {t : List UInt8} {h : Heap} {Q : Int × Int → Heap → Prop} (ht : t.length ≤ 281474976710656) (hv : ErrV h) (H : ∀ h',Ext h h' → Q (numP t) h') : (num_Parse_j1 (bs t) (bs (numD t))).wp h Q:=by
  have hdl : (numD t).length ≤ t.length:=by unfold numD; split <;> simp
  have hdl2 : t.length ≤ (numD t).length + 1:=by unfold numD; split <;> simp <;> omega
  unfold num_Parse_j1
  refine assoc_b ?_
  have fin : ∀ (b : Bool) (h1 : Heap),Ext h h1 → b = (decide (numD t = []) || !(numD t).all digB) → (M.wp (M.ite b (M.pure true) (do
    let x26_11 ← ixS (bs (numD t)) 0
    let x31_12 ← M.ite (x26_11 == 48) (do
      M.pure (!(sEq (bs t) (⟨#[48]⟩ : ByteArray)))
      ) (do
      M.pure false
      )
    M.pure x31_12
    ) >>= fun x32_10=>M.ite x32_10 (do
    M.pure (0,10)
    ) (do
    let x35_15 ← strconv_ParseInt (bs t) 10 64
    let x40_17 ← isNI x35_15.2
    let x41_18 ← num_told x35_15.1 x40_17
    M.pure (x41_18.1,x41_18.2)
    )) h1 Q):=by
    intro b h1 e1 hb
    refine ite_b (fun hbt=>?_) (fun hbf=>?_)
    · refine pure_b (iteT rfl (pure_w ?_))
      have : numP t = (0,10):=by
        unfold numP
        rw [hb,Bool.or_eq_true,decide_eq_true_iff,Bool.not_eq_true'] at hbt
        by_cases h0 : numD t = []
        · rw [if_pos h0]
        · rw [if_neg h0,if_pos (hbt.resolve_left h0)]
      rw [← this]
      exact H _ e1
    · rw [hb,Bool.or_eq_false_iff,decide_eq_false_iff_not,Bool.not_eq_false'] at hbf
      obtain ⟨hd0,hda⟩:=hbf
      have hpos : 0 < (numD t).length:=List.length_pos_iff.2 hd0
      refine ixS_b (i:=0) rfl hpos ?_
      have hhead : (numD t).head? = some ((numD t)[0]'hpos):=by rw [List.head?_eq_getElem?]; exact List.getElem?_eq_getElem hpos
      refine assoc_b (and_b (c:=decide (t ≠ [48])) (fun _ Q' hq=>pure_w ?_) (pure_b ?_))
      · rw [show (⟨#[48]⟩ : ByteArray) = bs [48] from rfl,sEq_bs]
        rw [show (!decide (t = [48])) = decide (t ≠ [48]) by simp]
        exact hq
      rw [u8_48]
      have hnp : ∀ X,numP t = (if (numD t).head? = some 48 ∧ t ≠ [48] then (0,10) else X) ↔ numP t = (if (numD t).head? = some 48 ∧ t ≠ [48] then (0,10) else X):=fun _=>Iff.rfl
      refine ite_w (fun hz=>pure_w ?_) (fun hz=>?_)
      · rw [Bool.and_eq_true,decide_eq_true_iff,decide_eq_true_iff,← hhead] at hz
        have : numP t = (0,10):=by
          unfold numP
          rw [if_neg hd0,if_neg (by rw [hda]; decide),if_pos hz]
        rw [← this]
        exact H _ e1
      · have hz' : ¬ ((numD t).head? = some 48 ∧ t ≠ [48]):=fun hh=>by
          rw [hhead] at hh
          rw [decide_eq_true hh.1,decide_eq_true hh.2] at hz
          cases hz
        have hres : numP t = (match Lib.parseIntB 64 t with | .ok n=>(n,0) | _=>(0,7)):=by
          unfold numP
          rw [if_neg hd0,if_neg (by rw [hda]; decide),if_neg hz']
        have hns:=parseB_dig hd0 hda
        refine bind_w ?_
        unfold strconv_ParseInt
        refine bind_w ⟨rfl,rfl,by rw [bs_size]; omega,fun h2 s2 same2=>?_⟩
        have e2 : Ext h h2:=e1.trans ⟨s2,same2⟩
        rw [show (bs t).data.toList = t from rfl]
        cases hp : Lib.parseIntB 64 t with
        | ok n =>
          rw [hp] at hres
          refine ⟨true,.inl ⟨rfl,rfl⟩,iteF rfl (pure_w ⟨true,.inl ⟨rfl,rfl⟩,bind_w ?_⟩)⟩
          unfold num_told
          refine iteF rfl (pure_w (pure_w ?_))
          show Q (n,0) h2
          rw [show (n,(0 : Int)) = numP t from hres.symm]
          exact H _ e2
        | range =>
          rw [hp] at hres
          refine ⟨false,.inr ⟨⟨_,_,rfl⟩,rfl⟩,iteT rfl (bind_w (toErr_spec (fn:=[80,97,114,115,101,73,110,116]) ht (hv.ext e2) (fun h3 u x e3=>pure_w ⟨false,.inr ⟨⟨_,_,rfl⟩,rfl⟩,bind_w ?_⟩)))⟩
          unfold num_told
          refine iteT rfl (pure_w (pure_w ?_))
          show Q (0,7) h3
          rw [show ((0 : Int),(7 : Int)) = numP t from hres.symm]
          exact H _ (e2.trans e3)
        | _=>rw [hp] at hns; cases hns
  refine ite_b (fun h0=>pure_b ?_) (fun h0=>?_)
  · rw [sEq0] at h0
    exact fin _ _ (Ext.refl _) (by rw [h0]; rfl)
  · rw [sEq0] at h0
    refine fun cap hcap mk hmk=>?_
    refine bind_w (bcontains_spec (l:=numD t) (p:=fun c=>!digB c) ⟨?_,.inr ⟨_,rfl,fun j v hj=>?_⟩⟩ (by omega) (fun c Q1 hq=>callV_f (cl_num_Parse_1) (S_num_Parse_1 _) (nodig_spec hq)) (pure_b ?_))
    · show (numD t).length = (bs (numD t)).size
      rw [bs_size]
    · rw [add_mk,Nat.zero_add,hcell_blk get_push_eq]
      rw [List.getElem?_map] at hj
      have hjl : j < (numD t).length:=by
        by_cases hh : j < (numD t).length
        · exact hh
        · rw [List.getElem?_eq_none (by omega)] at hj; cases hj
      rw [Array.getElem?_append_left (by simp [sbytes,bs]; exact hjl)]
      rw [List.getElem?_toArray,sbytes_bs0,List.getElem?_map]
      exact hj
    · refine fin _ _ (Ext.push _ _) ?_
      rw [h0,Bool.false_or]
      rw [List.any_eq_not_all_not]
      simp
theorem num_parse_spec {t : List UInt8} {h : Heap} {Q : Int × Int → Heap → Prop} (ht : t.length ≤ 281474976710656) (hv : ErrV h) (H : ∀ h',Ext h h' → Q (numP t) h') : (num_Parse (bs t)).wp h Q:=by
  unfold num_Parse
  cases t with
  | nil =>
    refine and_b (c:=false) (fun hb _ _=>?_) ?_
    · rw [sEq0] at hb; exact absurd hb (by decide)
    · rw [Bool.and_false]
      exact iteF rfl (numj_spec ht hv H)
  | cons c r =>
    refine and_b (c:=decide (some c = some (45 : UInt8))) (fun hb Q' hq=>?_) ?_
    · refine ixS_b (i:=0) rfl (by simp) (pure_w ?_)
      rw [List.getElem_cons_zero,u8_45]
      exact hq
    · rw [sEq0]
      refine ite_w (fun hb=>?_) (fun hb=>?_)
      · rw [Bool.and_eq_true,decide_eq_true_iff (p:=some c = some 45)] at hb
        refine cutS_b (a:=1) (b:=(c :: r).length) rfl (by rw [bs_size]) (by simp) (Nat.le_refl _) ?_
        have : (((c :: r).drop 1).take ((c :: r).length - 1)) = numD (c :: r):=by
          unfold numD
          rw [List.head?_cons,if_pos hb.2]
          simp
        rw [this]
        exact numj_spec ht hv H
      · have : numD (c :: r) = c :: r:=by
          unfold numD
          rw [List.head?_cons,if_neg]
          intro hc
          rw [decide_eq_true hc] at hb
          simp at hb
        have h2:=numj_spec ht hv H
        rw [this] at h2
        exact h2
end Gx
namespace Gx
open Go Go.Proofs Go.Shelf Go.RowKit Go.Lib Gx.Last
set_option linter.unusedVariables false
set_option linter.unusedSimpArgs false
set_option maxRecDepth 100000
abbrev vz : Array Value:=#[.int .i64 0,.int .i64 0,.string ByteArray.empty,.slice none 0 0]
def readRest (x0 x1 x2 x4 : Addr) : M Unit:=do
  let x19_2 ← ldI .i64 ((x4).add 0)
  M.need (vz.size = 4)
  stG x0 vz
  chk (fun h : Heap=>(hcell h ((x4).add 0) = some (.int .i64 x19_2)))
  stV x1 (.int .i64 x19_2)
  stV x2 (.bool false)
  M.pure ()
def readRes (p2 p3 p4 : Addr) : M (Array Value × Int × Bool):=do
  let c ← ldG 4 p2
  let i ← ldI .i64 p3
  let b ← ldB p4
  M.pure (c,i,b)
def readCatch (p2 p3 p4 : Addr) (u : Value) : M Unit:=do
  let i ← M.get (fun _ i=>u = .iface ty_value_wrong (.agg #[.int .i64 i]))
  let q ← mkB ty_value_wrong (#[.int .i64 0] : Array Value)
  M.need ((#[.int .i64 i] : Array Value).size = 1)
  stG q (#[.int .i64 i] : Array Value)
  readRest p2 p3 p4 q
def readTail (p2 p3 p4 : Addr) : M (Array Value × Int × Bool):=do
  let x ← ldG 4 p2
  M.need (x.size = 4)
  stG p2 x
  stV p3 (.int .i64 0)
  stV p4 (.bool true)
  readRes p2 p3 p4
def readM (x0 : ByteArray) : M (Array Value × Int × Bool):=do
  let p2 ← mkB ty_api_Value vz
  let p3 ← mkB ty_int (#[.int .i64 0] : Array Value)
  let p4 ← mkB ty_bool (#[.bool false] : Array Value)
  let r ← mkB ty_value_reader (#[.string x0,.int .i64 0] : Array Value)
  let v ← value_reader_value (some r) 1
  match v with
  | .inl u=>readCatch p2 p3 p4 u >>= fun _=>readRes p2 p3 p4
  | .inr cs=>do
    M.need (cs.size = 4)
    stG p2 cs
    let i ← ldI .i64 (r.add 1)
    M.ite (decide (i < (x0.size : Int))) (do
      let v ← value_reader_fail (some r)
      match v with
      | .inl u=>readCatch p2 p3 p4 u >>= fun _=>readRes p2 p3 p4
      | .inr _=>M.fail) (readTail p2 p3 p4)
def readEnc (r : Array Value × Int × Bool) : Value:=.tuple #[.agg r.1,.int .i64 r.2.1,.bool r.2.2]
theorem fd142_0' : fdOff Go.Proofs.Tryz.prog 142 0 = some 0:=by kernel_rfl
theorem sz142' : szB Go.Proofs.Tryz.prog 142 1 = true:=by kernel_rfl
theorem zr4' : ((Go.Proofs.Tryz.prog.info? 4).bind (·.zero)) = some (.bool false):=by kernel_rfl
theorem sz4' : szB Go.Proofs.Tryz.prog 4 1 = true:=by kernel_rfl
theorem sc4' : scB Go.Proofs.Tryz.prog 4 = true:=by kernel_rfl
theorem ifc20' : ifB Go.Proofs.Tryz.prog 20 = true:=by kernel_rfl
theorem zr146' : ((Go.Proofs.Tryz.prog.info? 146).bind (·.zero)) = some (.agg (#[.string ByteArray.empty,.int .i64 0] : Array Value)):=by kernel_rfl
theorem pl146' : placesOf Go.Proofs.Tryz.prog 146 = some [(0,1),(1,1)]:=by kernel_rfl
theorem fd146_1' : fdOff Go.Proofs.Tryz.prog 146 1 = some 1:=by kernel_rfl
theorem un9' : Go.Proofs.Tryz.prog.underlying 9 = some .string:=Tryz.underlying9
theorem tb130_5 : tabAt Go.Proofs.Tryz.f130 5 [[],[],[1],[0,0],[2,3,0,1,2,3],[4,0,1,2,3,4]] [[],[],[1],[0],[2],[]] [[],[],[1],[0],[0,1,2,3],[0,1,2,3,4]] = true:=by kernel_rfl
theorem wpS_calm {c : Code} {P : Program} {N : Act → World → Prop} {R : Act → World → Prop} {Q : Exit → Act → List Frame → World → Prop} {a : Act} {cs : List Frame} {w : World} (h : c.wpIn (Fw none) 1 P (Ps N X0 R) a w)
    (hn : ∀ a w,N a w → Q .normal a cs w) (hr : ∀ a w,R a w → Q .ret a cs w) : c.wpS P Q a cs w:=by
  refine wpS_of_wp (wp_mono (wpIn_wide.1 h) ?_)
  intro e a w hh
  cases e with
  | normal=>exact hn _ _ hh
  | ret=>exact hr _ _ hh
  | exit i=>exact hh.2.elim
  | goto l=>exact hh.elim
  | panic c=>obtain ⟨_,_,hh⟩:=hh; exact hh.elim
  | outgrown=>exact hh.elim
theorem run_recover {dst : Option Tmp} {ty : TypeId} {pos : String} {aft : Array Edge} {ρ : Operand → Value} {P : Program} {w : World} : (execOp ρ ⟨dst,.call { callee:=.builtin .recover,args:=#[],argTypes:=#[] },ty,pos,aft,none⟩).run P w = .ok .recover w:=by
  simp [execOp,resolve,invoke,builtin]
theorem recover_region {P : Program} {Q : Exit → Act → List Frame → World → Prop} {a : Act} {cs cs' : List Frame} {w : World} {id d1 d2 : Nat} {ty1 ty2 : TypeId} {pos1 pos2 : String} {aft1 aft2 : Array Edge} {n : Frm} {l : List (Nat × Value)} {v : Value}
    (hE : Env n a l) (hn1 : Nat.blt d1 n.size = true) (hn2 : Nat.blt d2 n.size = true) (hv : recoverD cs = some (v,cs') ∨ (recoverD cs = none ∧ v = .nilIface ∧ cs' = cs))
    (h : ∀ a',Env n a' ((d2,v) :: (d1,v) :: l) → Q .normal a' cs' w) :
    (Code.region id #[⟨some d1,.call { callee:=.builtin .recover,args:=#[],argTypes:=#[] },ty1,pos1,aft1,none⟩,⟨some d2,.assign (.tmp d1),ty2,pos2,aft2,none⟩] false).wpS P Q a cs w:=by
  refine wpS_region ?_
  have e1:=hE.put d1 v hn1
  have hr2 : (execOp (a.put (some d1) v).eval ⟨some d2,.assign (.tmp d1),ty2,pos2,aft2,none⟩).run P w = .ok (.value v) w:=r_assign e1 (by simp [opv,look])
  have hf:=h _ (e1.put d2 v hn2)
  show wpOpsS P _ Q [0,1] a cs w
  rcases hv with hv | ⟨hv,rfl,rfl⟩
  · simp [wpOpsS,Region.wanted,run_recover,hv,hr2]
    exact hf
  · simp [wpOpsS,Region.wanted,run_recover,hv,hr2]
    exact hf
abbrev a130 (p2 p3 p4 : Addr) : Act:={ tmps:=#[.pointer (some p2),.pointer (some p3),.pointer (some p4)] ++ Array.replicate (20 - 3) undef,defers:=[] }
theorem a130_env (p2 p3 p4 : Addr) : Env ⟨20,[]⟩ (a130 p2 p3 p4) [(0,.pointer (some p2)),(1,.pointer (some p3)),(2,.pointer (some p4))] :=
  Env.enter (n:=20) #[.pointer (some p2),.pointer (some p3),.pointer (some p4)] _ (Nat.le_of_ble_eq_true rfl) (args_of ⟨rfl,rfl,rfl,trivial⟩)
theorem read1_ret {p2 p3 p4 : Addr} {w : World} {R : Ending → FrameMode → World → Prop} (h : R (.returned (.tuple #[])) .returning w) : CallsD Go.Proofs.Tryz.prog 130 #[.pointer (some p2),.pointer (some p3),.pointer (some p4)] .returning w R:=by
  refine callsD_of_wpS Go.Proofs.Tryz.func130 rfl (fun c₀ cs hu=>?_)
  refine wpS_seq (recover_region (v:=.nilIface) (cs':=c₀ :: cs) (a130_env p2 p3 p4) rfl rfl (.inr ⟨by simp [recoverD,hu],rfl,rfl⟩) (fun a hE=>?_))
  refine wpS_calm (N:=fun _ _=>False) (R:=fun a w'=>w' = w ∧ Env ⟨20,[]⟩ a [(0,.pointer (some p2))]) ?_ (fun _ _ h=>h.elim) (fun a w' hh=>?_)
  · refine w_seq (fun K hK_1=>?_)
    refine w_seq (fun K hK_2=>?_)
    refine t_region ?_
    refine t_val (v:=.nilIface) rfl rfl hE rfl (r_move hE rfl) (fun a hE=>?_)
    refine t_val (v:=.bool true) rfl rfl hE rfl (r_bin hE rfl rfl (g_ni (b:=true) (.inl ⟨rfl,rfl⟩)) (b_eqlN ifc20' (.inl ⟨rfl,rfl⟩))) (fun a hE=>?_)
    refine t_nil ?_
    refine hK_2 _ _ ?_
    refine w_cond true hE rfl (fun _=>?_) (fun hb=>by cases hb)
    exact w_ret ⟨rfl,hE.cut (.cons rfl Subs.nil)⟩
  · obtain ⟨rfl,hE⟩:=hh
    refine ⟨hE.defers,.returning,by rw [← hu],_,res_run (rs:=[]) (vs:=[]) hE rfl RV.nil,h⟩
theorem r_assertS {n : Frm} {a : Act} {w : World} {l : List (Nat × Value)} {P : Program} {dst : Option Tmp} {ty xt t : TypeId} {pos : String} {aft : Array Edge} {g : Option (Nat × Bool)} {x : Operand} {v : Value} {fs : Array Field} (hE : Env n a l) (hx : opv l x = some (.iface t v)) (ht : P.underlying t = some (.struct fs)) :
    (execOp a.eval ⟨dst,.typeAssert x xt t true,ty,pos,aft,g⟩).run P w = .ok (.value (.tuple #[v,.bool true])) w:=by
  simp [execOp,hE.opv hx,Instr.typeAssert,run_underlying ht]
theorem read1_pan {p2 p3 p4 : Addr} {w : World} {u : Value} {Q : Unit → Heap → Prop} {R : Ending → FrameMode → World → Prop} (H : (readCatch p2 p3 p4 u).wp w.heap Q)
    (h : ∀ w',Rest w w' → Q () w'.heap → R (.returned (.tuple #[])) (.panicking [{ v:=u,recovered:=true }]) w') : CallsD Go.Proofs.Tryz.prog 130 #[.pointer (some p2),.pointer (some p3),.pointer (some p4)] (.panicking [{ v:=u,recovered:=false }]) w R:=by
  refine callsD_of_wpS Go.Proofs.Tryz.func130 rfl (fun c₀ cs hu=>?_)
  obtain ⟨i,hi,H⟩:=H
  subst hi
  refine wpS_seq (recover_region (v:=.iface ty_value_wrong (.agg #[.int .i64 i])) (cs':={ c₀ with mode:=.panicking [{ v:=.iface ty_value_wrong (.agg #[.int .i64 i]),recovered:=true }] } :: cs) (a130_env p2 p3 p4) rfl rfl (.inl (by simp [recoverD,hu])) (fun a hE=>?_))
  have hR : Rest w w:=Rest.refl w
  refine wpS_calm (N:=fun a w'=>Rest w w' ∧ Q () w'.heap ∧ Env ⟨20,[]⟩ a [(0,.pointer (some p2))]) (R:=fun _ _=>False) ?_ (fun a w' hh=>?_) (fun _ _ h=>h.elim)
  · refine w_seq (fun K hK_1=>?_)
    refine w_seq (fun K hK_2=>?_)
    refine t_region ?_
    refine t_val (v:=.iface ty_value_wrong (.agg #[.int .i64 i])) rfl rfl hE rfl (r_move hE rfl) (fun a hE=>?_)
    refine t_val (v:=.bool false) rfl rfl hE rfl (r_bin hE rfl rfl (g_ni (b:=false) (.inr ⟨⟨_,_,rfl⟩,rfl⟩)) (b_eqlN ifc20' (.inr ⟨⟨_,_,rfl⟩,rfl⟩))) (fun a hE=>?_)
    refine t_nil ?_
    refine hK_2 _ _ ?_
    refine w_cond false hE rfl (fun hb=>by cases hb) (fun _=>?_)
    refine w_skip ?_
    refine hK_1 _ _ ?_
    refine w_seq (fun K hK_3=>?_)
    refine t_region ?_
    refine t_val (v:=.iface ty_value_wrong (.agg #[.int .i64 i])) rfl rfl hE rfl (r_move hE rfl) (fun a hE=>?_)
    refine t_val (v:=.tuple #[.agg #[.int .i64 i],.bool true]) rfl rfl hE rfl (r_assertS hE rfl Tryz.underlying142) (fun a hE=>?_)
    refine t_val (v:=.tuple #[.agg #[.int .i64 i],.bool true]) rfl rfl hE rfl (r_move hE rfl) (fun a hE=>?_)
    refine t_val (v:=.agg #[.int .i64 i]) rfl rfl hE rfl (r_extract hE rfl rfl) (fun a hE=>?_)
    refine t_val (v:=.bool true) rfl rfl hE rfl (r_extract hE rfl rfl) (fun a hE=>?_)
    obtain ⟨q,hq,H⟩:=H
    refine t_valh (v:=.pointer (some q)) rfl rfl hE rfl hR (r_alloc zr142 hq) (fun a w hE hR hh=>?_)
    replace H:=M.at hh H; clear hh
    obtain ⟨qz,H⟩:=H
    obtain ⟨u_3,qu_3,H⟩:=H
    refine t_sth rfl rfl hE hR (r_storeG hE rfl rfl sz142' qz qu_3) (fun a w hE hR hh=>?_)
    replace H:=M.at hh H; clear hh
    refine t_val (v:=.bool true) rfl rfl hE rfl (r_assign hE rfl) (fun a hE=>?_)
    refine t_nil ?_
    refine hK_3 _ _ ?_
    refine w_seq (fun K hK_4=>?_)
    refine w_seq (fun K hK_5=>?_)
    refine t_region ?_
    refine t_val (v:=.bool true) rfl rfl hE rfl (r_move hE rfl) (fun a hE=>?_)
    refine t_val (v:=.bool false) rfl rfl hE rfl (r_un hE rfl u_not) (fun a hE=>?_)
    refine t_nil ?_
    refine hK_5 _ _ ?_
    refine w_cond false hE rfl (fun hb=>by cases hb) (fun _=>?_)
    refine w_skip ?_
    refine hK_4 _ _ ?_
    replace hE : Env ⟨20,[]⟩ a [(0,.pointer (some p2)),(1,.pointer (some p3)),(2,.pointer (some p4)),(4,.pointer (some q))]:=hE.cut (.cons rfl (.cons rfl (.cons rfl (.cons rfl Subs.nil))))
    obtain ⟨x19_2,qx19_2,H⟩:=H
    have hT:=tab_of tb130_5 rfl rfl
    refine d_start (fun w : World=>(fun h : Heap=>(hcell h ((q).add 0) = some (.int .i64 x19_2))) w.heap) [4,5] #[false,false,false,false,false,false] mo hR rfl rfl (fun w' e=>by rw [e]; exact qx19_2) (fun w hh hR hs=>?_)
    replace H:=M.at hh H; clear hh
    refine d_pureg (i:=0) (v:=.agg vz) #[true,false,false,false,false,false] rfl rfl hT (by kernel_rfl) hE rfl (wanted_none rfl) (fun w=>r_build0 bd24) (fun a hE=>?_)
    refine d_pureg (i:=1) (v:=.pointer (some ((q).add 0))) #[true,true,false,false,false,false] rfl rfl hT (by kernel_rfl) hE rfl (wanted_none rfl) (fun w=>r_fieldAddr hE rfl fd142_0') (fun a hE=>?_)
    refine d_read (i:=2) (v:=.int .i64 x19_2) #[true,true,true,false,false,false] rfl rfl hT (by kernel_rfl) hE rfl (wanted_none rfl) hs (fun w s=>r_load hE rfl sc3 s) (fun a hE=>?_)
    obtain ⟨qz,H⟩:=H
    obtain ⟨u_3,qu_3,H⟩:=H
    obtain ⟨_,sA,H⟩:=H
    refine d_sth (i:=3) #[true,true,true,true,false,false] rfl rfl hT (by kernel_rfl) rfl hE hR (wanted_none rfl) (r_storeG hE rfl rfl sz24 qz qu_3)  (fun w' e=>by rw [e]; exact sA) (fun a w hE hR hh hs=>?_)
    replace H:=M.at hh H; clear hh
    obtain ⟨u_4,qu_4,H⟩:=H
    refine d_stlh (i:=4) #[true,true,true,true,true,false] rfl rfl hT (by kernel_rfl) rfl hE hR (wanted_none rfl) (r_store hE rfl rfl sz3 qu_4)  (fun a w hE hR hh=>?_)
    replace H:=M.at hh H; clear hh
    obtain ⟨u_5,qu_5,H⟩:=H
    refine d_stlh (i:=5) #[true,true,true,true,true,true] rfl rfl hT (by kernel_rfl) rfl hE hR (wanted_none rfl) (r_store hE rfl rfl sz4' qu_5)  (fun a w hE hR hh=>?_)
    replace H:=M.at hh H; clear hh
    refine d_done hT (by kernel_rfl) ?_
    exact ⟨hR,H,hE.cut (.cons rfl Subs.nil)⟩
  · obtain ⟨hR,hq,hE⟩:=hh
    exact ⟨hE.defers,_,rfl,_,res_run (rs:=[]) (vs:=[]) hE rfl RV.nil,h _ hR hq⟩
theorem read_leave {Q : Array Value × Int × Bool → Heap → Prop} {w0 w : World} {a : Act} {l : List (Nat × Value)} {p2 p3 p4 : Addr} {l0 : List Deferred} (hE : EnvD l0 22 a l) (h2 : look l 2 = some (.pointer (some p2))) (h3 : look l 3 = some (.pointer (some p3))) (h4 : look l 4 = some (.pointer (some p4))) (hR : Rest w0 w) (H : (readRes p2 p3 p4).wp w.heap Q) :
    ∃ v,(results Tryz.f75 a.tmps).run Tryz.prog w = .ok v w ∧ ∃ r,Ending.returned v = .returned (readEnc r) ∧ Q r w.heap ∧ Rest w0 w:=by
  obtain ⟨c,qc,H⟩:=H
  obtain ⟨i,qi,H⟩:=H
  obtain ⟨b,qb,H⟩:=H
  exact ⟨_,res_run (a:={ tmps:=a.tmps,defers:=[] }) (rs:=[.cell 2 24,.cell 3 3,.cell 4 4]) hE.env rfl (RV.cellG h2 ag24 qc (RV.cell h3 sc3 qi (RV.cell h4 sc4' qb RV.nil))),(c,i,b),rfl,H,hR⟩
abbrev dfr (p2 p3 p4 : Addr) : Deferred:={ target:=.fn (.func 130) #[.pointer (some p2),.pointer (some p3),.pointer (some p4)],args:=#[] }
theorem dfr_enter {p2 p3 p4 : Addr} {w : World} : (invoke (.fn (.func 130) #[.pointer (some p2),.pointer (some p3),.pointer (some p4)]) #[]).run Tryz.prog w = .ok (.enter 130 #[.pointer (some p2),.pointer (some p3),.pointer (some p4)]) w:=by
  have h:=callee_of Tryz.func130 (by kernel_rfl) rfl #[.pointer (some p2),.pointer (some p3),.pointer (some p4)] w
  simp [invoke,h]
theorem read_ret {Q : Array Value × Int × Bool → Heap → Prop} {w0 w : World} {a : Act} {l : List (Nat × Value)} {p2 p3 p4 : Addr} (hE : EnvD [dfr p2 p3 p4] 22 a l) (h2 : look l 2 = some (.pointer (some p2))) (h3 : look l 3 = some (.pointer (some p3))) (h4 : look l 4 = some (.pointer (some p4))) (hR : Rest w0 w) (H : (readRes p2 p3 p4).wp w.heap Q) :
    Leaves Tryz.prog Tryz.f75 a.tmps (fun e w'=>∃ r,e = .returned (readEnc r) ∧ Q r w'.heap ∧ Rest w0 w') a.defers .returning w:=by
  rw [hE.def_]
  refine leaves_cons (by simp) dfr_enter (read1_ret ?_)
  exact read_leave hE h2 h3 h4 hR H
theorem read_pan {Q : Array Value × Int × Bool → Heap → Prop} {w0 w : World} {a : Act} {l : List (Nat × Value)} {p2 p3 p4 : Addr} {u : Value} (hE : EnvD [dfr p2 p3 p4] 22 a l) (h2 : look l 2 = some (.pointer (some p2))) (h3 : look l 3 = some (.pointer (some p3))) (h4 : look l 4 = some (.pointer (some p4))) (hR : Rest w0 w) (H : (readCatch p2 p3 p4 u >>= fun _=>readRes p2 p3 p4).wp w.heap Q) :
    Leaves Tryz.prog Tryz.f75 a.tmps (fun e w'=>∃ r,e = .returned (readEnc r) ∧ Q r w'.heap ∧ Rest w0 w') a.defers (.panicking [{ v:=u,recovered:=false }]) w:=by
  rw [hE.def_]
  refine leaves_cons (by simp) dfr_enter (read1_pan (M.unbind H) (fun w' hR' H'=>?_))
  show Leaves _ _ _ _ [] (settle (.panicking [{ v:=u,recovered:=true }])) w'
  exact read_leave hE h2 h3 h4 (hR.trans hR') H'
theorem S_read (x0 : ByteArray) : Sound Go.Proofs.Tryz.prog fn_value_read #[.string x0] readEnc (readM x0):=by
  intro W0 Q H
  refine calls_of_wp_defers Go.Proofs.Tryz.func75 rfl ?_
  refine (fun hs=>wpIn_wide.1 hs) (?_ : Code.wpIn (Fw none) 1 _ _ _ _ _)
  have hE0 : Env ⟨22,[]⟩ { tmps:=#[.string x0] ++ Array.replicate (22 - 1) undef,defers:=[] } [(0,.string x0)]:=Env.enter (n:=22) #[.string x0] _ (Nat.le_of_ble_eq_true rfl) (args_of ⟨rfl,trivial⟩)
  have hE : EnvD [] 22 { tmps:=#[.string x0] ++ Array.replicate (22 - 1) undef,defers:=[] } [(0,.string x0)]:=⟨hE0,rfl⟩
  have hR : Rest W0 W0:=Rest.refl W0
  obtain ⟨p2,q2,H⟩:=H
  refine wpIn_seq (g_region ?_)
  refine g_valh (v:=.pointer (some p2)) rfl rfl hE rfl hR (fun b hE=>r_alloc zr24 q2) (fun a w1 hE hR hh=>?_)
  replace H:=M.at hh H; clear hh
  obtain ⟨p3,q3,H⟩:=H
  refine g_valh (v:=.pointer (some p3)) rfl rfl hE rfl hR (fun b hE=>r_alloc zr3 q3) (fun a w1 hE hR hh=>?_)
  replace H:=M.at hh H; clear hh
  obtain ⟨p4,q4,H⟩:=H
  refine g_valh (v:=.pointer (some p4)) rfl rfl hE rfl hR (fun b hE=>r_alloc zr4' q4) (fun a w1 hE hR hh=>?_)
  replace H:=M.at hh H; clear hh
  refine g_nil ?_
  refine wpIn_seq (g_region ?_)
  refine g_val (v:=.func (.func 130) #[] #[.pointer (some p2),.pointer (some p3),.pointer (some p4)]) rfl rfl hE rfl (fun b hE=>r_makeFunc hE rfl) (fun a hE=>?_)
  refine g_defer hE rfl (fun a hE=>?_)
  replace hE : EnvD [dfr p2 p3 p4] 22 a [(0,.string x0),(2,.pointer (some p2)),(3,.pointer (some p3)),(4,.pointer (some p4))]:=⟨hE.env.cut (.cons rfl (.cons rfl (.cons rfl (.cons rfl Subs.nil)))),hE.def_⟩
  refine g_nil ?_
  refine wpIn_seq (g_region ?_)
  refine g_val (v:=.string x0) rfl rfl hE rfl (fun b hE=>r_move hE rfl) (fun a hE=>?_)
  refine g_val (v:=.agg (#[.string x0,.int .i64 0] : Array Value)) rfl rfl hE rfl (fun b hE=>r_build hE rfl zr146' pl146' (by rfl)) (fun a hE=>?_)
  obtain ⟨r,qr,H⟩:=H
  refine g_valh (v:=.pointer (some r)) rfl rfl hE rfl hR (fun b hE=>r_box hE rfl qr) (fun a w1 hE hR hh=>?_)
  replace H:=M.at hh H; clear hh
  refine g_val (v:=.pointer (some r)) rfl rfl hE rfl (fun b hE=>r_assign hE rfl) (fun a hE=>?_)
  replace hE : EnvD [dfr p2 p3 p4] 22 a [(0,.string x0),(2,.pointer (some p2)),(3,.pointer (some p3)),(4,.pointer (some p4)),(5,.pointer (some r))]:=⟨hE.env.cut (.cons rfl (.cons rfl (.cons rfl (.cons rfl (.cons rfl Subs.nil))))),hE.def_⟩
  refine g_nil ?_
  refine wpIn_seq (g_region ?_)
  refine g_val (v:=.pointer (some r)) rfl rfl hE rfl (fun b hE=>r_move hE rfl) (fun a hE=>?_)
  refine g_callX hE hR cl_value_reader_value rfl (S_value_reader_value (some r) 1) (M.unbind H) (fun u w1 hR H=>?_) (fun cs a1 w1 ea hR H=>?_)
  · exact read_pan hE rfl rfl rfl hR H
  replace hE : EnvD [dfr p2 p3 p4] 22 a1 _:=ea ▸ hE.put 11 (.agg cs) rfl
  obtain ⟨qz,H⟩:=H
  obtain ⟨u_6,qu_6,H⟩:=H
  refine g_sth rfl rfl hE hR (fun b hE=>r_storeG hE rfl rfl sz24 qz qu_6) (fun a w hE hR hh=>?_)
  replace H:=M.at hh H; clear hh
  replace hE : EnvD [dfr p2 p3 p4] 22 a [(0,.string x0),(2,.pointer (some p2)),(3,.pointer (some p3)),(4,.pointer (some p4)),(5,.pointer (some r))]:=⟨hE.env.cut (.cons rfl (.cons rfl (.cons rfl (.cons rfl (.cons rfl Subs.nil))))),hE.def_⟩
  refine g_nil ?_
  obtain ⟨i,qi,H⟩:=H
  refine wpIn_seq (wpIn_mono (Q:=Exit.then (fun a w1=>EnvD [dfr p2 p3 p4] 22 a [(0,.string x0),(2,.pointer (some p2)),(3,.pointer (some p3)),(4,.pointer (some p4)),(5,.pointer (some r))] ∧ Rest W0 w1 ∧ (readTail p2 p3 p4).wp w1.heap Q)
    (bodyPostD Tryz.prog Tryz.f75 (fun e w'=>∃ r,e = .returned (readEnc r) ∧ Q r w'.heap ∧ Rest W0 w'))) ?_ ?_)
  · refine wpIn_seq (g_region ?_)
    refine g_val (v:=.pointer (some r)) rfl rfl hE rfl (fun b hE=>r_move hE rfl) (fun a hE=>?_)
    refine g_val (v:=.pointer (some r)) rfl rfl hE rfl (fun b hE=>r_nilCheck hE rfl) (fun a hE=>?_)
    refine g_val (v:=.pointer (some (r.add 1))) rfl rfl hE rfl (fun b hE=>r_fieldAddr hE rfl fd146_1') (fun a hE=>?_)
    refine g_val (v:=.int .i64 i) rfl rfl hE rfl (fun b hE=>r_load hE rfl sc3 qi) (fun a hE=>?_)
    refine g_val (v:=.string x0) rfl rfl hE rfl (fun b hE=>r_move hE rfl) (fun a hE=>?_)
    refine g_val (v:=.int .i64 (x0.size : Int)) rfl rfl hE rfl (fun b hE=>r_lenS hE rfl un9') (fun a hE=>?_)
    refine g_val (v:=.bool (decide (i < (x0.size : Int)))) rfl rfl hE rfl (fun b hE=>r_bin hE rfl rfl g_int b_lss) (fun a hE=>?_)
    refine g_nil ?_
    refine g_cond (decide (i < (x0.size : Int))) hE rfl (fun hb=>?_) (fun hb=>?_)
    · replace H:=M.ite_t hb H
      refine g_region ?_
      refine g_val (v:=.pointer (some r)) rfl rfl hE rfl (fun b hE=>r_move hE rfl) (fun a hE=>?_)
      refine g_callX hE hR cl_value_reader_fail rfl (S_value_reader_fail (some r)) (M.unbind H) (fun u w1 hR H=>?_) (fun cs a1 w1 ea hR H=>H.elim)
      exact read_pan hE rfl rfl rfl hR H
    · replace H:=M.ite_f hb H
      refine wpIn_skip ?_
      exact ⟨⟨hE.env.cut (.cons rfl (.cons rfl (.cons rfl (.cons rfl (.cons rfl Subs.nil))))),hE.def_⟩,hR,H⟩
  · intro e a w hh
    cases e with
    | normal =>
      obtain ⟨hE,hR,H⟩:=hh
      obtain ⟨x,qx,H⟩:=H
      obtain ⟨qz,H⟩:=H
      obtain ⟨u_6,qu_6,H⟩:=H
      refine wpIn_seq (g_region ?_)
      refine g_val (v:=.agg x) rfl rfl hE rfl (fun b hE=>r_loadG hE rfl ag24 qx) (fun a hE=>?_)
      refine g_sth rfl rfl hE hR (fun b hE=>r_storeG hE rfl rfl sz24 qz qu_6) (fun a w hE hR hh=>?_)
      replace H:=M.at hh H; clear hh
      obtain ⟨u_7,qu_7,H⟩:=H
      refine g_sth rfl rfl hE hR (fun b hE=>r_store hE rfl rfl sz3 qu_7) (fun a w hE hR hh=>?_)
      replace H:=M.at hh H; clear hh
      obtain ⟨u_8,qu_8,H⟩:=H
      refine g_sth rfl rfl hE hR (fun b hE=>r_store hE rfl rfl sz4' qu_8) (fun a w hE hR hh=>?_)
      replace H:=M.at hh H; clear hh
      refine g_nil ?_
      refine wpIn_ret ?_
      exact read_ret hE rfl rfl rfl hR H
    | exit i=>exact hh
    | ret=>exact hh
    | goto l=>exact hh
    | panic c=>exact hh
    | outgrown=>exact hh
end Gx
namespace Gx
open Go Go.Proofs Go.Shelf Go.RowKit Go.Lib
set_option linter.unusedVariables false
set_option linter.unusedSimpArgs false
set_option maxRecDepth 100000
structure Rd (h : Heap) (b : Nat) (s : List UInt8) (i : Nat) : Prop where
  blk : h[b]? = some (.cells #[.string (bs s),.int .i64 (i : Int)] ty_value_reader (0,0))
  le : i ≤ s.length
  small : s.length ≤ 1099511627776
def hereB (s : List UInt8) (i : Nat) : UInt8:=(s[i]?).getD 0
def wrongV (e : Nat) : Value:=.iface ty_value_wrong (.agg #[.int .i64 (e : Int)])
abbrev Kb (b : Nat) : Heap → Heap → Prop:=Km (fun k=>k = b)
theorem Rd.ext {h h' : Heap} {b : Nat} {s : List UInt8} {i : Nat} (R : Rd h b s i) (e : Ext h h') : Rd h' b s i:=⟨e.blk R.blk,R.le,R.small⟩
theorem Rd.lt {h : Heap} {b : Nat} {s : List UInt8} {i : Nat} (R : Rd h b s i) : b < h.size:=blk_lt R.blk
theorem ErrV.km {h h' : Heap} {b : Nat} (H : ErrV h) (k : Kb b h h') (hb : b ≠ 5) : ErrV h':=by
  obtain ⟨t,p,hc⟩:=H
  refine ⟨t,p,?_⟩
  have h5 : 5 < h.size:=hcell_lt hc
  have:=k.same 5 h5 (fun e=>hb e.symm)
  unfold hcell at hc ⊢
  rw [this]
  exact hc
theorem here_lt {s : List UInt8} {i : Nat} (h : hereB s i ≠ 0) : i < s.length:=by
  by_cases hi : i < s.length
  · exact hi
  · unfold hereB at h
    rw [List.getElem?_eq_none (by omega)] at h
    exact absurd rfl h
theorem here_get {s : List UInt8} {i : Nat} (hi : i < s.length) : hereB s i = s[i]:=by unfold hereB; rw [List.getElem?_eq_getElem hi]; rfl
section
variable {β : Type} {h : Heap} {Q : β → Heap → Prop} {b i : Nat} {s : List UInt8}
theorem rdS_b {f : ByteArray → M β} (R : Rd h b s i) (H : (f (bs s)).wp h Q) : (ldS ((⟨b,0,none⟩ : Addr).add 0) >>= f).wp h Q:=ldS_b (by rw [add_mk,hcell_blk R.blk]; rfl) H
theorem rdI_b {f : Int → M β} (R : Rd h b s i) (H : (f (i : Int)).wp h Q) : (ldI .i64 ((⟨b,0,none⟩ : Addr).add 1) >>= f).wp h Q:=ldI_b (by rw [add_mk,hcell_blk R.blk]; rfl) H
theorem rdW_b {f : Unit → M β} (R : Rd h b s i) (hi : i < s.length) (H : ∀ h',Upd b h h' → Rd h' b s (i + 1) → (f ()).wp h' Q) : (stV ((⟨b,0,none⟩ : Addr).add 1) (.int .i64 (IntKind.wrap .i64 ((i : Int) + 1))) >>= f).wp h Q:=by
  have hsm:=R.small
  rw [w64 (by omega) (by omega)]
  refine stV_b (x:=.int .i64 (i : Int)) (by rw [add_mk,hcell_blk R.blk]; rfl) (by rw [add_mk]; exact hfrozen_blk R.blk) rfl ?_
  rw [add_mk]
  exact H _ (Upd.hset _ _ _ _) ⟨hset_at R.blk,hi,hsm⟩
theorem adv_b {f : Unit → M β} (R : Rd h b s i) (hi : i < s.length) (H : ∀ h',Upd b h h' → Rd h' b s (i + 1) → (f ()).wp h' Q) :
    (nilP (some ⟨b,0,none⟩) >>= fun x=>ldI .i64 (x.add 1) >>= fun y=>nilP (some ⟨b,0,none⟩) >>= fun z=>stV (z.add 1) (.int .i64 (IntKind.wrap .i64 (y + 1))) >>= f).wp h Q :=
  nilP_b (rdI_b R (nilP_b (rdW_b R hi H)))
end
theorem here_spec {h : Heap} {Q : Int → Heap → Prop} {b i : Nat} {s : List UInt8} (R : Rd h b s i) (H : Q ((hereB s i).toNat : Int) h) : (value_reader_here (some ⟨b,0,none⟩)).wp h Q:=by
  unfold value_reader_here
  refine nilP_b (nilP_b (rdI_b R (rdS_b R ?_)))
  rw [bs_size]
  refine ite_w (fun hc=>?_) (fun hc=>pure_w ?_)
  · have hi : i < s.length:=by have:=of_decide_eq_true hc; omega
    refine nilP_b (nilP_b (rdS_b R (rdI_b R (ixS_b rfl hi (pure_w ?_)))))
    rw [← here_get hi]
    exact H
  · have hi : ¬ i < s.length:=by have:=of_decide_eq_false hc; omega
    unfold hereB at H
    rw [List.getElem?_eq_none (by omega)] at H
    exact H
theorem fail_spec {h : Heap} {Q : Value ⊕ Unit → Heap → Prop} {b i : Nat} {s : List UInt8} (R : Rd h b s i) (H : Q (.inl (wrongV i)) h) : (value_reader_fail (some ⟨b,0,none⟩)).wp h Q:=by
  unfold value_reader_fail
  exact nilP_b (rdI_b R (pure_w H))
theorem digit_spec {c : UInt8} {h : Heap} {Q : Bool → Heap → Prop} (H : Q (digB c) h) : (value_digit (c.toNat : Int)).wp h Q:=by
  unfold value_digit
  refine and_b (c:=decide ((c.toNat : Int) ≤ 57)) (fun _ Q' hq=>pure_w hq) (pure_w ?_)
  rw [show (decide ((c.toNat : Int) ≥ 48) && decide ((c.toNat : Int) ≤ 57)) = digB c by
    unfold digB
    congr 1
    · exact decide_eq_decide.2 (by omega)
    · exact decide_eq_decide.2 (by omega)]
  exact H
def mustP (s : List UInt8) : List UInt8 → Nat → Except Nat Nat
  | [],i=>.ok i
  | c :: r,i=>if s[i]? = some c then mustP s r (i + 1) else .error i
theorem mustP_ok {s : List UInt8} : ∀ {lit : List UInt8} {i j : Nat},mustP s lit i = .ok j → j = i + lit.length ∧ (lit ≠ [] → j ≤ s.length) ∧ (s.drop i).take lit.length = lit
  | [],i,j,h=>by cases h; exact ⟨rfl,fun h=>absurd rfl h,by simp⟩
  | c :: r,i,j,h=>by
    unfold mustP at h
    split at h
    · rename_i hc
      obtain ⟨h1,h2,h3⟩:=mustP_ok h
      have hi : i < s.length:=(List.getElem?_eq_some_iff.1 hc).1
      refine ⟨by rw [h1,List.length_cons]; omega,fun _=>?_,?_⟩
      · by_cases hr : r = []
        · subst hr; rw [h1]; exact hi
        · exact h2 hr
      · rw [List.drop_eq_getElem_cons hi,List.length_cons,List.take_succ_cons,h3]
        rw [(List.getElem?_eq_some_iff.1 hc).2]
    · cases h
theorem must_spec {h : Heap} {Q : Value ⊕ Unit → Heap → Prop} {b i : Nat} {s lit : List UInt8} (R : Rd h b s i) (hl : lit.length ≤ 1000)
    (H1 : ∀ j h',mustP s lit i = .ok j → Kb b h h' → Rd h' b s j → Q (.inr ()) h') (H2 : ∀ e h',mustP s lit i = .error e → Kb b h h' → Q (.inl (wrongV e)) h') : (value_reader_must (some ⟨b,0,none⟩) (bs lit)).wp h Q:=by
  unfold value_reader_must
  rw [bs_size]
  refine M.loop_inv (fun (x : Int) hh=>∃ k i' : Nat,x = (k : Int) ∧ k ≤ lit.length ∧ Kb b h hh ∧ Rd hh b s i' ∧ mustP s (lit.drop k) i' = mustP s lit i) (fun x _=>((lit.length : Int) - x).toNat) ?_ ⟨0,i,rfl,Nat.zero_le _,Km.refl _ _,R,rfl⟩
  rintro x hh ⟨k,i',rfl,hk,K,R',hm⟩ self hself
  unfold value_reader_must_l1
  refine ite_w (fun hc=>?_) (fun hc=>?_)
  · have hkl : k < lit.length:=by have:=of_decide_eq_true hc; omega
    rw [List.drop_eq_getElem_cons hkl,mustP] at hm
    refine nilP_b (nilP_b (rdI_b R' (rdS_b R' ?_)))
    rw [bs_size]
    have hfail : s[i']? ≠ some lit[k] → (value_reader_must_j2 self (some ⟨b,0,none⟩) (k : Int) true).wp hh Q:=fun hne=>by
      unfold value_reader_must_j2
      refine iteT rfl (fail_spec R' ?_)
      rw [if_neg hne] at hm
      exact H2 _ _ hm.symm K
    refine ite_w (fun hge=>?_) (fun hlt=>?_)
    · refine hfail ?_
      have:=of_decide_eq_true hge
      rw [List.getElem?_eq_none (by omega)]
      intro h; cases h
    · have hil : i' < s.length:=by have:=of_decide_eq_false hlt; omega
      refine nilP_b (nilP_b (ixS_b rfl hkl (rdS_b R' (rdI_b R' (ixS_b rfl hil ?_)))))
      by_cases he : s[i'] = lit[k]
      · rw [show (((s[i']).toNat : Int) != ((lit[k]).toNat : Int)) = false by rw [he]; simp]
        unfold value_reader_must_j2 value_reader_must_j1
        refine iteF rfl (adv_b R' hil (fun h2 u R2=>?_))
        rw [w64 (by omega) (by omega)]
        rw [if_pos (by rw [List.getElem?_eq_getElem hil,he])] at hm
        exact hself _ _ ⟨k + 1,i' + 1,by omega,by omega,K.trans (Km.upd u rfl),R2,hm⟩ (by omega)
      · rw [show (((s[i']).toNat : Int) != ((lit[k]).toNat : Int)) = true by
          rw [bne_iff_ne]
          intro h
          exact he (UInt8.toNat_inj.1 (by omega))]
        refine hfail ?_
        rw [List.getElem?_eq_getElem hil]
        intro h
        exact he (Option.some.inj h)
  · have hkl : k = lit.length:=by have:=of_decide_eq_false hc; omega
    subst hkl
    rw [List.drop_length,mustP] at hm
    exact pure_w (H1 _ _ hm.symm K R')
def numL (s : List UInt8) (fr : Nat) : Nat → Nat → Int → Except Nat (Int × Nat)
  | 0,i,n=>.ok (n,i)
  | f + 1,i,n=>if digB (hereB s i) = true then
      (if (numP ((s.drop fr).take (i + 1 - fr))).2 = 7 then .error i else if (numP ((s.drop fr).take (i + 1 - fr))).2 ≠ 0 then .ok (n,i) else numL s fr f (i + 1) (numP ((s.drop fr).take (i + 1 - fr))).1)
    else .ok (n,i)
def numJ (s : List UInt8) (i : Nat) : Nat:=if hereB s i = 45 then i + 1 else i
def numF (s : List UInt8) (i : Nat) : Except Nat (Int × Nat) :=
  if digB (hereB s (numJ s i)) = false ∨ (i < numJ s i ∧ hereB s (numJ s i) = 48) then .error (numJ s i) else numL s i (s.length - numJ s i) (numJ s i) 0
theorem dig_lt {s : List UInt8} {i : Nat} (h : digB (hereB s i) = true) : i < s.length:=by
  refine here_lt (fun e=>?_)
  rw [e] at h
  exact absurd h (by decide)
theorem numl_spec {h : Heap} {Q : Value ⊕ Int → Heap → Prop} {b i fr : Nat} {s : List UInt8} (R : Rd h b s i) (he : ErrV h) (hb : b ≠ 5) (hfr : fr ≤ i)
    (H1 : ∀ n j h',numL s fr (s.length - i) i 0 = .ok (n,j) → Kb b h h' → Rd h' b s j → Q (.inr n) h') (H2 : ∀ e h',numL s fr (s.length - i) i 0 = .error e → Kb b h h' → Q (.inl (wrongV e)) h') : (value_reader_number_j2 (some ⟨b,0,none⟩) (fr : Int)).wp h Q:=by
  unfold value_reader_number_j2
  refine M.loop_inv (fun (x : Int) hh=>∃ i' : Nat,fr ≤ i' ∧ Kb b h hh ∧ Rd hh b s i' ∧ (∃ hx : hh[b]? = some (.cells #[.string (bs s),.int .i64 (i' : Int)] ty_value_reader (0,0)),True) ∧ numL s fr (s.length - i') i' x = numL s fr (s.length - i) i 0)
    (fun x hh=>match hh[b]? with | some (.cells #[_,.int _ z] _ _)=>s.length - z.toNat | _=>0) ?_ ⟨i,hfr,Km.refl _ _,R,⟨R.blk,trivial⟩,rfl⟩
  rintro x hh ⟨i',hfi,K,R',⟨hx,_⟩,hm⟩ self hself
  have hsm:=R'.small
  unfold value_reader_number_l1
  refine bind_w (here_spec R' (bind_w (digit_spec ?_)))
  refine ite_w (fun hd=>?_) (fun hd=>?_)
  · have hil:=dig_lt hd
    rw [show s.length - i' = (s.length - (i' + 1)) + 1 by omega,numL,if_pos hd] at hm
    refine nilP_b (nilP_b (rdS_b R' (rdI_b R' ?_)))
    rw [w64 (by omega) (by omega)]
    refine cutS_b (a:=fr) (b:=i' + 1) rfl (by omega) (by omega) (by omega) (bind_w (callF_w (S_num_Parse _) (num_parse_spec ?_ (he.km K hb) (fun h2 e2=>?_))))
    · rw [List.length_take,List.length_drop]; omega
    have R2:=R'.ext e2
    refine ite_w (fun h7=>?_) (fun h7=>?_)
    · rw [eqI,decide_eq_true_iff] at h7
      rw [if_pos h7] at hm
      exact fail_spec R2 (H2 _ _ hm.symm (K.trans (Km.ext e2)))
    · rw [eqI,decide_eq_false_iff_not] at h7
      rw [if_neg h7] at hm
      unfold value_reader_number_j3
      refine ite_w (fun h0=>?_) (fun h0=>?_)
      · rw [bne_iff_ne] at h0
        rw [if_pos h0] at hm
        exact pure_w (H1 _ _ _ hm.symm (K.trans (Km.ext e2)) R2)
      · have h0 : ¬ (numP ((s.drop fr).take (i' + 1 - fr))).2 ≠ 0:=by
          intro hne
          rw [(bne_iff_ne).2 hne] at h0
          cases h0
        rw [if_neg h0] at hm
        refine adv_b R2 hil (fun h3 u3 R3=>?_)
        refine hself _ _ ⟨i' + 1,by omega,(K.trans (Km.ext e2)).trans (Km.upd u3 rfl),R3,⟨R3.blk,trivial⟩,hm⟩ ?_
        rw [R3.blk,hx]
        show s.length - ((i' + 1 : Nat) : Int).toNat < s.length - ((i' : Nat) : Int).toNat
        omega
  · have : numL s fr (s.length - i') i' x = .ok (x,i'):=by
      cases hf : s.length - i' with
      | zero=>rfl
      | succ f=>rw [numL,if_neg (by rw [hd]; decide)]
    rw [this] at hm
    exact pure_w (H1 _ _ _ hm.symm K R')
theorem number_spec {h : Heap} {Q : Value ⊕ Int → Heap → Prop} {b i : Nat} {s : List UInt8} (R : Rd h b s i) (he : ErrV h) (hb : b ≠ 5)
    (H1 : ∀ n j h',numF s i = .ok (n,j) → Kb b h h' → Rd h' b s j → Q (.inr n) h') (H2 : ∀ e h',numF s i = .error e → Kb b h h' → Q (.inl (wrongV e)) h') : (value_reader_number (some ⟨b,0,none⟩)).wp h Q:=by
  unfold value_reader_number
  have key : ∀ h1,Kb b h h1 → Rd h1 b s (numJ s i) → (value_reader_number_j1 (some ⟨b,0,none⟩) (i : Int)).wp h1 Q:=by
    intro h1 K1 R1
    unfold value_reader_number_j1
    have hij : i ≤ numJ s i:=by unfold numJ; split <;> omega
    refine nilP_b (rdI_b R1 (bind_w (here_spec R1 (bind_w (digit_spec ?_)))))
    refine or_b (c:=decide (i < numJ s i) && decide (hereB s (numJ s i) = 48)) (fun hd Q' hq=>?_) ?_
    · refine assoc_b (and_b (c:=decide (hereB s (numJ s i) = 48)) (fun _ Q2 hq2=>bind_w (here_spec R1 (pure_w ?_))) (pure_b (pure_w ?_)))
      · rw [u8_48,decide_eq_decide.2 (show some (hereB s (numJ s i)) = some 48 ↔ hereB s (numJ s i) = 48 from ⟨Option.some.inj,congrArg _⟩)]
        exact hq2
      · rw [show decide (((numJ s i : Nat) : Int) > (i : Int)) = decide (i < numJ s i) from decide_eq_decide.2 (by omega)]
        exact hq
    · refine ite_w (fun hbad=>?_) (fun hok=>?_)
      · refine fail_spec R1 (H2 _ _ ?_ K1)
        unfold numF
        rw [if_pos]
        rw [Bool.or_eq_true,Bool.and_eq_true,decide_eq_true_iff,decide_eq_true_iff,Bool.not_eq_true'] at hbad
        exact hbad
      · have hn : ¬ (digB (hereB s (numJ s i)) = false ∨ (i < numJ s i ∧ hereB s (numJ s i) = 48)):=by
          intro hh
          rw [← Bool.not_eq_true',← decide_eq_true_iff (p:=i < numJ s i),← decide_eq_true_iff (p:=hereB s (numJ s i) = 48),← Bool.and_eq_true,← Bool.or_eq_true,hok] at hh
          cases hh
        have hF : numF s i = numL s i (s.length - numJ s i) (numJ s i) 0:=by unfold numF; rw [if_neg hn]
        rw [hF] at H1 H2
        exact numl_spec R1 (he.km K1 hb) hb hij (fun n j h2 e K2 R2=>H1 n j h2 e (K1.trans K2) R2) (fun e h2 hm K2=>H2 e h2 hm (K1.trans K2))
  refine nilP_b (rdI_b R (bind_w (here_spec R ?_)))
  refine ite_w (fun hc=>?_) (fun hc=>?_)
  · have h45 : hereB s i = 45:=by
      rw [u8_45,decide_eq_true_iff] at hc
      exact Option.some.inj hc
    refine adv_b R (here_lt (by rw [h45]; decide)) (fun h1 u1 R1=>key _ (Km.upd u1 rfl) ?_)
    unfold numJ
    rw [if_pos h45]
    exact R1
  · have h45 : ¬ hereB s i = 45:=by
      rw [u8_45,decide_eq_false_iff_not] at hc
      exact fun e=>hc (congrArg _ e)
    refine key _ (Km.refl _ _) ?_
    unfold numJ
    rw [if_neg h45]
    exact R
end Gx
namespace Gx
open Go Go.Proofs Go.Shelf Go.RowKit Go.Lib
set_option linter.unusedVariables false
set_option linter.unusedSimpArgs false
set_option maxRecDepth 100000
def hexD : List UInt8:=[48,49,50,51,52,53,54,55,56,57,97,98,99,100,101,102]
def hexN (c : UInt8) : Int:=Lib.indexByte hexD c
theorem indexByte_le : ∀ (l : List UInt8) (c : UInt8),Lib.indexByte l c + 1 ≤ (l.length : Int)
  | [],c=>by simp [Lib.indexByte]
  | b :: l,c=>by
    have:=indexByte_le l c
    unfold Lib.indexByte
    rw [List.length_cons]
    split
    · omega
    · split <;> omega
theorem hexN_le (c : UInt8) : hexN c ≤ 15:=by
  have:=indexByte_le hexD c
  have h2 : (hexD.length : Int) = 16:=rfl
  unfold hexN
  omega
theorem hexN_0 : hexN 0 = -1:=by decide +kernel
theorem hex_byte : ∀ a b : Fin 16,IntKind.wrap .u8 (iOr .i64 (iShl .i64 (a.val : Int) 4) (b.val : Int)) = ((UInt8.ofNat (((a.val : Int) * 16 + (b.val : Int)).toNat)).toNat : Int):=by decide +kernel
theorem hexb {x y : Int} (hx : 0 ≤ x) (hx2 : x ≤ 15) (hy : 0 ≤ y) (hy2 : y ≤ 15) : IntKind.wrap .u8 (iOr .i64 (iShl .i64 x 4) y) = ((UInt8.ofNat ((x * 16 + y).toNat)).toNat : Int):=by
  have:=hex_byte ⟨x.toNat,by omega⟩ ⟨y.toNat,by omega⟩
  simp only [Int.toNat_of_nonneg hx,Int.toNat_of_nonneg hy] at this
  exact this
theorem hex_spec {c : UInt8} {h : Heap} {Q : Int → Heap → Prop} (H : Q (hexN c) h) : (strings_IndexByte (⟨#[48,49,50,51,52,53,54,55,56,57,97,98,99,100,101,102]⟩ : ByteArray) (c.toNat : Int)).wp h Q:=by
  unfold strings_IndexByte internal_stringslite_IndexByte
  refine bind_w (pure_w (pure_w ?_))
  have : (c.toNat : Int).toNat.toUInt8 = c:=by rw [Int.toNat_natCast]; simp
  rw [this]
  exact H
def escP (s : List UInt8) (i : Nat) : Except Nat (UInt8 × Nat) :=
  if hereB s i = 39 ∨ hereB s i = 92 then .ok (hereB s i,i + 1)
  else match mustP s [120] i with
    | .error e=>.error e
    | .ok j=>if hexN (hereB s j) < 0 ∨ (1 < hexN (hereB s j) ∧ hexN (hereB s j) < 7) then .error j
      else if hexN (hereB s (j + 1)) < 0 ∨ (hexN (hereB s j) = 7 ∧ hexN (hereB s (j + 1)) < 15) then .error (j + 1)
      else .ok (UInt8.ofNat ((hexN (hereB s j) * 16 + hexN (hereB s (j + 1))).toNat),j + 2)
theorem hex_lt {s : List UInt8} {i : Nat} (h : 0 ≤ hexN (hereB s i)) : i < s.length:=by
  refine here_lt (fun e=>?_)
  rw [e,hexN_0] at h
  omega
theorem u8_c {c d : UInt8} {n : Int} (hn : n = (d.toNat : Int)) : ((c.toNat : Int) == n) = decide (c = d):=by
  subst hn
  rw [eqI]
  refine decide_eq_decide.2 ⟨fun h=>UInt8.toNat_inj.1 (by omega),fun h=>by rw [h]⟩
theorem esc_spec {h : Heap} {Q : Value ⊕ Int → Heap → Prop} {b i : Nat} {s : List UInt8} (R : Rd h b s i)
    (H1 : ∀ (c : UInt8) j h',escP s i = .ok (c,j) → Kb b h h' → Rd h' b s j → Q (.inr (c.toNat : Int)) h') (H2 : ∀ e h',escP s i = .error e → Kb b h h' → Q (.inl (wrongV e)) h') : (value_reader_escaped (some ⟨b,0,none⟩)).wp h Q:=by
  unfold value_reader_escaped
  refine bind_w (here_spec R ?_)
  rw [u8_c (d:=39) (n:=39) rfl,u8_c (d:=92) (n:=92) rfl]
  refine or_b (c:=decide (hereB s i = 92)) (fun _ Q' hq=>pure_w hq) ?_
  refine ite_w (fun hc=>?_) (fun hc=>?_)
  · rw [Bool.or_eq_true,decide_eq_true_iff,decide_eq_true_iff] at hc
    have hi : i < s.length:=here_lt (by rcases hc with h | h <;> (rw [h]; decide))
    refine adv_b R hi (fun h1 u1 R1=>pure_w (H1 _ _ _ ?_ (Km.upd u1 rfl) R1))
    unfold escP
    rw [if_pos hc]
  · have hc' : ¬ (hereB s i = 39 ∨ hereB s i = 92):=by
      intro hh
      rw [← decide_eq_true_iff (p:=hereB s i = 39),← decide_eq_true_iff (p:=hereB s i = 92),← Bool.or_eq_true,hc] at hh
      cases hh
    refine thr_w (must_spec (lit:=[120]) R (by decide) (fun j h1 hj K1 R1=>?_) (fun e h1 hj K1=>?_))
    · have hE : escP s i = if hexN (hereB s j) < 0 ∨ (1 < hexN (hereB s j) ∧ hexN (hereB s j) < 7) then .error j
          else if hexN (hereB s (j + 1)) < 0 ∨ (hexN (hereB s j) = 7 ∧ hexN (hereB s (j + 1)) < 15) then .error (j + 1)
          else .ok (UInt8.ofNat ((hexN (hereB s j) * 16 + hexN (hereB s (j + 1))).toNat),j + 2):=by
        unfold escP
        rw [if_neg hc',hj]
      refine bind_w (here_spec R1 (bind_w (hex_spec ?_)))
      refine nilP_b (nilP_b (rdI_b R1 (rdS_b R1 ?_)))
      have hbad : (hexN (hereB s j) < 0 ∨ (1 < hexN (hereB s j) ∧ hexN (hereB s j) < 7)) → (value_reader_escaped_j4 (some ⟨b,0,none⟩) (hexN (hereB s j)) true).wp h1 Q:=fun hb=>by
        unfold value_reader_escaped_j4
        rw [if_pos hb] at hE
        exact iteT rfl (fail_spec R1 (H2 _ _ hE K1))
      have hgood : ¬ (hexN (hereB s j) < 0 ∨ (1 < hexN (hereB s j) ∧ hexN (hereB s j) < 7)) → (value_reader_escaped_j4 (some ⟨b,0,none⟩) (hexN (hereB s j)) false).wp h1 Q:=fun hb=>by
        unfold value_reader_escaped_j4 value_reader_escaped_j1
        rw [if_neg hb] at hE
        have hjl : j < s.length:=hex_lt (by omega)
        refine iteF rfl (adv_b R1 hjl (fun h2 u2 R2=>?_))
        have K2 : Kb b h h2:=K1.trans (Km.upd u2 rfl)
        refine bind_w (here_spec R2 (bind_w (hex_spec ?_)))
        refine nilP_b (nilP_b (rdI_b R2 (rdS_b R2 ?_)))
        have hbad2 : (hexN (hereB s (j + 1)) < 0 ∨ (hexN (hereB s j) = 7 ∧ hexN (hereB s (j + 1)) < 15)) → (value_reader_escaped_j3 (some ⟨b,0,none⟩) (hexN (hereB s j)) (hexN (hereB s (j + 1))) true).wp h2 Q:=fun hb=>by
          unfold value_reader_escaped_j3
          rw [if_pos hb] at hE
          exact iteT rfl (fail_spec R2 (H2 _ _ hE K2))
        have hgood2 : ¬ (hexN (hereB s (j + 1)) < 0 ∨ (hexN (hereB s j) = 7 ∧ hexN (hereB s (j + 1)) < 15)) → (value_reader_escaped_j3 (some ⟨b,0,none⟩) (hexN (hereB s j)) (hexN (hereB s (j + 1))) false).wp h2 Q:=fun hb2=>by
          unfold value_reader_escaped_j3 value_reader_escaped_j2
          rw [if_neg hb2] at hE
          have hjl2 : j + 1 < s.length:=hex_lt (by omega)
          refine iteF rfl (adv_b R2 hjl2 (fun h3 u3 R3=>pure_w ?_))
          rw [hexb (by omega) (hexN_le _) (by omega) (hexN_le _)]
          exact H1 _ _ _ hE (K2.trans (Km.upd u3 rfl)) R3
        refine ite_w (fun hge=>?_) (fun hlt=>?_)
        · refine hbad2 (.inl ?_)
          have hge:=of_decide_eq_true hge
          rw [bs_size] at hge
          have : hereB s (j + 1) = 0:=by unfold hereB; rw [List.getElem?_eq_none (by omega)]; rfl
          rw [this,hexN_0]; decide
        · refine ite_w (fun hn=>hbad2 (.inl (of_decide_eq_true hn))) (fun hn=>?_)
          have hn:=of_decide_eq_false hn
          refine ite_w (fun h7=>?_) (fun h7=>?_)
          · rw [eqI,decide_eq_true_iff] at h7
            by_cases h15 : hexN (hereB s (j + 1)) < 15
            · rw [decide_eq_true h15]
              exact hbad2 (.inr ⟨h7,h15⟩)
            · rw [decide_eq_false h15]
              exact hgood2 (fun hh=>hh.elim hn (fun hh=>h15 hh.2))
          · rw [eqI,decide_eq_false_iff_not] at h7
            exact hgood2 (fun hh=>hh.elim hn (fun hh=>h7 hh.1))
      refine ite_w (fun hge=>?_) (fun hlt=>?_)
      · refine hbad (.inl ?_)
        have hge:=of_decide_eq_true hge
        rw [bs_size] at hge
        have : hereB s j = 0:=by unfold hereB; rw [List.getElem?_eq_none (by omega)]; rfl
        rw [this,hexN_0]; decide
      · refine ite_w (fun hn=>hbad (.inl (of_decide_eq_true hn))) (fun hn=>?_)
        have hn:=of_decide_eq_false hn
        refine ite_w (fun h1'=>?_) (fun h1'=>?_)
        · have h1':=of_decide_eq_true h1'
          by_cases h7 : hexN (hereB s j) < 7
          · rw [decide_eq_true h7]
            exact hbad (.inr ⟨h1',h7⟩)
          · rw [decide_eq_false h7]
            exact hgood (fun hh=>hh.elim hn (fun hh=>h7 hh.2))
        · have h1':=of_decide_eq_false h1'
          exact hgood (fun hh=>hh.elim hn (fun hh=>h1' hh.1))
    · refine H2 e h1 ?_ K1
      unfold escP
      rw [if_neg hc',hj]
theorem escP_ok {s : List UInt8} {i j : Nat} {c : UInt8} (h : escP s i = .ok (c,j)) : i < j ∧ j ≤ s.length:=by
  unfold escP at h
  split at h
  · rename_i hc
    have hi : i < s.length:=here_lt (by rcases hc with h | h <;> (rw [h]; decide))
    cases h
    omega
  · split at h
    · cases h
    · rename_i j' hj
      obtain ⟨h1,h2,_⟩:=mustP_ok hj
      split at h
      · cases h
      · split at h
        · cases h
        · rename_i hn
          have:=hex_lt (s:=s) (i:=j' + 1) (by omega)
          cases h
          have : j' = i + 1:=h1
          omega
def strL (s : List UInt8) : Nat → Nat → List UInt8 → Except Nat (List UInt8 × Nat)
  | 0,i,_=>.error i
  | f + 1,i,acc =>
    if hereB s i = 39 then .ok (acc,i + 1)
    else if (hereB s i).toNat < 32 ∨ 126 < (hereB s i).toNat then .error i
    else if hereB s i = 92 then (match escP s (i + 1) with | .error e=>.error e | .ok (d,j)=>strL s f j (acc ++ [d]))
    else strL s f (i + 1) (acc ++ [hereB s i])
def strP (s : List UInt8) (i : Nat) : Except Nat (List UInt8 × Nat):=match mustP s [39] i with | .error e=>.error e | .ok j=>strL s (s.length + 1 - j) j []
theorem apByte_b {β : Type} {lo : Nat} {h : Heap} {Q : β → Heap → Prop} {r : Sl} {l : List UInt8} {c : UInt8} {f : Sl → M β} (G : Gw lo h r 1 (l.map bv)) (hle : lo ≤ h.size) (hm : l.length ≤ 1099511627776)
    (H : ∀ h' r',Gw lo h' r' 1 ((l ++ [c]).map bv) → h.size ≤ h'.size → (∀ j,j < lo → h'[j]? = h[j]?) → (f r').wp h' Q) : (bdL ty_uint8 1 #[.int .u8 (c.toNat : Int)] >>= fun x=>apL ty_uint8 1 1 (#[.int .u8 0] : Array Value) r x >>= f).wp h Q:=by
  refine bdL_b ?_
  have e6:=Ext.push h (.cells #[.int .u8 (c.toNat : Int)] ty_uint8)
  have g6 : (h.push (.cells #[.int .u8 (c.toNat : Int)] ty_uint8))[h.size]? = some (.cells #[.int .u8 (c.toNat : Int)] ty_uint8 (0,0)):=get_push_eq
  generalize h.push (.cells #[.int .u8 (c.toNat : Int)] ty_uint8) = h6 at e6 g6 ⊢
  have G6:=G.ext e6
  have hrl:=G6.len
  rw [List.length_map,Nat.mul_one] at hrl
  refine ap_grow (vs:=l.map bv) (news:=[bv c]) rfl G6 rfl (.inr ⟨_,rfl,fun j v hj=>?_⟩) (fun v hv=>by simp at hv; subst hv; rfl) (by dsimp only; omega) (by dsimp only; omega) (by have:=e6.size; omega) (fun h7 r7 G7 hlen7 hs7 same7 on7=>?_)
  · rw [add_mk,Nat.zero_add,hcell_blk g6]
    rw [show (#[.int .u8 (c.toNat : Int)] : Array Value) = [bv c].toArray from rfl]
    simpa using hj
  · refine H h7 r7 (by rw [List.map_append]; exact G7) (Nat.le_trans e6.size hs7) (fun j hj=>(same7 j (by have:=e6.size; omega) (fun ho=>by have:=(G6.lt ho).2; omega)).trans (e6.same j (by omega)))
theorem str_spec {h : Heap} {Q : Value ⊕ ByteArray → Heap → Prop} {b i : Nat} {s : List UInt8} (R : Rd h b s i)
    (H1 : ∀ t j h',strP s i = .ok (t,j) → Kb b h h' → Rd h' b s j → Q (.inr (bs t)) h') (H2 : ∀ e h',strP s i = .error e → Kb b h h' → Q (.inl (wrongV e)) h') : (value_reader_str (some ⟨b,0,none⟩)).wp h Q:=by
  unfold value_reader_str
  refine thr_w (must_spec (lit:=[39]) R (by decide) (fun j h1 hj K1 R1=>?_) (fun e h1 hj K1=>?_))
  · have hP : strP s i = strL s (s.length + 1 - j) j []:=by unfold strP; rw [hj]
    rw [hP] at H1 H2
    have hb:=R1.lt
    refine M.loop_inv (fun (x : Sl) hh=>∃ (acc : List UInt8) (f i' : Nat),s.length < f + i' ∧ acc.length ≤ i' ∧ Kb b h1 hh ∧ Rd hh b s i' ∧ Gw h1.size hh x 1 (acc.map bv) ∧ strL s f i' acc = strL s (s.length + 1 - j) j [])
      (fun x _=>s.length + 1 - x.len) ?_ ⟨[],_,j,by have:=R1.le; omega,Nat.zero_le _,Km.refl _ _,R1,Gw.nil _ _ _,rfl⟩
    rintro x hh ⟨acc,f,i',hf,hai,K,R',G,hm⟩ self hself
    have hsm:=R'.small
    have hle:=R'.le
    have hxl:=G.len
    rw [List.length_map,Nat.mul_one] at hxl
    obtain ⟨f,rfl⟩ : ∃ g,f = g + 1:=⟨f - 1,by omega⟩
    rw [strL] at hm
    unfold value_reader_str_l1
    refine bind_w (here_spec R' ?_)
    rw [show (((hereB s i').toNat : Int) != 39) = !decide (hereB s i' = 39) by rw [← u8_c (d:=39) (n:=39) rfl]; rfl]
    refine ite_w (fun hne=>?_) (fun heq=>?_)
    · have hne : hereB s i' ≠ 39:=by simpa using hne
      rw [if_neg hne] at hm
      refine bind_w (here_spec R' ?_)
      refine or_b (c:=decide (((hereB s i').toNat : Int) > 126)) (fun _ Q' hq=>pure_w hq) ?_
      refine ite_w (fun hbad=>?_) (fun hok=>?_)
      · rw [Bool.or_eq_true,decide_eq_true_iff,decide_eq_true_iff] at hbad
        rw [if_pos (by omega)] at hm
        exact fail_spec R' (H2 _ _ hm.symm (K1.trans K))
      · rw [Bool.or_eq_false_iff,decide_eq_false_iff_not,decide_eq_false_iff_not] at hok
        rw [if_neg (by omega)] at hm
        have hil : i' < s.length:=here_lt (fun e=>by rw [e] at hok; exact absurd hok.1 (by decide))
        unfold value_reader_str_j1
        refine adv_b R' hil (fun h2 u2 R2=>?_)
        have K2 : Kb b h1 h2:=K.trans (Km.upd u2 rfl)
        have G2 : Gw h1.size h2 x 1 (acc.map bv):=G.same (fun k hk=>u2.ne k (fun e=>by have:=(G.lt hk).2; omega))
        have hs2 : h1.size ≤ h2.size:=K2.size
        have next : ∀ (c : UInt8) (i2 : Nat) (h3 : Heap),i' < i2 → Kb b h1 h3 → Rd h3 b s i2 → Gw h1.size h3 x 1 (acc.map bv) → strL s f i2 (acc ++ [c]) = strL s (s.length + 1 - j) j [] → (value_reader_str_j2 self x (c.toNat : Int)).wp h3 Q:=by
          intro c i2 h3 hi2 K3 R3 G3 hm3
          unfold value_reader_str_j2
          refine apByte_b G3 K3.size (by omega) (fun h4 r4 G4 hs4 same4=>?_)
          have hl4:=G4.len
          rw [List.length_map,List.length_append,List.length_singleton,Nat.mul_one] at hl4
          refine hself _ _ ⟨acc ++ [c],f,i2,by omega,by rw [List.length_append,List.length_singleton]; omega,⟨Nat.le_trans K3.size hs4,fun k hk hkb=>(same4 k hk).trans (K3.same k hk hkb)⟩,⟨by rw [same4 b hb]; exact R3.blk,R3.le,R3.small⟩,G4,hm3⟩ ?_
          omega
        by_cases h92 : hereB s i' = 92
        · rw [if_pos h92] at hm
          refine iteT (by rw [u8_c (d:=92) (n:=92) rfl,decide_eq_true h92]) (thr_w (esc_spec R2 (fun c j2 h3 he K3 R3=>?_) (fun e h3 he K3=>?_)))
          · rw [he] at hm
            exact next c j2 h3 (by have:=escP_ok he; omega) (K2.trans K3) R3 (G2.same (fun k hk=>K3.same k (G2.lt hk).1 (fun e=>by have:=(G2.lt hk).2; omega))) hm
          · rw [he] at hm
            exact H2 _ _ hm.symm (K1.trans (K2.trans K3))
        · rw [if_neg h92] at hm
          refine iteF (by rw [u8_c (d:=92) (n:=92) rfl,decide_eq_false h92]) ?_
          exact next _ (i' + 1) h2 (by omega) K2 R2 G2 hm
    · have heq : hereB s i' = 39:=by simpa using heq
      rw [if_pos heq] at hm
      have hil : i' < s.length:=here_lt (by rw [heq]; decide)
      refine adv_b R' hil (fun h2 u2 R2=>?_)
      have G2 : Gw h1.size h2 x 1 (acc.map bv):=G.same (fun k hk=>u2.ne k (fun e=>by have:=(G.lt hk).2; omega))
      refine b2s_b (ns:=acc) hxl G2.reads (pure_w ?_)
      exact H1 _ _ _ hm.symm (K1.trans (K.trans (Km.upd u2 rfl))) R2
  · refine H2 e h1 ?_ K1
    unfold strP
    rw [hj]
end Gx
namespace Gx
open Go Go.Proofs Go.Shelf Go.RowKit Go.Lib
set_option linter.unusedVariables false
set_option linter.unusedSimpArgs false
set_option maxRecDepth 100000
def elemP (k : Int) (s : List UInt8) (i : Nat) : Except Nat (Vl × Nat) :=
  match mustP s [91] (i + 1) with
  | .error e=>.error e
  | .ok j=>match numF s j with
    | .error e=>.error e
    | .ok (n,j2)=>match mustP s [93] j2 with
      | .error e=>.error e
      | .ok j3=>.ok (.mk k n [] [],j3)
def pairP (pv : Nat → Except Nat (Vl × Nat)) (two : Bool) (s : List UInt8) (i : Nat) : Except Nat (List Vl × Nat) :=
  match pv i with
  | .error e=>.error e
  | .ok (v,j)=>if two = true then (match mustP s [58,32] j with
      | .error e=>.error e
      | .ok j2=>match pv j2 with
        | .error e=>.error e
        | .ok (w,j3)=>.ok ([v,w],j3)) else .ok ([v],j)
def sepP (l : List Vl) (s : List UInt8) (i : Nat) : Except Nat Nat:=if l.length = 0 then .ok i else mustP s [44,32] i
def listP (pv : Nat → Except Nat (Vl × Nat)) (en : UInt8) (two : Bool) (s : List UInt8) : Nat → List Vl → Nat → Except Nat (List Vl × Nat)
  | 0,_,i=>.error i
  | f + 1,l,i=>if hereB s i = en then .ok (l,i + 1) else
    match sepP l s i with
    | .error e=>.error e
    | .ok i1=>match pairP pv two s i1 with
      | .error e=>.error e
      | .ok (vs,i2)=>if hereB s i2 ≠ en ∧ hereB s i2 ≠ 44 then .error i2 else listP pv en two s f (l ++ vs) i2
def pval (s : List UInt8) : Nat → Nat → Except Nat (Vl × Nat)
  | 0,i=>.error i
  | d + 1,i =>
    if hereB s i = 45 ∨ digB (hereB s i) = true then (match numF s i with | .error e=>.error e | .ok (n,j)=>.ok (.mk 1 n [] [],j))
    else if hereB s i = 39 then (match strP s i with | .error e=>.error e | .ok (t,j)=>.ok (.mk 2 0 t [],j))
    else if hereB s i = 116 then (match mustP s [116,114,117,101] i with | .error e=>.error e | .ok j=>.ok (.mk 3 1 [] [],j))
    else if hereB s i = 102 then (match mustP s [102,97,108,115,101] i with | .error e=>.error e | .ok j=>.ok (.mk 3 0 [] [],j))
    else if hereB s i = 118 then elemP 6 s i
    else if hereB s i = 101 then elemP 7 s i
    else if hereB s i = 91 then (match listP (pval s d) 93 false s (s.length - i) [] (i + 1) with | .error e=>.error e | .ok (l,j)=>.ok (.mk 4 0 [] l,j))
    else if hereB s i = 123 then (match listP (pval s d) 125 true s (s.length - i) [] (i + 1) with | .error e=>.error e | .ok (l,j)=>.ok (.mk 5 0 [] l,j))
    else .error i
theorem parseB_i64 {t : List UInt8} {n : Int} (h : Lib.parseIntB 64 t = .ok n) : I64 n:=by
  unfold parseIntB at h
  split at h
  · cases h
  · dsimp only at h
    split at h
    · cases h
    · cases h
    · split at h
      · cases h
      · split at h
        · cases h
        · rename_i u _ h1 h2
          cases h
          have e63 : (2 : Nat) ^ (64 - 1) = 9223372036854775808:=by decide
          rw [e63] at h1 h2
          unfold I64
          split <;> rename_i h3 <;> (simp only [h3,not_true_eq_false,not_false_eq_true,true_and,false_and] at h1 h2; omega)
theorem numP_i64 {t : List UInt8} (h : (numP t).2 = 0) : I64 (numP t).1:=by
  unfold numP at h ⊢
  split
  · rename_i h1; rw [if_pos h1] at h; exact absurd h (by decide)
  · rename_i h1
    rw [if_neg h1] at h
    split
    · rename_i h2; rw [if_pos h2] at h; exact absurd h (by decide)
    · rename_i h2
      rw [if_neg h2] at h
      split
      · rename_i h3; rw [if_pos h3] at h; exact absurd h (by decide)
      · rename_i h3
        rw [if_neg h3] at h
        split
        · rename_i n hn; exact parseB_i64 hn
        · rename_i hne
          exfalso
          revert h
          split
          · rename_i n hn; exact absurd hn (hne n)
          · decide
theorem numL_ok {s : List UInt8} {fr : Nat} : ∀ {f i : Nat} {n m : Int} {j : Nat},numL s fr f i n = .ok (m,j) → I64 n → i ≤ s.length → I64 m ∧ i ≤ j ∧ j ≤ s.length
  | 0,i,n,m,j,h,hn,hi=>by cases h; exact ⟨hn,Nat.le_refl _,hi⟩
  | f + 1,i,n,m,j,h,hn,hi=>by
    rw [numL] at h
    split at h
    · rename_i hd
      have hil:=dig_lt hd
      split at h
      · cases h
      · split at h
        · cases h; exact ⟨hn,Nat.le_refl _,hi⟩
        · rename_i h0
          have:=numL_ok h (numP_i64 (Classical.not_not.1 h0)) (by omega)
          exact ⟨this.1,by omega,this.2.2⟩
    · cases h; exact ⟨hn,Nat.le_refl _,hi⟩
theorem dig_first : ∀ n : Fin 256,digB (UInt8.ofNat n.val) = true → (numP [UInt8.ofNat n.val]).2 = 0 ∧ (UInt8.ofNat n.val ≠ 48 → (numP [45,UInt8.ofNat n.val]).2 = 0):=by decide +kernel
theorem dig_first' {c : UInt8} (h : digB c = true) : (numP [c]).2 = 0 ∧ (c ≠ 48 → (numP [45,c]).2 = 0):=by
  have:=dig_first ⟨c.toNat,c.toNat_lt⟩
  simp only [UInt8.ofNat_toNat] at this
  exact this h
theorem numF_ok {s : List UInt8} {i j : Nat} {n : Int} (h : numF s i = .ok (n,j)) (hi : i ≤ s.length) : I64 n ∧ i < j ∧ j ≤ s.length:=by
  unfold numF at h
  split at h
  · cases h
  · rename_i hb
    have hd : digB (hereB s (numJ s i)) = true:=by
      cases hh : digB (hereB s (numJ s i)) with
      | true=>rfl
      | false=>exact absurd (.inl hh) hb
    have hil:=dig_lt hd
    have hij : i ≤ numJ s i:=by unfold numJ; split <;> omega
    rw [show s.length - numJ s i = (s.length - (numJ s i + 1)) + 1 by omega,numL,if_pos hd] at h
    have ht : (numP ((s.drop i).take (numJ s i + 1 - i))).2 = 0:=by
      by_cases h45 : hereB s i = 45
      · have hJ : numJ s i = i + 1:=by unfold numJ; rw [if_pos h45]
        rw [hJ] at hb hd hil ⊢
        have h2 : (s.drop i).take (i + 1 + 1 - i) = [45,hereB s (i + 1)]:=by
          rw [show i + 1 + 1 - i = 2 by omega,List.drop_eq_getElem_cons (by omega),List.drop_eq_getElem_cons hil]
          rw [here_get hil,← h45,here_get (by omega)]
          rfl
        rw [h2]
        exact (dig_first' hd).2 (fun e=>hb (.inr ⟨by omega,e⟩))
      · have hJ : numJ s i = i:=by unfold numJ; rw [if_neg h45]
        rw [hJ] at hd hil ⊢
        have h2 : (s.drop i).take (i + 1 - i) = [hereB s i]:=by
          rw [show i + 1 - i = 1 by omega,List.drop_eq_getElem_cons hil,here_get hil]
          rfl
        rw [h2]
        exact (dig_first' hd).1
    rw [if_neg (by rw [ht]; decide),if_neg (by rw [ht]; exact fun h=>h rfl)] at h
    have:=numL_ok h (numP_i64 ht) (by omega)
    exact ⟨this.1,by omega,this.2.2⟩
theorem strL_ok {s : List UInt8} : ∀ {f i : Nat} {acc t : List UInt8} {j : Nat},strL s f i acc = .ok (t,j) → i < j ∧ j ≤ s.length ∧ t.length + i ≤ acc.length + j
  | 0,i,acc,t,j,h=>by cases h
  | f + 1,i,acc,t,j,h=>by
    rw [strL] at h
    split at h
    · rename_i h39
      have:=here_lt (s:=s) (i:=i) (by rw [h39]; decide)
      cases h
      omega
    · split at h
      · cases h
      · split at h
        · split at h
          · cases h
          · rename_i d j2 he
            have h1:=escP_ok he
            have h2:=strL_ok h
            rw [List.length_append,List.length_singleton] at h2
            omega
        · have h2:=strL_ok h
          rw [List.length_append,List.length_singleton] at h2
          omega
theorem strP_ok {s : List UInt8} {i j : Nat} {t : List UInt8} (h : strP s i = .ok (t,j)) : i < j ∧ j ≤ s.length ∧ t.length ≤ s.length:=by
  unfold strP at h
  split at h
  · cases h
  · rename_i j1 hj
    have h1:=(mustP_ok hj).1
    have h2:=strL_ok h
    rw [List.length_nil] at h2
    omega
theorem elemP_ok {s : List UInt8} {i j : Nat} {k : Int} {v : Vl} (h : elemP k s i = .ok (v,j)) : ∃ n,v = .mk k n [] [] ∧ I64 n ∧ i < j ∧ j ≤ s.length:=by
  unfold elemP at h
  split at h
  · cases h
  · rename_i j1 h1
    split at h
    · cases h
    · rename_i n j2 h2
      split at h
      · cases h
      · rename_i j3 h3
        cases h
        have a1:=mustP_ok h1
        have a2:=numF_ok h2 (a1.2.1 (by simp))
        have a3:=mustP_ok h3
        have b1 : j1 = i + 1 + 1:=a1.1
        have b3 : j = j2 + 1:=a3.1
        exact ⟨n,rfl,a2.1,by omega,a3.2.1 (by simp)⟩
def Prog (s : List UInt8) (pv : Nat → Except Nat (Vl × Nat)) : Prop:=∀ i v j,pv i = .ok (v,j) → i < j ∧ j ≤ s.length
theorem pairP_ok {s : List UInt8} {pv : Nat → Except Nat (Vl × Nat)} (hp : Prog s pv) {two : Bool} {i j : Nat} {vs : List Vl} (h : pairP pv two s i = .ok (vs,j)) : i + vs.length ≤ j ∧ 0 < vs.length ∧ j ≤ s.length:=by
  unfold pairP at h
  split at h
  · cases h
  · rename_i v j1 h1
    have a1:=hp _ _ _ h1
    split at h
    · split at h
      · cases h
      · rename_i j2 h2
        have a2 : j2 = j1 + 2:=(mustP_ok h2).1
        split at h
        · cases h
        · rename_i w j3 h3
          have a3:=hp _ _ _ h3
          cases h
          simp only [List.length_cons,List.length_nil]
          omega
    · cases h
      simp only [List.length_cons,List.length_nil]
      omega
theorem sepP_ok {l : List Vl} {s : List UInt8} {i j : Nat} (h : sepP l s i = .ok j) : i ≤ j:=by
  unfold sepP at h
  split at h
  · cases h; exact Nat.le_refl _
  · have : j = i + 2:=(mustP_ok h).1
    omega
theorem listP_ok {s : List UInt8} {pv : Nat → Except Nat (Vl × Nat)} (hp : Prog s pv) {en : UInt8} (he : en ≠ 0) {two : Bool} : ∀ {f i : Nat} {l t : List Vl} {j : Nat},listP pv en two s f l i = .ok (t,j) → i < j ∧ j ≤ s.length ∧ t.length + i ≤ l.length + j
  | 0,i,l,t,j,h=>by cases h
  | f + 1,i,l,t,j,h=>by
    rw [listP] at h
    split at h
    · rename_i hh
      have:=here_lt (s:=s) (i:=i) (by rw [hh]; exact he)
      cases h
      omega
    · split at h
      · cases h
      · rename_i i1 h1
        have a1:=sepP_ok h1
        split at h
        · cases h
        · rename_i vs i2 h2
          have a2:=pairP_ok hp h2
          split at h
          · cases h
          · have:=listP_ok hp he h
            rw [List.length_append] at this
            omega
theorem pval_ok (s : List UInt8) : ∀ d,Prog s (pval s d)
  | 0=>fun i v j h=>by cases h
  | d + 1=>fun i v j h=>by
    have ih:=pval_ok s d
    rw [pval] at h
    split at h
    · rename_i hc
      have hi : i < s.length:=here_lt (fun e=>by rw [e] at hc; exact absurd hc (by decide))
      split at h
      · cases h
      · rename_i n j1 h1
        cases h
        exact (numF_ok h1 (by omega)).2
    · split at h
      · split at h
        · cases h
        · rename_i t j1 h1
          cases h
          exact ⟨(strP_ok h1).1,(strP_ok h1).2.1⟩
      · split at h
        · split at h
          · cases h
          · rename_i j1 h1
            cases h
            have a:=mustP_ok h1
            have a1 : j = i + 4:=a.1
            exact ⟨by omega,a.2.1 (by simp)⟩
        · split at h
          · split at h
            · cases h
            · rename_i j1 h1
              cases h
              have a:=mustP_ok h1
              have a1 : j = i + 5:=a.1
              exact ⟨by omega,a.2.1 (by simp)⟩
          · split at h
            · obtain ⟨n,_,_,h3⟩:=elemP_ok h
              exact h3
            · split at h
              · obtain ⟨n,_,_,h3⟩:=elemP_ok h
                exact h3
              · split at h
                · split at h
                  · cases h
                  · rename_i l j1 h1
                    have a:=listP_ok ih (by decide) h1
                    cases h
                    omega
                · split at h
                  · split at h
                    · cases h
                    · rename_i l j1 h1
                      have a:=listP_ok ih (by decide) h1
                      cases h
                      omega
                  · cases h
end Gx
namespace Gx
open Go Go.Proofs Go.Shelf Go.RowKit Go.Lib
set_option linter.unusedVariables false
set_option linter.unusedSimpArgs false
set_option maxRecDepth 100000
theorem scal_rep (S : Nat → Prop) (h : Heap) {k n : Int} {s : List UInt8} (hk : I64 k) (hn : I64 n) (hs : s.length ≤ 9223372036854775807) : VRepS S h (.mk k n s []) (vcells k n s Sl.nil) :=
  VRepS.eq.2 ⟨Sl.nil,rfl,hk,hn,hs,rfl,Nat.le_refl _,by decide,by rw [VsAtS]; trivial⟩
theorem list_rep {S : Nat → Prop} {h : Heap} {k n : Int} {l : List Vl} {x : Sl} (hk : I64 k) (hn : I64 n) (hl : VsRepS S h x l) : VRepS S h (.mk k n [] l) (vcells k n [] x) :=
  VRepS.eq.2 ⟨x,rfl,hk,hn,by decide,hl⟩
theorem ret4_w {α : Type} {h : Heap} {Q : α ⊕ Array Value → Heap → Prop} {g : Nat} {z cs : Array Value} {t : TypeId} (hg : h[g]? = some (.cells z t (0,0))) (hz : z.size = 4) (hc : cs.size = 4) (h1 : ∀ v ∈ cs.toList,one v = true)
    (H : ∀ h',Upd g h h' → Q (.inr cs) h') : (M.need (cs.size = 4) >>= fun _=>stG ⟨g,0,none⟩ cs >>= fun _=>ldG 4 ⟨g,0,none⟩ >>= fun r=>(M.pure (.inr r) : M (α ⊕ Array Value))).wp h Q:=by
  refine need_b hc (stR hg (by omega) h1 (fun h' u g'=>?_))
  have hl : lay z 0 cs.toList = cs:=by
    rw [lay_full (by rw [Array.length_toList]; omega)]
  rw [hl] at g'
  exact ldR g' hc (pure_w (H _ u))
theorem apVal_b {β : Type} {lo : Nat} {S : Nat → Prop} {h : Heap} {Q : β → Heap → Prop} {r : Sl} {css : List (Array Value)} {l : List Vl} {v : Vl} {c : Array Value} {f : Sl → M β} (G : VGw lo S h r css l) (hS : ∀ k,S k → k < h.size ∧ ¬ Sl.on r k) (hv : VRepS S h v c) (hlo : lo ≤ h.size) (hm : l.length ≤ 1099511627776)
    (H : ∀ h' r',VGw lo S h' r' (css ++ [c]) (l ++ [v]) → h.size ≤ h'.size → (∀ i,i < h.size → ¬ Sl.on r i → h'[i]? = h[i]?) → (∀ i,Sl.on r' i → Sl.on r i ∨ h.size ≤ i) → (f r').wp h' Q) :
    (fillL 4 1 (#[.int .i64 0,.int .i64 0,.string ByteArray.empty,.slice none 0 0] : Array Value) [(0,.agg c)] >>= fun y=>bdL ty_api_Value 1 y >>= fun x=>apL ty_api_Value 4 56 (#[.int .i64 0,.int .i64 0,.string ByteArray.empty,.slice none 0 0] : Array Value) r x >>= f).wp h Q:=by
  have hc:=hv.size
  refine fillL1_b hc (bdL_b ?_)
  have e1:=Ext.push h (.cells c ty_api_Value)
  have g1 : (h.push (.cells c ty_api_Value))[h.size]? = some (.cells c ty_api_Value (0,0)):=get_push_eq
  generalize h.push (.cells c ty_api_Value) = h1 at e1 g1 ⊢
  have hs1:=e1.size
  have G1 : VGw lo S h1 r css l:=G.same (fun k hk=>e1.same k (G.gw.lt hk).1) (fun k hk=>e1.same k (hS k hk).1)
  refine bind_w (vap_grow (l':=[v]) (css':=[c]) G1 (by omega) (fun k hk=>⟨by have:=(hS k hk).1; omega,(hS k hk).2⟩) (fun x hx=>by simp at hx; subst hx; exact ⟨hc,hv.to.one⟩) rfl rfl (.inr ⟨_,rfl,fun j u hj=>?_⟩) (fun j h1 h2=>?_) (by simp only [List.length_cons,List.length_nil]; omega) (fun h2 r2 G2 hs2 same2 on2=>?_))
  · rw [add_mk,Nat.zero_add,hcell_blk g1]
    have : flat4 [c] = c.toList:=by simp [flat4]
    rw [this,Array.getElem?_toList] at hj
    exact hj
  · have hj0 : j = 0:=by simp only [List.length_cons,List.length_nil] at h1; omega
    subst hj0
    exact hv.same (fun k hk=>e1.same k (hS k hk).1)
  · exact H _ _ G2 (by omega) (fun i hi ho=>(same2 i (by omega) ho).trans (e1.same i hi)) (fun i hi=>(on2 i hi).imp id (fun h=>by omega))
abbrev HS (h h' : Heap) : Nat → Prop:=fun k=>h.size ≤ k ∧ k < h'.size
theorem elem_spec {h : Heap} {Q : Value ⊕ Array Value → Heap → Prop} {b i : Nat} {s : List UInt8} {k : Int} (R : Rd h b s i) (hi : i < s.length) (he : ErrV h) (hb : b ≠ 5)
    (H1 : ∀ n j h',elemP k s i = .ok (.mk k n [] [],j) → Kb b h h' → Rd h' b s j → Q (.inr (vcells k n [] Sl.nil)) h') (H2 : ∀ e h',elemP k s i = .error e → Kb b h h' → Q (.inl (wrongV e)) h') : (value_reader_element (some ⟨b,0,none⟩) k).wp h Q:=by
  unfold value_reader_element
  refine mkV_b (fun h1 e1 hs1 g1=>?_)
  refine adv_b (R.ext e1) hi (fun h2 u2 R2=>?_)
  have hbl:=R.lt
  have K2 : Kb b h h2:=(Km.ext e1).trans (Km.upd u2 rfl)
  have g2:=(u2.ne h.size (by omega)).trans g1
  refine thr_w (must_spec (lit:=[91]) R2 (by decide) (fun j h3 hj K3 R3=>?_) (fun e h3 hj K3=>H2 e h3 (by unfold elemP; rw [hj]) (K2.trans K3)))
  have g3:=K3.blk g2 (show ¬ h.size = b by omega)
  have K3':=K2.trans K3
  refine thr_w (number_spec R3 (he.km K3' hb) hb (fun n j2 h4 hn K4 R4=>?_) (fun e h4 hn K4=>H2 e h4 (by unfold elemP; rw [hj]; dsimp only; rw [hn]) (K3'.trans K4)))
  have g4:=K4.blk g3 (show ¬ h.size = b by omega)
  have K4':=K3'.trans K4
  have hs4:=K4'.size
  refine mkV_b (fun h5 e5 hs5 g5=>?_)
  refine need_b rfl (stR g5 (Nat.le_refl 4) (by intro v hv; simp at hv; rcases hv with rfl | rfl | rfl | rfl <;> rfl) (fun h6 u6 g6=>?_))
  have hl6 : lay (#[.int .i64 0,.int .i64 0,.string ByteArray.empty,.slice none 0 0] : Array Value) 0 (#[.int .i64 k,.int .i64 n,.string ByteArray.empty,.slice none 0 0] : Array Value).toList = vcells k n [] Sl.nil:=by
    exact lay_full (cs:=vz) (vs:=(vcells k n [] Sl.nil).toList) rfl
  rw [hl6] at g6
  have hlt4 : h.size < h4.size:=blk_lt g4
  have K6 : Kb b h h6:=⟨by have:=u6.size; have:=e5.size; omega,fun q hq hqb=>(u6.ne q (by omega)).trans ((e5.same q (by omega)).trans (K4'.same q hq hqb))⟩
  have R6 : Rd h6 b s j2:=⟨(u6.ne b (by have:=R4.lt; omega)).trans (e5.blk R4.blk),R4.le,R4.small⟩
  have g6' : h6[h.size]? = some (.cells (#[.int .i64 0,.int .i64 0,.string ByteArray.empty,.slice none 0 0] : Array Value) ty_api_Value (0,0)):=(u6.ne h.size (by omega)).trans (e5.blk g4)
  refine thr_w (must_spec (lit:=[93]) R6 (by decide) (fun j3 h7 hj3 K7 R7=>?_) (fun e h7 hj3 K7=>H2 e h7 (by unfold elemP; rw [hj]; dsimp only; rw [hn]; dsimp only; rw [hj3]) (K6.trans K7)))
  have g7:=K7.blk g6 (show ¬ h4.size = b by have:=R4.lt; omega)
  have g7':=K7.blk g6' (show ¬ h.size = b by omega)
  refine ldR g7 rfl ?_
  refine ret4_w g7' rfl rfl (vcells_one _ _ _ _) (fun h8 u8=>H1 n j3 h8 ?_ ?_ ?_)
  · unfold elemP; rw [hj]; dsimp only; rw [hn]; dsimp only; rw [hj3]
  · have:=(K6.trans K7)
    exact ⟨by rw [u8.size]; exact this.size,fun q hq hqb=>(u8.ne q (by omega)).trans (this.same q hq hqb)⟩
  · exact ⟨(u8.ne b (by omega)).trans R7.blk,R7.le,R7.small⟩
theorem vmk_b {β : Type} {h : Heap} {Q : β → Heap → Prop} {cs : Array Value} {f : Array Value → M β} (hc : cs.size = 4) (h1 : ∀ v ∈ cs.toList,one v = true) (H : ∀ h',Ext h h' → (f cs).wp h' Q) :
    ((mkB ty_api_Value (#[.int .i64 0,.int .i64 0,.string ByteArray.empty,.slice none 0 0] : Array Value) >>= fun x=>M.need (cs.size = 4) >>= fun _=>stG x cs >>= fun _=>ldG 4 x >>= fun r=>(M.pure r : M (Array Value))) >>= f).wp h Q:=by
  refine assoc_b (mkV_b (fun h1 e1 hs1 g1=>assoc_b (need_b hc (assoc_b (stR g1 (by rw [hc]; exact Nat.le_refl 4) ‹_› (fun h2 u2 g2=>assoc_b ?_))))))
  rw [lay_full (cs:=vz) (vs:=cs.toList) (by rw [Array.length_toList,hc]; rfl)] at g2
  exact ldR g2 hc (pure_b (H _ (e1.upd u2 (Nat.le_refl _))))
theorem vint_b {β : Type} {h : Heap} {Q : β → Heap → Prop} {n : Int} {f : Array Value → M β} (H : ∀ h',Ext h h' → (f (vcells 1 n [] Sl.nil)).wp h' Q) : (value_Int n >>= f).wp h Q:=vmk_b (cs:=vcells 1 n [] Sl.nil) rfl (vcells_one _ _ _ _) H
theorem vstr_b {β : Type} {h : Heap} {Q : β → Heap → Prop} {s : List UInt8} {f : Array Value → M β} (H : ∀ h',Ext h h' → (f (vcells 2 0 s Sl.nil)).wp h' Q) : (value_Str (bs s) >>= f).wp h Q:=vmk_b (cs:=vcells 2 0 s Sl.nil) rfl (vcells_one _ _ _ _) H
theorem vbool_b {β : Type} {h : Heap} {Q : β → Heap → Prop} {c : Bool} {f : Array Value → M β} (H : ∀ h',Ext h h' → (f (vcells 3 (if c = true then 1 else 0) [] Sl.nil)).wp h' Q) : (value_Bool c >>= f).wp h Q:=by
  unfold value_Bool
  refine assoc_b (mkV_b (fun h1 e1 hs1 g1=>assoc_b (mkV_b (fun h2 e2 hs2 g2=>assoc_b (need_b rfl (assoc_b (stR (cs:=vz) (vs:=vcells 3 0 [] Sl.nil) g2 (Nat.le_refl 4) (vcells_one _ _ _ _) (fun h3 u3 g3=>?_))))))))
  rw [lay_full (cs:=vz) (vs:=(vcells 3 0 [] Sl.nil).toList) rfl] at g3
  have key : ∀ (n : Int) (h4 : Heap),Upd h1.size h2 h4 → h4[h1.size]? = some (.cells (vcells 3 n [] Sl.nil) ty_api_Value (0,0)) → (∀ h',Ext h h' → (f (vcells 3 n [] Sl.nil)).wp h' Q) → (value_Bool_j1 ⟨h.size,0,none⟩ ⟨h1.size,0,none⟩ >>= f).wp h4 Q:=by
    intro n h4 u4 g4 HH
    unfold value_Bool_j1
    have g1' : h4[h.size]? = some (.cells vz ty_api_Value (0,0)):=(u4.ne _ (by omega)).trans (e2.blk g1)
    refine assoc_b (ldR g4 rfl (assoc_b (need_b rfl (assoc_b (stR g1' (Nat.le_refl 4) (vcells_one _ _ _ _) (fun h5 u5 g5=>assoc_b ?_))))))
    rw [lay_full (cs:=vz) (vs:=(vcells 3 n [] Sl.nil).toList) rfl] at g5
    refine ldR g5 rfl (pure_b (HH _ ?_))
    have a4 : Ext h h4:=(e1.trans e2).upd u4 (by omega)
    exact a4.upd u5 (Nat.le_refl _)
  refine ite_b (fun hc=>?_) (fun hc=>?_)
  · subst hc
    refine assoc_b (stV_b (x:=.int .i64 0) (by rw [add_mk,hcell_blk g3]; rfl) (by rw [add_mk]; exact hfrozen_blk g3) rfl ?_)
    rw [add_mk,Nat.zero_add]
    exact key 1 _ (u3.trans (Upd.hset _ _ _ _)) (hset_at g3) H
  · subst hc
    exact key 0 _ u3 g3 H
def VSpec (s : List UInt8) (d : Nat) : Prop:=∀ (i : Nat) (h : Heap) (Q : Value ⊕ Array Value → Heap → Prop) (b : Nat),Rd h b s i → ErrV h → b ≠ 5 →
  (∀ v j h' c,pval s d i = .ok (v,j) → Kb b h h' → Rd h' b s j → VRepS (HS h h') h' v c → Q (.inr c) h') →
  (∀ e h',pval s d i = .error e → Kb b h h' → Q (.inl (wrongV e)) h') → (value_reader_value (some ⟨b,0,none⟩) ((9 - d : Nat) : Int)).wp h Q
theorem list_spec {s : List UInt8} {d : Nat} (hd : d ≤ 8) (IH : VSpec s d) {en : UInt8} (hen : en ≠ 0) {two : Bool} {i : Nat} {h : Heap} {Q : Value ⊕ Sl → Heap → Prop} {b : Nat} (R : Rd h b s i) (hi : i < s.length) (he : ErrV h) (hb : b ≠ 5)
    (H1 : ∀ l j h' r,listP (pval s d) en two s (s.length - i) [] (i + 1) = .ok (l,j) → Kb b h h' → Rd h' b s j → VsRepS (HS h h') h' r l → Q (.inr r) h')
    (H2 : ∀ e h',listP (pval s d) en two s (s.length - i) [] (i + 1) = .error e → Kb b h h' → Q (.inl (wrongV e)) h') :
    (value_reader_list (some ⟨b,0,none⟩) ((8 - d : Nat) : Int) (en.toNat : Int) (if two = true then 2 else 1)).wp h Q:=by
  unfold value_reader_list
  have hP:=pval_ok s d
  refine adv_b R hi (fun h1 u1 R1=>?_)
  have K1 : Kb b h h1:=Km.upd u1 rfl
  have hs1:=u1.size
  have hb1:=R1.lt
  refine M.loop_inv (fun (x : Sl) hh=>∃ (l : List Vl) (css : List (Array Value)) (f i' : Nat),s.length < f + i' ∧ l.length ≤ i' ∧ Kb b h1 hh ∧ Rd hh b s i' ∧ VGw h1.size (fun k=>h1.size ≤ k ∧ k < hh.size ∧ ¬ Sl.on x k) hh x css l ∧ listP (pval s d) en two s f l i' = listP (pval s d) en two s (s.length - i) [] (i + 1))
    (fun x _=>s.length + 1 - x.len) ?_ ⟨[],[],_,i + 1,by omega,Nat.zero_le _,Km.refl _ _,R1,VGw.nil _ _ _,rfl⟩
  rintro x hh ⟨l,css,f,i',hf,hli,K,R',G,hm⟩ self hself
  have hsm:=R'.small
  have hle:=R'.le
  have hxl : x.len = l.length:=by rw [G.gw.len4 G.w4,G.len]
  obtain ⟨f,rfl⟩ : ∃ g,f = g + 1:=⟨f - 1,by omega⟩
  rw [listP] at hm
  have hKs:=K.size
  unfold value_reader_list_l1
  refine bind_w (here_spec R' ?_)
  rw [show (((hereB s i').toNat : Int) != (en.toNat : Int)) = !decide (hereB s i' = en) by rw [← u8_c (d:=en) (n:=(en.toNat : Int)) rfl]; rfl]
  refine ite_w (fun hne=>?_) (fun heq=>?_)
  · have hne : hereB s i' ≠ en:=by simpa using hne
    rw [if_neg hne] at hm
    -- behind one value: the test
    have test : ∀ (l2 : List Vl) (css2 : List (Array Value)) (i2 : Nat) (h2 : Heap) (x2 : Sl),i' < i2 → l.length < l2.length → l2.length ≤ i2 → Kb b h1 h2 → Rd h2 b s i2 → VGw h1.size (fun k=>h1.size ≤ k ∧ k < h2.size ∧ ¬ Sl.on x2 k) h2 x2 css2 l2 →
        (if hereB s i2 ≠ en ∧ hereB s i2 ≠ 44 then .error i2 else listP (pval s d) en two s f l2 i2) = listP (pval s d) en two s (s.length - i) [] (i + 1) → (value_reader_list_j2 self (some ⟨b,0,none⟩) (en.toNat : Int) x2).wp h2 Q:=by
      intro l2 css2 i2 h2 x2 hi2 hl2 hli2 K2 R2 G2 hm2
      unfold value_reader_list_j2
      refine bind_w (here_spec R2 ?_)
      rw [show (((hereB s i2).toNat : Int) != (en.toNat : Int)) = !decide (hereB s i2 = en) by rw [← u8_c (d:=en) (n:=(en.toNat : Int)) rfl]; rfl]
      refine and_b (c:=!decide (hereB s i2 = 44)) (fun _ Q' hq=>pure_w ?_) ?_
      · rw [show (((hereB s i2).toNat : Int) != 44) = !decide (hereB s i2 = 44) by rw [← u8_c (d:=44) (n:=44) rfl]; rfl]
        exact hq
      · refine ite_w (fun hbad=>?_) (fun hok=>?_)
        · have hbad : hereB s i2 ≠ en ∧ hereB s i2 ≠ 44:=by simpa using hbad
          rw [if_pos hbad] at hm2
          exact fail_spec R2 (H2 _ _ hm2.symm (K1.trans K2))
        · have hok : ¬ (hereB s i2 ≠ en ∧ hereB s i2 ≠ 44):=by
            intro hh2
            rw [decide_eq_false hh2.1,decide_eq_false hh2.2] at hok
            cases hok
          rw [if_neg hok] at hm2
          have hx2 : x2.len = l2.length:=by rw [G2.gw.len4 G2.w4,G2.len]
          have:=R2.le
          exact hself _ _ ⟨l2,css2,f,i2,by omega,hli2,K2,R2,G2,hm2⟩ (by omega)
    -- one value read and put behind
    have one_ : ∀ {l2 : List Vl} {css2 : List (Array Value)} {i2 : Nat} {h2 : Heap} {x2 : Sl} {Qs : Value ⊕ Sl → Heap → Prop} {F : Sl → M (Value ⊕ Sl)},l2.length ≤ i2 → Kb b h1 h2 → Rd h2 b s i2 → VGw h1.size (fun k=>h1.size ≤ k ∧ k < h2.size ∧ ¬ Sl.on x2 k) h2 x2 css2 l2 →
        (∀ v j h3 x3 css3,pval s d i2 = .ok (v,j) → Kb b h1 h3 → Rd h3 b s j → VGw h1.size (fun k=>h1.size ≤ k ∧ k < h3.size ∧ ¬ Sl.on x3 k) h3 x3 css3 (l2 ++ [v]) → (F x3).wp h3 Qs) →
        (∀ e h3,pval s d i2 = .error e → Kb b h1 h3 → Qs (.inl (wrongV e)) h3) →
        (thr (callFX Go.Proofs.Tryz.prog fn_value_reader_value #[.pointer (some ⟨b,0,none⟩),.int .i64 (IntKind.wrap .i64 (((8 - d : Nat) : Int) + 1))] (fun r : Array Value=>.agg r)) fun x31_24 =>
          (fillL 4 1 (#[.int .i64 0,.int .i64 0,.string ByteArray.empty,.slice none 0 0] : Array Value) [(0,.agg x31_24)] >>= fun y=>bdL ty_api_Value 1 y >>= fun x=>apL ty_api_Value 4 56 (#[.int .i64 0,.int .i64 0,.string ByteArray.empty,.slice none 0 0] : Array Value) x2 x >>= F)).wp h2 Qs:=by
      intro l2 css2 i2 h2 x2 Qs F hli2 K2 R2 G2 HF HE
      have hle2:=R2.le
      rw [w64 (by omega) (by omega),show (((8 - d : Nat) : Int) + 1) = ((9 - d : Nat) : Int) by omega]
      have hK2:=K2.size
      refine thr_w (callFX_w (S_value_reader_value _ _) (IH i2 h2 _ b R2 ((he.km K1 hb).km K2 hb) hb (fun v j h3 c hv K3 R3 V3=>?_) (fun e h3 hv K3=>HE e h3 hv (K2.trans K3))))
      have hK3:=K3.size
      have G3 : VGw h1.size (fun k=>h1.size ≤ k ∧ k < h3.size ∧ ¬ Sl.on x2 k) h3 x2 css2 l2 :=
        (G2.same (fun k hk=>K3.same k (G2.gw.lt hk).1 (fun e=>by have:=(G2.gw.lt hk).2; omega)) (fun k hk=>K3.same k hk.2.1 (fun e=>by have:=hk.1; omega))).mono (fun k hk=>⟨hk.1,by have:=hk.2.1; omega,hk.2.2⟩)
      refine apVal_b G3 (fun k hk=>hk.2) (V3.mono (fun k hk=>⟨by have:=hk.1; omega,hk.2,fun ho=>by have:=(G2.gw.lt ho).1; have:=hk.1; omega⟩)) (by omega) (by omega) (fun h4 x4 G4 hs4 same4 on4=>?_)
      refine HF v j h4 x4 _ hv ⟨by omega,fun k hk hkb=>(same4 k (by omega) (fun ho=>by have:=(G2.gw.lt ho).2; omega)).trans ((K2.trans K3).same k hk hkb)⟩ ⟨?_,R3.le,R3.small⟩ (G4.mono (fun k hk=>⟨hk.1,by have:=hk.2.1; omega,fun ho=>(on4 k ho).elim hk.2.2 (fun h=>by have:=hk.2.1; omega)⟩))
      rw [same4 b (by omega) (fun ho=>by have:=(G2.gw.lt ho).2; omega)]
      exact R3.blk
    -- behind the comma
    have body : ∀ (i1 : Nat) (h2 : Heap),i' ≤ i1 → Kb b h1 h2 → Rd h2 b s i1 → VGw h1.size (fun k=>h1.size ≤ k ∧ k < h2.size ∧ ¬ Sl.on x k) h2 x css l →
        (match pairP (pval s d) two s i1 with
          | .error e=>.error e
          | .ok (vs,i2)=>if hereB s i2 ≠ en ∧ hereB s i2 ≠ 44 then .error i2 else listP (pval s d) en two s f (l ++ vs) i2) = listP (pval s d) en two s (s.length - i) [] (i + 1) →
        (value_reader_list_j1 self (some ⟨b,0,none⟩) ((8 - d : Nat) : Int) (en.toNat : Int) (if two = true then 2 else 1) x).wp h2 Q:=by
      intro i1 h2 hi1 K2 R2 G2 hm2
      unfold value_reader_list_j1
      refine one_ (by omega) K2 R2 G2 (fun v j h3 x3 css3 hv K3 R3 G3=>?_) (fun e h3 hv K3=>?_)
      · have hvj:=hP _ _ _ hv
        cases two with
        | false =>
          refine iteF rfl ?_
          have hpair : pairP (pval s d) false s i1 = .ok ([v],j):=by unfold pairP; rw [hv]; rfl
          rw [hpair] at hm2
          exact test _ _ j h3 x3 (by omega) (by simp) (by rw [List.length_append,List.length_singleton]; omega) K3 R3 G3 hm2
        | true =>
          refine iteT rfl ?_
          refine thr_w (must_spec (lit:=[58,32]) R3 (by decide) (fun j2 h4 hj2 K4 R4=>?_) (fun e h4 hj2 K4=>?_))
          · have hj2' : j2 = j + 2:=(mustP_ok hj2).1
            have hK3:=K3.size
            have hK4:=K4.size
            have G4 : VGw h1.size (fun k=>h1.size ≤ k ∧ k < h4.size ∧ ¬ Sl.on x3 k) h4 x3 css3 (l ++ [v]) :=
              (G3.same (fun k hk=>K4.same k (G3.gw.lt hk).1 (fun e=>by have:=(G3.gw.lt hk).2; omega)) (fun k hk=>K4.same k hk.2.1 (fun e=>by have:=hk.1; omega))).mono (fun k hk=>⟨hk.1,by have:=hk.2.1; omega,hk.2.2⟩)
            refine one_ (by rw [List.length_append,List.length_singleton]; omega) (K3.trans K4) R4 G4 (fun w j3 h5 x5 css5 hw K5 R5 G5=>?_) (fun e h5 hw K5=>?_)
            · have hwj:=hP _ _ _ hw
              have hpair : pairP (pval s d) true s i1 = .ok ([v,w],j3):=by unfold pairP; rw [hv]; dsimp only; rw [if_pos rfl,hj2]; dsimp only; rw [hw]
              rw [hpair] at hm2
              rw [List.append_assoc] at G5
              exact test _ _ j3 h5 x5 (by omega) (by simp) (by simp only [List.length_append,List.length_cons,List.length_nil]; omega) K5 R5 G5 hm2
            · have hpair : pairP (pval s d) true s i1 = .error e:=by unfold pairP; rw [hv]; dsimp only; rw [if_pos rfl,hj2]; dsimp only; rw [hw]
              rw [hpair] at hm2
              exact H2 _ _ hm2.symm (K1.trans K5)
          · have hpair : pairP (pval s d) true s i1 = .error e:=by unfold pairP; rw [hv]; dsimp only; rw [if_pos rfl,hj2]
            rw [hpair] at hm2
            exact H2 _ _ hm2.symm (K1.trans (K3.trans K4))
      · have hpair : pairP (pval s d) two s i1 = .error e:=by unfold pairP; rw [hv]
        rw [hpair] at hm2
        exact H2 _ _ hm2.symm (K1.trans K3)
    refine ite_w (fun hpos=>?_) (fun hz=>?_)
    · have hl0 : ¬ l.length = 0:=by have:=of_decide_eq_true hpos; omega
      unfold sepP at hm
      rw [if_neg hl0] at hm
      refine thr_w (must_spec (lit:=[44,32]) R' (by decide) (fun j h2 hj K2 R2=>?_) (fun e h2 hj K2=>?_))
      · rw [hj] at hm
        have hj' : j = i' + 2:=(mustP_ok hj).1
        have hK2:=K2.size
        exact body j h2 (by omega) (K.trans K2) R2 ((G.same (fun k hk=>K2.same k (G.gw.lt hk).1 (fun e=>by have:=(G.gw.lt hk).2; omega)) (fun k hk=>K2.same k hk.2.1 (fun e=>by have:=hk.1; omega))).mono (fun k hk=>⟨hk.1,by have:=hk.2.1; omega,hk.2.2⟩)) hm
      · rw [hj] at hm
        exact H2 _ _ hm.symm (K1.trans (K.trans K2))
    · have hl0 : l.length = 0:=by have:=of_decide_eq_false hz; omega
      unfold sepP at hm
      rw [if_pos hl0] at hm
      exact body i' hh (Nat.le_refl _) K R' G hm
  · have heq : hereB s i' = en:=by simpa using heq
    rw [if_pos heq] at hm
    have hil : i' < s.length:=here_lt (by rw [heq]; exact hen)
    refine adv_b R' hil (fun h2 u2 R2=>pure_w ?_)
    have hu2:=u2.size
    have G2:=G.same (fun k hk=>u2.ne k (fun e=>by have:=(G.gw.lt hk).2; omega)) (fun k hk=>u2.ne k (fun e=>by have:=hk.1; omega))
    refine H1 l (i' + 1) h2 x hm.symm (K1.trans (K.trans (Km.upd u2 rfl))) R2 ?_
    refine (G2.rep_ (by omega)).same (fun _ _=>rfl) (fun k hk=>?_)
    rcases hk with hk | hk
    · exact ⟨by have:=hk.1; omega,by have:=hk.2.1; omega⟩
    · have:=G2.gw.lt hk
      exact ⟨by omega,by omega⟩
end Gx
namespace Gx
open Go Go.Proofs Go.Shelf Go.RowKit Go.Lib
set_option linter.unusedVariables false
set_option linter.unusedSimpArgs false
set_option maxRecDepth 100000
theorem Rd.upd {h h' : Heap} {b g : Nat} {s : List UInt8} {i : Nat} (R : Rd h b s i) (u : Upd g h h') (hg : b ≠ g) : Rd h' b s i:=⟨(u.ne b hg).trans R.blk,R.le,R.small⟩
theorem vread_spec (s : List UInt8) : ∀ d,d ≤ 8 → VSpec s d
  | 0,_=>fun i h Q b R he hb H1 H2=>by
    unfold value_reader_value
    refine mkV_b (fun h1 e1 hs1 g1=>iteT (by rfl) (thr_w (fail_spec (R.ext e1) (H2 i h1 rfl (Km.ext e1)))))
  | d + 1,hd=>fun i h Q b R he hb H1 H2=>by
    have IH:=vread_spec s d (by omega)
    unfold value_reader_value
    refine mkV_b (fun h1 e1 hs1 g1=>iteF (decide_eq_false (by omega)) ?_)
    have R1:=R.ext e1
    have hbl:=R.lt
    have he1:=he.ext e1
    have K1 : Kb b h h1:=Km.ext e1
    -- what is stored and told
    have fin : ∀ (v : Vl) (cs : Array Value) (j : Nat) (h2 : Heap),pval s (d + 1) i = .ok (v,j) → Kb b h1 h2 → Rd h2 b s j → VRepS (fun k=>h1.size ≤ k ∧ k < h2.size) h2 v cs →
        (M.need (cs.size = 4) >>= fun _=>stG ⟨h.size,0,none⟩ cs >>= fun _=>ldG 4 ⟨h.size,0,none⟩ >>= fun r=>(M.pure (.inr r) : M (Value ⊕ Array Value))).wp h2 Q:=by
      intro v cs j h2 hv K2 R2 V2
      have g2:=K2.blk g1 (show ¬ h.size = b by omega)
      refine ret4_w g2 rfl V2.size V2.to.one (fun h3 u3=>H1 v j h3 cs hv ?_ (R2.upd u3 (by omega)) ?_)
      · have:=K1.trans K2
        exact ⟨by rw [u3.size]; exact this.size,fun q hq hqb=>(u3.ne q (by omega)).trans (this.same q hq hqb)⟩
      · have hu:=u3.size
        exact (V2.same (fun k hk=>u3.ne k (by omega))).mono (fun k hk=>⟨by omega,by omega⟩)
    have scal : ∀ {k n : Int} {t : List UInt8} {S : Nat → Prop} {h2 : Heap},I64 k → I64 n → t.length ≤ 1099511627776 → VRepS S h2 (.mk k n t []) (vcells k n t Sl.nil):=fun hk hn ht=>scal_rep _ _ hk hn (by omega)
    have hle:=R.le
    have hsm:=R.small
    rw [pval] at H1 H2 fin
    unfold value_reader_value_j1
    refine bind_w (here_spec R1 ?_)
    refine or_b (c:=digB (hereB s i)) (fun _ Q' hq=>bind_w (digit_spec (pure_w hq))) ?_
    rw [u8_c (d:=45) (n:=45) rfl]
    refine ite_w (fun hc=>?_) (fun hc=>?_)
    · have hc : hereB s i = 45 ∨ digB (hereB s i) = true:=by rwa [Bool.or_eq_true,decide_eq_true_iff] at hc
      rw [if_pos hc] at H1 H2 fin
      refine thr_w (number_spec R1 he1 hb (fun n j h2 hn K2 R2=>?_) (fun e h2 hn K2=>H2 e h2 (by rw [hn]) (K1.trans K2)))
      refine vint_b (fun h3 e3=>fin (.mk 1 n [] []) _ j h3 (by rw [hn]) (K2.trans (Km.ext e3)) (R2.ext e3) (scal ⟨by decide,by decide⟩ (numF_ok hn hle).1 (by decide)))
    have hc : ¬ (hereB s i = 45 ∨ digB (hereB s i) = true):=fun hh=>by
      rw [← decide_eq_true_iff (p:=hereB s i = 45),← Bool.or_eq_true,hc] at hh
      cases hh
    rw [if_neg hc] at H1 H2 fin
    rw [u8_c (d:=39) (n:=39) rfl]
    refine ite_w (fun hc=>?_) (fun hc=>?_)
    · rw [if_pos (of_decide_eq_true hc)] at H1 H2 fin
      refine thr_w (str_spec R1 (fun t j h2 ht K2 R2=>?_) (fun e h2 ht K2=>H2 e h2 (by rw [ht]) (K1.trans K2)))
      refine vstr_b (fun h3 e3=>fin (.mk 2 0 t []) _ j h3 (by rw [ht]) (K2.trans (Km.ext e3)) (R2.ext e3) (scal ⟨by decide,by decide⟩ ⟨by decide,by decide⟩ (by have:=(strP_ok ht).2.2; omega)))
    rw [if_neg (of_decide_eq_false hc)] at H1 H2 fin
    rw [u8_c (d:=116) (n:=116) rfl]
    refine ite_w (fun hc=>?_) (fun hc=>?_)
    · rw [if_pos (of_decide_eq_true hc)] at H1 H2 fin
      refine thr_w (must_spec (lit:=[116,114,117,101]) R1 (by decide) (fun j h2 hj K2 R2=>?_) (fun e h2 hj K2=>H2 e h2 (by rw [hj]) (K1.trans K2)))
      refine vbool_b (fun h3 e3=>fin (.mk 3 1 [] []) _ j h3 (by rw [hj]) (K2.trans (Km.ext e3)) (R2.ext e3) (scal ⟨by decide,by decide⟩ ⟨by decide,by decide⟩ (by decide)))
    rw [if_neg (of_decide_eq_false hc)] at H1 H2 fin
    rw [u8_c (d:=102) (n:=102) rfl]
    refine ite_w (fun hc=>?_) (fun hc=>?_)
    · rw [if_pos (of_decide_eq_true hc)] at H1 H2 fin
      refine thr_w (must_spec (lit:=[102,97,108,115,101]) R1 (by decide) (fun j h2 hj K2 R2=>?_) (fun e h2 hj K2=>H2 e h2 (by rw [hj]) (K1.trans K2)))
      refine vbool_b (fun h3 e3=>fin (.mk 3 0 [] []) _ j h3 (by rw [hj]) (K2.trans (Km.ext e3)) (R2.ext e3) (scal ⟨by decide,by decide⟩ ⟨by decide,by decide⟩ (by decide)))
    rw [if_neg (of_decide_eq_false hc)] at H1 H2 fin
    rw [u8_c (d:=118) (n:=118) rfl]
    refine ite_w (fun hc=>?_) (fun hc=>?_)
    · have hcc:=of_decide_eq_true hc
      rw [if_pos hcc] at H1 H2 fin
      refine thr_w (elem_spec (k:=6) R1 (here_lt (by rw [hcc]; decide)) he1 hb (fun n j h2 hn K2 R2=>fin _ _ j h2 hn K2 R2 ?_) (fun e h2 hn K2=>H2 e h2 hn (K1.trans K2)))
      obtain ⟨n',hv,hn',_⟩:=elemP_ok hn
      cases hv
      exact scal ⟨by decide,by decide⟩ hn' (by decide)
    rw [if_neg (of_decide_eq_false hc)] at H1 H2 fin
    rw [u8_c (d:=101) (n:=101) rfl]
    refine ite_w (fun hc=>?_) (fun hc=>?_)
    · have hcc:=of_decide_eq_true hc
      rw [if_pos hcc] at H1 H2 fin
      refine thr_w (elem_spec (k:=7) R1 (here_lt (by rw [hcc]; decide)) he1 hb (fun n j h2 hn K2 R2=>fin _ _ j h2 hn K2 R2 ?_) (fun e h2 hn K2=>H2 e h2 hn (K1.trans K2)))
      obtain ⟨n',hv,hn',_⟩:=elemP_ok hn
      cases hv
      exact scal ⟨by decide,by decide⟩ hn' (by decide)
    rw [if_neg (of_decide_eq_false hc)] at H1 H2 fin
    rw [u8_c (d:=91) (n:=91) rfl,show ((9 - (d + 1) : Nat) : Int) = ((8 - d : Nat) : Int) by omega]
    refine ite_w (fun hc=>?_) (fun hc=>?_)
    · have hcc:=of_decide_eq_true hc
      rw [if_pos hcc] at H1 H2 fin
      refine thr_w (callFX_w (S_value_reader_list _ _ _ _) (list_spec (two:=false) (en:=93) (by omega) IH (by decide) R1 (here_lt (by rw [hcc]; decide)) he1 hb (fun l j h2 r hl K2 R2 V2=>?_) (fun e h2 hl K2=>H2 e h2 (by rw [hl]) (K1.trans K2))))
      exact fin (.mk 4 0 [] l) _ j h2 (by rw [hl]) K2 R2 (list_rep ⟨by decide,by decide⟩ ⟨by decide,by decide⟩ V2)
    rw [if_neg (of_decide_eq_false hc)] at H1 H2 fin
    rw [u8_c (d:=123) (n:=123) rfl]
    refine ite_w (fun hc=>?_) (fun hc=>?_)
    · have hcc:=of_decide_eq_true hc
      rw [if_pos hcc] at H1 H2 fin
      refine thr_w (callFX_w (S_value_reader_list _ _ _ _) (list_spec (two:=true) (en:=125) (by omega) IH (by decide) R1 (here_lt (by rw [hcc]; decide)) he1 hb (fun l j h2 r hl K2 R2 V2=>?_) (fun e h2 hl K2=>H2 e h2 (by rw [hl]) (K1.trans K2))))
      exact fin (.mk 5 0 [] l) _ j h2 (by rw [hl]) K2 R2 (list_rep ⟨by decide,by decide⟩ ⟨by decide,by decide⟩ V2)
    rw [if_neg (of_decide_eq_false hc)] at H1 H2 fin
    exact thr_w (fail_spec R1 (H2 i h1 rfl K1))
def readP (s : List UInt8) : Except Nat Vl:=match pval s 8 0 with | .error e=>.error e | .ok (v,j)=>if j < s.length then .error j else .ok v
theorem catch_spec {h : Heap} {Q : Array Value × Int × Bool → Heap → Prop} {b2 b3 b4 e : Nat} {z2 : Array Value} {v3 v4 : Value} (g2 : h[b2]? = some (.cells z2 ty_api_Value (0,0))) (hz : z2.size = 4) (g3 : h[b3]? = some (.cells #[v3] ty_int (0,0))) (g4 : h[b4]? = some (.cells #[v4] ty_bool (0,0))) (h23 : b2 ≠ b3) (h24 : b2 ≠ b4) (h34 : b3 ≠ b4)
    (H : ∀ h',h.size ≤ h'.size → (∀ i,i < h.size → i ≠ b2 → i ≠ b3 → i ≠ b4 → h'[i]? = h[i]?) → Q (vz,(e : Int),false) h') : (readCatch ⟨b2,0,none⟩ ⟨b3,0,none⟩ ⟨b4,0,none⟩ (wrongV e) >>= fun _=>readRes ⟨b2,0,none⟩ ⟨b3,0,none⟩ ⟨b4,0,none⟩).wp h Q:=by
  have l2:=blk_lt g2
  have l3:=blk_lt g3
  have l4:=blk_lt g4
  unfold readCatch
  refine ⟨(e : Int),rfl,?_⟩
  refine bind_w (mkV_b (fun h1 e1 hs1 g1=>need_b rfl (stR g1 (Nat.le_refl 1) (by intro v hv; simp at hv; subst hv; rfl) (fun h2' u2 g2'=>?_))))
  rw [lay_full (cs:=#[.int .i64 0]) (vs:=(#[.int .i64 (e : Int)] : Array Value).toList) rfl] at g2'
  unfold readRest
  refine ldI_b (n:=(e : Int)) (by rw [add_mk,hcell_blk g2']; rfl) (need_b rfl ?_)
  have k2 : h2'[b2]? = some (.cells z2 ty_api_Value (0,0)):=(u2.ne b2 (by omega)).trans (e1.blk g2)
  refine stR k2 (by rw [hz]; exact Nat.le_refl 4) (vcells_one 0 0 [] Sl.nil) (fun h3 u3 g3'=>?_)
  rw [lay_full (cs:=z2) (vs:=(vz : Array Value).toList) (by rw [hz]; rfl)] at g3'
  have kq : h3[h.size]? = some (.cells #[.int .i64 (e : Int)] ty_value_wrong (0,0)):=(u3.ne h.size (by omega)).trans g2'
  refine chk_b (by rw [add_mk,hcell_blk kq]; rfl) ?_
  have k3 : h3[b3]? = some (.cells #[v3] ty_int (0,0)):=(u3.ne b3 (by omega)).trans ((u2.ne b3 (by omega)).trans (e1.blk g3))
  refine stV_b (x:=v3) (by rw [hcell_blk k3]; rfl) (hfrozen_blk k3) rfl ?_
  have g5:=hset_at (o:=0) (v:=.int .i64 (e : Int)) k3
  have u5:=Upd.hset h3 b3 0 (.int .i64 (e : Int))
  generalize hset h3 ⟨b3,0,none⟩ (.int .i64 (e : Int)) = h5 at g5 u5 ⊢
  have k4 : h5[b4]? = some (.cells #[v4] ty_bool (0,0)):=(u5.ne b4 (by omega)).trans ((u3.ne b4 (by omega)).trans ((u2.ne b4 (by omega)).trans (e1.blk g4)))
  refine stV_b (x:=v4) (by rw [hcell_blk k4]; rfl) (hfrozen_blk k4) rfl ?_
  have g6:=hset_at (o:=0) (v:=.bool false) k4
  have u6:=Upd.hset h5 b4 0 (.bool false)
  generalize hset h5 ⟨b4,0,none⟩ (.bool false) = h6 at g6 u6 ⊢
  refine pure_w ?_
  unfold readRes
  have m2 : h6[b2]? = some (.cells vz ty_api_Value (0,0)):=(u6.ne b2 (by omega)).trans ((u5.ne b2 (by omega)).trans g3')
  have m3 : h6[b3]? = some (.cells (#[v3].setIfInBounds 0 (.int .i64 (e : Int))) ty_int (0,0)):=(u6.ne b3 (by omega)).trans g5
  refine ldR m2 rfl (ldI_b (n:=(e : Int)) (by rw [hcell_blk m3]; rfl) (ldB_b (n:=false) (by rw [hcell_blk g6]; rfl) (pure_w (H _ ?_ ?_))))
  · have a1:=u6.size; have a2:=u5.size; have a3:=u3.size; have a4:=u2.size; omega
  · intro i hi n2 n3 n4
    rw [u6.ne i n4,u5.ne i n3,u3.ne i n2,u2.ne i (by omega)]
    exact e1.same i hi
theorem read_spec {s : List UInt8} {h : Heap} {Q : Array Value × Int × Bool → Heap → Prop} (hs : s.length ≤ 1099511627776) (he : ErrV h)
    (H1 : ∀ v h' c,readP s = .ok v → Ext h h' → VRepS (h.size ≤ ·) h' v c → Q (c,0,true) h') (H2 : ∀ e h',readP s = .error e → Ext h h' → Q (vz,(e : Int),false) h') : (readM (bs s)).wp h Q:=by
  unfold readM
  refine mkV_b (fun h1 e1 s1 g1=>mkV_b (fun h2 e2 s2 g2=>mkV_b (fun h3 e3 s3 g3=>mkV_b (fun h4 e4 s4 g4=>?_))))
  obtain ⟨t5,p5,hc5⟩:=id he
  have h5 : 5 < h.size:=hcell_lt hc5
  have R4 : Rd h4 h3.size s 0:=⟨g4,Nat.zero_le _,hs⟩
  have E4 : Ext h h4:=((e1.trans e2).trans e3).trans e4
  have b1 : h4[h.size]? = some (.cells vz ty_api_Value (0,0)):=((e2.trans e3).trans e4).blk g1
  have b2 : h4[h1.size]? = some (.cells #[.int .i64 0] ty_int (0,0)):=(e3.trans e4).blk g2
  have b3 : h4[h2.size]? = some (.cells #[.bool false] ty_bool (0,0)):=e4.blk g3
  refine bind_w (vread_spec s 8 (Nat.le_refl _) 0 h4 _ h3.size R4 (he.ext E4) (by omega) (fun v j h6 c hv K6 R6 V6=>?_) (fun e h6 hv K6=>?_))
  · have c1:=K6.blk b1 (show ¬ h.size = h3.size by omega)
    have c2:=K6.blk b2 (show ¬ h1.size = h3.size by omega)
    have c3:=K6.blk b3 (show ¬ h2.size = h3.size by omega)
    have hs6:=K6.size
    refine need_b V6.size (stR c1 (by rw [V6.size]; exact Nat.le_refl 4) V6.to.one (fun h7 u7 g7=>?_))
    rw [lay_full (cs:=vz) (vs:=c.toList) (by rw [Array.length_toList,V6.size]; rfl)] at g7
    have hs7:=u7.size
    have R7:=R6.upd u7 (show h3.size ≠ h.size by omega)
    refine rdI_b R7 ?_
    rw [bs_size]
    refine ite_w (fun hlt=>?_) (fun hge=>?_)
    · have hlt : j < s.length:=by have:=of_decide_eq_true hlt; omega
      refine bind_w (fail_spec R7 ?_)
      refine catch_spec g7 V6.size ((u7.ne _ (by omega)).trans c2) ((u7.ne _ (by omega)).trans c3) (by omega) (by omega) (by omega) (fun h8 s8 same8=>H2 j h8 ?_ ⟨by omega,fun i hi=>?_⟩)
      · unfold readP; rw [hv]; dsimp only; rw [if_pos hlt]
      · rw [same8 i (by omega) (by omega) (by omega) (by omega),u7.ne i (by omega),K6.same i (by omega) (by omega)]
        exact E4.same i hi
    · have hge : ¬ j < s.length:=by have:=of_decide_eq_false hge; omega
      unfold readTail
      refine ldR g7 V6.size (need_b V6.size (stR g7 (by rw [V6.size]; exact Nat.le_refl 4) V6.to.one (fun h8 u8 g8=>?_)))
      rw [lay_full (cs:=c) (vs:=c.toList) (by rw [Array.length_toList])] at g8
      have d2 : h8[h1.size]? = some (.cells #[.int .i64 0] ty_int (0,0)):=(u8.ne _ (by omega)).trans ((u7.ne _ (by omega)).trans c2)
      refine stV_b (x:=.int .i64 0) (by rw [hcell_blk d2]; rfl) (hfrozen_blk d2) rfl ?_
      have g9:=hset_at (o:=0) (v:=.int .i64 0) d2
      have u9:=Upd.hset h8 h1.size 0 (.int .i64 0)
      generalize hset h8 ⟨h1.size,0,none⟩ (.int .i64 0) = h9 at g9 u9 ⊢
      have d3 : h9[h2.size]? = some (.cells #[.bool false] ty_bool (0,0)):=(u9.ne _ (by omega)).trans ((u8.ne _ (by omega)).trans ((u7.ne _ (by omega)).trans c3))
      refine stV_b (x:=.bool false) (by rw [hcell_blk d3]; rfl) (hfrozen_blk d3) rfl ?_
      have g10:=hset_at (o:=0) (v:=.bool true) d3
      have u10:=Upd.hset h9 h2.size 0 (.bool true)
      generalize hset h9 ⟨h2.size,0,none⟩ (.bool true) = h10 at g10 u10 ⊢
      unfold readRes
      have m1 : h10[h.size]? = some (.cells c ty_api_Value (0,0)):=(u10.ne _ (by omega)).trans ((u9.ne _ (by omega)).trans g8)
      have m2:=(u10.ne h1.size (by omega)).trans g9
      refine ldR m1 V6.size (ldI_b (n:=0) (by rw [hcell_blk m2]; rfl) (ldB_b (n:=true) (by rw [hcell_blk g10]; rfl) (pure_w (H1 v _ c ?_ ⟨?_,fun i hi=>?_⟩ ?_))))
      · unfold readP; rw [hv]; dsimp only; rw [if_neg hge]
      · have a1:=u10.size; have a2:=u9.size; have a3:=u8.size; omega
      · rw [u10.ne i (by omega),u9.ne i (by omega),u8.ne i (by omega),u7.ne i (by omega),K6.same i (by omega) (by omega)]
        exact E4.same i hi
      · refine (V6.same (fun k hk=>?_)).mono (fun k hk=>by have:=hk.1; omega)
        have:=hk.1
        rw [u10.ne k (by omega),u9.ne k (by omega),u8.ne k (by omega),u7.ne k (by omega)]
  · have c1:=K6.blk b1 (show ¬ h.size = h3.size by omega)
    have c2:=K6.blk b2 (show ¬ h1.size = h3.size by omega)
    have c3:=K6.blk b3 (show ¬ h2.size = h3.size by omega)
    have hs6:=K6.size
    refine catch_spec c1 rfl c2 c3 (by omega) (by omega) (by omega) (fun h8 s8 same8=>H2 e h8 ?_ ⟨by omega,fun i hi=>?_⟩)
    · unfold readP; rw [hv]
    · rw [same8 i (by omega) (by omega) (by omega) (by omega),K6.same i (by omega) (by omega)]
      exact E4.same i hi
def parseP (s : List UInt8) : Vl × Nat × Int:=match readP s with | .error e=>(vl0,e,22) | .ok v=>if mayV 8 v = true then (v,0,0) else (vl0,0,20)
theorem vparse_spec {s : List UInt8} {h : Heap} {Q : Array Value × Int × Int → Heap → Prop} (hs : s.length ≤ 1099511627776) (he : ErrV h)
    (H : ∀ h' c,Ext h h' → VRepS (h.size ≤ ·) h' (parseP s).1 c → Q (c,((parseP s).2.1 : Int),(parseP s).2.2) h') : (value_Parse (bs s)).wp h Q:=by
  unfold value_Parse
  refine mkV_b (fun h1 e1 s1 g1=>?_)
  refine bind_w (callF_w (S_read _) (read_spec hs (he.ext e1) (fun v h2 c hv e2 V2=>?_) (fun e h2 hv e2=>?_)))
  · refine mkV_b (fun h3 e3 s3 g3=>need_b V2.size (stR g3 (by rw [V2.size]; exact Nat.le_refl 4) V2.to.one (fun h4 u4 g4=>?_)))
    rw [lay_full (cs:=vz) (vs:=c.toList) (by rw [Array.length_toList,V2.size]; rfl)] at g4
    have E4 : Ext h h4:=((e1.trans e2).trans e3).upd u4 (by have:=e1.size; have:=e2.size; omega)
    have V4 : VRepS (fun k=>h1.size ≤ k ∧ k < h2.size) h4 v c:=((V2.lt2).same (fun k hk=>(u4.ne k (by omega)).trans (e3.same k hk.2)))
    refine iteF rfl (ldR g4 V2.size (bind_w (vcheck_spec V4.to (fun h5 e5=>?_))))
    have g5 : h5[h.size]? = some (.cells vz ty_api_Value (0,0)):=e5.blk ((u4.ne _ (by have:=e2.size; omega)).trans ((e2.trans e3).blk g1))
    have gc5:=e5.blk g4
    unfold checkV
    by_cases hm : mayV 8 v = true
    · rw [if_pos hm]
      have hP : parseP s = (v,0,0):=by unfold parseP; rw [hv]; dsimp only; rw [if_pos hm]
      rw [hP] at H
      refine iteF rfl (ldR gc5 V2.size (need_b V2.size (stR g5 (by rw [V2.size]; exact Nat.le_refl 4) V2.to.one (fun h6 u6 g6=>?_))))
      rw [lay_full (cs:=vz) (vs:=c.toList) (by rw [Array.length_toList,V2.size]; rfl)] at g6
      refine ldR g6 V2.size (pure_w (H h6 c ((E4.trans e5).upd u6 (Nat.le_refl _)) ?_))
      have hs2:=e2.size
      have hs3:=e3.size
      have hu4:=u4.size
      exact (V4.same (fun k hk=>(u6.ne k (by omega)).trans (e5.same k (by omega)))).mono (fun k hk=>by have:=hk.1; omega)
    · rw [if_neg hm]
      have hP : parseP s = (vl0,0,20):=by unfold parseP; rw [hv]; dsimp only; rw [if_neg hm]
      rw [hP] at H
      refine iteT rfl (need_b rfl (stR g5 (Nat.le_refl 4) (vcells_one 0 0 [] Sl.nil) (fun h6 u6 g6=>?_)))
      rw [lay_full (cs:=vz) (vs:=(vz : Array Value).toList) rfl] at g6
      exact ldR g6 rfl (pure_w (H h6 _ ((E4.trans e5).upd u6 (Nat.le_refl _)) (vl0_rep _ _)))
  · have hP : parseP s = (vl0,e,22):=by unfold parseP; rw [hv]
    rw [hP] at H
    refine mkV_b (fun h3 e3 s3 g3=>need_b rfl (stR g3 (Nat.le_refl 4) (vcells_one 0 0 [] Sl.nil) (fun h4 u4 g4=>?_)))
    have E4 : Ext h h4:=((e1.trans e2).trans e3).upd u4 (by have:=e1.size; have:=e2.size; omega)
    have g5 : h4[h.size]? = some (.cells vz ty_api_Value (0,0)):=(u4.ne _ (by have:=e2.size; omega)).trans ((e2.trans e3).blk g1)
    refine iteT rfl (need_b rfl (stR g5 (Nat.le_refl 4) (vcells_one 0 0 [] Sl.nil) (fun h6 u6 g6=>?_)))
    rw [lay_full (cs:=vz) (vs:=(vz : Array Value).toList) rfl] at g6
    exact ldR g6 rfl (pure_w (H h6 _ (E4.upd u6 (Nat.le_refl _)) (vl0_rep _ _)))
end Gx
namespace Gx
open Go
set_option linter.unusedVariables false
set_option linter.unusedSimpArgs false
def KT (h : Heap) (r : Sl) (e : TypeId) : Prop:=∀ g,r.base = some ⟨g,0,none⟩ → ∃ c z,h[g]? = some (.cells c e z)
theorem KT.same {h h' : Heap} {r : Sl} {e : TypeId} (k : KT h r e) (hs : ∀ i,Sl.on r i → h'[i]? = h[i]?) : KT h' r e:=fun g hg=>by
  obtain ⟨c,z,hh⟩:=k g hg
  exact ⟨c,z,(hs g ⟨_,hg,rfl⟩).trans hh⟩
theorem apGo_grow {lo : Nat} {h : Heap} {Q : Sl → Heap → Prop} {e sz bytes k : Nat} {z : Array Value} {r : Sl} {vs news : List Value} (hz : z.size = sz) (H : Gw lo h r sz vs) (hn : news.length = k * sz) (h1 : ∀ v ∈ news,one v = true)
    (hb : (r.len + k) * bytes ≤ 140737488355328) (hm : r.len + k ≤ 9223372036854775807) (hlo : lo ≤ h.size) (hnz : r.cap = 0 → r = Sl.nil) (hk : KT h r e)
    (hq : ∀ h' r',Gw lo h' r' sz (vs ++ news) → r'.len = r.len + k → h.size ≤ h'.size → (∀ i,i < h.size → ¬ Sl.on r i → h'[i]? = h[i]?) → (∀ i,Sl.on r' i → Sl.on r i ∨ h.size ≤ i) → (r'.cap = 0 → r' = Sl.nil) → KT h' r' e → Q r' h') : apGo e sz bytes z r k news h Q:=by
  unfold apGo
  split
  · rename_i hc
    have hz' : (⟨r.base,r.len + k,r.cap⟩ : Sl).cap = 0 → (⟨r.base,r.len + k,r.cap⟩ : Sl) = Sl.nil:=fun h0=>by
      have h0 : r.cap = 0:=h0
      have:=hnz h0
      subst this
      have : k = 0:=by simp [Sl.nil] at hc; exact hc
      subst this
      rfl
    rcases H with ⟨rfl,rfl⟩ | ⟨b,ty,cells,H⟩
    · have h0 : k = 0:=by simp [Sl.nil] at hc; exact hc
      subst h0
      have : news = []:=List.length_eq_zero_iff.1 (by rw [hn]; simp)
      subst this
      refine ⟨fun a ha=>(by cases ha),by simp,?_⟩
      exact hq h _ (.inl ⟨rfl,rfl⟩) rfl (Nat.le_refl _) (fun i _ _=>rfl) (fun i hi=>.inl hi) hz' hk
    · have hsz : r.len * sz + news.length ≤ cells.size:=by
        rw [hn,H.size,← Nat.add_mul]
        exact Nat.mul_le_mul_right _ hc
      have hblk : (hputL h r.base (r.len * sz) news)[b]? = some (.cells (lay cells (r.len * sz) news) ty (0,0)):=by
        rw [H.base]
        show (hsetL h ((⟨b,0,none⟩ : Addr).add (r.len * sz)) news 0)[b]? = _
        rw [add_mk,Nat.zero_add,hsetL_at _ _ _ _ H.blk,Nat.add_zero]
      have hne : ∀ i,i ≠ b → (hputL h r.base (r.len * sz) news)[i]? = h[i]?:=fun i hi=>by
        rw [H.base]
        show (hsetL h ((⟨b,0,none⟩ : Addr).add (r.len * sz)) news 0)[i]? = _
        rw [add_mk,hsetL_ne hi]
      have hsize : (hputL h r.base (r.len * sz) news).size = h.size:=by
        rw [H.base]
        exact hsetL_size _ _ _
      refine ⟨fun a ha j hj=>?_,h1,hq _ _ (.inr ⟨b,ty,_,H.base,H.lo,hblk,?_,hc,?_,fun j v hj=>?_⟩) rfl (by rw [hsize]; exact Nat.le_refl _) (fun i hi hno=>hne i (fun e=>hno ⟨_,H.base,e.symm⟩)) (fun i hi=>.inl hi) hz' (fun g hg=>?_)⟩
      · rw [H.base] at ha; cases ha
        rw [add_mk,add_mk,Nat.zero_add,hcell_blk H.blk,hfrozen_blk H.blk]
        exact ⟨⟨_,Array.getElem?_eq_getElem (by omega)⟩,rfl⟩
      · rw [lay_size]; exact H.size
      · rw [List.length_append,H.len,hn,Nat.add_mul]
      · rw [← Array.getElem?_toList,lay_toList _ _ _ hsz]
        have hlen : (cells.toList.take (r.len * sz)).length = r.len * sz:=by rw [List.length_take,Array.length_toList]; omega
        by_cases hj1 : j < vs.length
        · rw [List.getElem?_append_left hj1] at hj
          have:=H.get j v hj
          rw [List.append_assoc,List.getElem?_append_left (by rw [hlen,← H.len]; exact hj1),List.getElem?_take,if_pos (by rw [← H.len]; exact hj1),Array.getElem?_toList]
          exact this
        · rw [List.getElem?_append_right (by omega)] at hj
          have hjn : j - vs.length < news.length:=(List.getElem?_eq_some_iff.1 hj).1
          rw [List.append_assoc,List.getElem?_append_right (by rw [hlen,← H.len]; omega),hlen,List.getElem?_append_left (by rw [← H.len]; exact hjn),← H.len]
          exact hj
      · have hg : r.base = some ⟨g,0,none⟩:=hg
        rw [H.base] at hg; cases hg
        obtain ⟨c,z,hh⟩:=hk b H.base
        rw [H.blk] at hh; cases hh
        exact ⟨_,_,hblk⟩
  · rename_i hc
    refine ⟨hb,hm,vs,H.len,H.reads,fun cap hcap=>?_⟩
    have hl:=H.len
    refine hq _ _ (.inr ⟨h.size,e,_,rfl,hlo,get_push_eq,?_,hcap,?_,fun j v hj=>?_⟩) rfl (by simp) (fun i hi _=>get_push_lt hi) (fun i hi=>.inr ?_) (fun h0=>by have h0 : cap = 0:=h0; omega) (fun g hg=>by cases hg; exact ⟨_,_,get_push_eq⟩)
    · rw [Array.size_append,Array.size_append,zRow_size,List.size_toArray,List.size_toArray,hl,hn,hz]
      show r.len * sz + k * sz + (cap - (r.len + k)) * sz = cap * sz
      rw [← Nat.add_mul,← Nat.add_mul]
      congr 1
      omega
    · rw [List.length_append,hl,hn,Nat.add_mul]
    · have hlt : j < (vs ++ news).length:=(List.getElem?_eq_some_iff.1 hj).1
      rw [Array.getElem?_append_left (by simpa using hlt)]
      rw [← hj]
      simp
    · obtain ⟨a,ha,rfl⟩:=hi
      cases ha
      exact Nat.le_refl _
theorem apS_b {β : Type} {e : Nat} {s : Sl} {x : ByteArray} {h : Heap} {Q : β → Heap → Prop} {f : Sl → M β} (H : apGo e 1 1 #[.int .u8 0] s x.size (sbytes x) h (fun r h'=>(f r).wp h' Q)) : (apS e s x >>= f).wp h Q:=H
theorem apL_b {β : Type} {e sz bytes : Nat} {z : Array Value} {s x : Sl} {news : List Value} {h : Heap} {Q : β → Heap → Prop} {f : Sl → M β} (hn : news.length = x.len * sz) (hr : Reads h x.base news) (H : apGo e sz bytes z s x.len news h (fun r h'=>(f r).wp h' Q)) : (apL e sz bytes z s x >>= f).wp h Q:=⟨news,hn,hr,H⟩
theorem sbytes_bs (l : List UInt8) : sbytes (bs l) = l.map bv:=rfl
structure Bld (lo : Nat) (h : Heap) (b : Nat) (r : Sl) (l : List UInt8) : Prop where
  low : lo ≤ b
  ptr : ∃ p,h[b]? = some (.cells #[p,r.v] ty_strings_Builder (0,0)) ∧ (p = .pointer none ∨ p = .pointer (some ⟨b,0,none⟩))
  row : Gw lo h r 1 (l.map bv)
  off : ¬ Sl.on r b
  nz : r.cap = 0 → r = Sl.nil
  kt : KT h r ty_uint8
theorem Bld.len {lo : Nat} {h : Heap} {b : Nat} {r : Sl} {l : List UInt8} (B : Bld lo h b r l) : r.len = l.length:=by
  have:=B.row.len
  simp at this
  exact this.symm
theorem Bld.lt {lo : Nat} {h : Heap} {b : Nat} {r : Sl} {l : List UInt8} (B : Bld lo h b r l) : b < h.size:=by
  obtain ⟨p,h1,_⟩:=B.ptr
  exact blk_lt h1
theorem Bld.ext {lo : Nat} {h h' : Heap} {b : Nat} {r : Sl} {l : List UInt8} (B : Bld lo h b r l) (e : Ext h h') : Bld lo h' b r l:=by
  obtain ⟨p,h1,h2⟩:=B.ptr
  exact ⟨B.low,⟨p,e.blk h1,h2⟩,B.row.ext e,B.off,B.nz,B.kt.same (fun i hi=>e.same i (B.row.lt hi).1)⟩
theorem Bld.new {lo : Nat} {h h' : Heap} (hl : lo ≤ h.size) (hb : h'[h.size]? = some (.cells #[.pointer none,.slice none 0 0] ty_strings_Builder (0,0))) : Bld lo h' h.size Sl.nil [] :=
  ⟨hl,⟨_,hb,.inl rfl⟩,Gw.nil _ _ _,fun ⟨a,ha,_⟩=>(by cases ha),fun _=>rfl,fun g hg=>by cases hg⟩
structure BKeep (b : Nat) (r r' : Sl) (h h' : Heap) : Prop where
  size : h.size ≤ h'.size
  same : ∀ i,i < h.size → i ≠ b → ¬ Sl.on r i → h'[i]? = h[i]?
  on_ : ∀ i,Sl.on r' i → Sl.on r i ∨ h.size ≤ i
theorem BKeep.refl (b : Nat) (r : Sl) (h : Heap) : BKeep b r r h h:=⟨Nat.le_refl _,fun _ _ _ _=>rfl,fun _ h=>.inl h⟩
theorem BKeep.trans {b : Nat} {r r' r'' : Sl} {h h' h'' : Heap} (k : BKeep b r r' h h') (k' : BKeep b r' r'' h' h'') (hb : b < h.size) : BKeep b r r'' h h'' :=
  ⟨Nat.le_trans k.size k'.size,fun i hi hne hno=>(k'.same i (Nat.lt_of_lt_of_le hi k.size) hne (fun ho=>(k.on_ i ho).elim hno (fun h=>by omega))).trans (k.same i hi hne hno),
   fun i hi=>(k'.on_ i hi).elim (fun h=>k.on_ i h) (fun h=>.inr (Nat.le_trans k.size h))⟩
theorem BKeep.ext {lo : Nat} {b : Nat} {r r' : Sl} {h0 h h' : Heap} {l : List UInt8} (e : Ext h0 h) (B : Bld lo h b r l) (hl : h0.size ≤ lo) (k : BKeep b r r' h h') : Ext h0 h' :=
  ⟨Nat.le_trans e.size k.size,fun i hi=>(k.same i (Nat.lt_of_lt_of_le hi e.size) (by have:=B.low; omega) (fun ho=>by have:=(B.row.lt ho).2; omega)).trans (e.same i hi)⟩
theorem BKeep.push {b : Nat} {r r' : Sl} {h h' h'' : Heap} (k : BKeep b r r' h h') (e : Ext h' h'') : BKeep b r r' h h'' :=
  ⟨Nat.le_trans k.size e.size,fun i hi h1 h2=>(e.same i (Nat.lt_of_lt_of_le hi k.size)).trans (k.same i hi h1 h2),k.on_⟩
theorem hset_cells {h : Heap} {b : Nat} {p v u : Value} {t : TypeId} (hb : h[b]? = some (.cells #[p,v] t (0,0))) : (hset h ⟨b,1,none⟩ u)[b]? = some (.cells #[p,u] t (0,0)):=by
  rw [hset_at hb]; rfl
theorem hset_cells0 {h : Heap} {b : Nat} {p v u : Value} {t : TypeId} (hb : h[b]? = some (.cells #[p,v] t (0,0))) : (hset h ⟨b,0,none⟩ u)[b]? = some (.cells #[u,v] t (0,0)):=by
  rw [hset_at hb]; rfl
theorem copyCheck_b {β : Type} {lo : Nat} {h : Heap} {b : Nat} {r : Sl} {l : List UInt8} {Q : β → Heap → Prop} {f : Unit → M β} (B : Bld lo h b r l)
    (H : ∀ h',Bld lo h' b r l → Upd b h h' → (f ()).wp h' Q) : (strings_Builder_copyCheck (some ⟨b,0,none⟩) >>= f).wp h Q:=by
  obtain ⟨p,h1,h2⟩:=B.ptr
  refine ⟨b,p,r.v,rfl,h1,?_⟩
  rcases h2 with rfl | rfl
  · refine .inr ⟨rfl,H _ ⟨B.low,⟨_,hset_cells0 h1,.inr rfl⟩,B.row.same (fun i hi=>hset_ne (fun e=>B.off ((show i = b from e) ▸ hi))),B.off,B.nz,B.kt.same (fun i hi=>hset_ne (fun e=>B.off ((show i = b from e) ▸ hi)))⟩ (Upd.hset _ _ _ _)⟩
  · exact .inl ⟨rfl,H _ B (Upd.refl _ _)⟩
theorem bld_put {lo : Nat} {h h0 h' : Heap} {b : Nat} {r r' : Sl} {l l' : List UInt8} (B : Bld lo h0 b r l) (u : Upd b h h0) (hs : h0.size ≤ h'.size)
    (same : ∀ i,i < h0.size → ¬ Sl.on r i → h'[i]? = h0[i]?) (on_ : ∀ i,Sl.on r' i → Sl.on r i ∨ h0.size ≤ i) (G : Gw lo h' r' 1 (l'.map bv)) (nz : r'.cap = 0 → r' = Sl.nil) (kt : KT h' r' ty_uint8) :
    Bld lo (hset h' ⟨b,1,none⟩ r'.v) b r' l' ∧ BKeep b r r' h (hset h' ⟨b,1,none⟩ r'.v):=by
  have hb:=B.lt
  obtain ⟨p,h1,h2⟩:=B.ptr
  have h1' : h'[b]? = some (.cells #[p,r.v] ty_strings_Builder (0,0)):=by rw [same b hb B.off]; exact h1
  have hoff : ¬ Sl.on r' b:=fun ho=>(on_ b ho).elim B.off (fun h=>by omega)
  refine ⟨⟨B.low,⟨p,hset_cells h1',h2⟩,G.same (fun i hi=>hset_ne (fun e=>hoff ((show i = b from e) ▸ hi))),hoff,nz,kt.same (fun i hi=>hset_ne (fun e=>hoff ((show i = b from e) ▸ hi)))⟩,?_,fun i hi hne hno=>?_,fun i hi=>?_⟩
  · rw [hset_size,← u.size]; exact hs
  · rw [hset_ne hne,same i (by rw [u.size]; exact hi) hno,u.ne i hne]
  · rw [← u.size]; exact on_ i hi

theorem wstr_spec {lo : Nat} {h : Heap} {b : Nat} {r : Sl} {l s : List UInt8} {Q : Int × Value → Heap → Prop} (B : Bld lo h b r l) (hlo : lo ≤ h.size) (hm : l.length + s.length ≤ 140737488355328)
    (H : ∀ h' r' n,Bld lo h' b r' (l ++ s) → BKeep b r r' h h' → Q (n,Value.nilIface) h') : (strings_Builder_WriteString (some ⟨b,0,none⟩) (bs s)).wp h Q:=by
  unfold strings_Builder_WriteString
  refine copyCheck_b B (fun h0 B0 u=>nilP_b ?_)
  obtain ⟨p,h1,h2⟩:=B0.ptr
  have hl:=B0.len
  refine ldL_b (n:=r) (by rw [add_mk,hcell_blk h1]; rfl) ?_
  refine apS_b ?_
  rw [sbytes_bs,bs_size]
  refine apGo_grow (vs:=l.map bv) (z:=#[.int .u8 0]) rfl B0.row (by simp) (fun v hv=>by obtain ⟨x,_,rfl⟩:=List.mem_map.1 hv; rfl) (by omega) (by omega) (by rw [u.size]; exact hlo) B0.nz B0.kt (fun h' r' G hlen hs same on_ nz kt=>?_)
  refine nilP_b ?_
  rw [← List.map_append] at G
  obtain ⟨B',K⟩:=bld_put B0 u hs same on_ G nz kt
  have h1' : h'[b]? = some (.cells #[p,r.v] ty_strings_Builder (0,0)):=by rw [same b B0.lt B0.off]; exact h1
  refine stV_b (x:=r.v) (by rw [add_mk,hcell_blk h1']; rfl) (by rw [add_mk,hfrozen_blk h1']) (one_v _) (pure_w ?_)
  rw [add_mk]
  exact H _ _ _ B' K
theorem wbyte_spec {lo : Nat} {h : Heap} {b : Nat} {r : Sl} {l : List UInt8} {c : UInt8} {n : Int} {Q : Value → Heap → Prop} (B : Bld lo h b r l) (hlo : lo ≤ h.size) (hm : l.length + 1 ≤ 140737488355328) (hn : n = (c.toNat : Int))
    (H : ∀ h' r',Bld lo h' b r' (l ++ [c]) → BKeep b r r' h h' → Q Value.nilIface h') : (strings_Builder_WriteByte (some ⟨b,0,none⟩) n).wp h Q:=by
  subst hn
  unfold strings_Builder_WriteByte
  refine copyCheck_b B (fun h0 B0 u=>nilP_b ?_)
  have hl:=B0.len
  obtain ⟨p,h1,h2⟩:=B0.ptr
  refine ldL_b (n:=r) (by rw [add_mk,hcell_blk h1]; rfl) (bdL_b ?_)
  have e1:=Ext.push h0 (.cells #[.int .u8 (c.toNat : Int)] ty_uint8)
  have B1:=B0.ext e1
  refine apL_b (news:=[bv c]) rfl (.inr ⟨_,rfl,fun j v hj=>?_⟩) ?_
  · rw [add_mk,hcell_blk get_push_eq,Nat.zero_add]
    rw [show (#[Value.int .u8 (c.toNat : Int)] : Array Value) = [bv c].toArray from rfl]
    simpa using hj
  refine apGo_grow (vs:=l.map bv) (news:=[bv c]) (z:=#[.int .u8 0]) rfl B1.row rfl (fun v hv=>by simp at hv; subst hv; rfl) (by show (r.len + 1) * 1 ≤ _; omega) (by show r.len + 1 ≤ _; omega) (by have:=e1.size; have:=u.size; omega) B1.nz B1.kt (fun h' r' G hlen hs same on_ nz kt=>?_)
  refine nilP_b ?_
  have G : Gw lo h' r' 1 ((l ++ [c]).map bv):=by rw [List.map_append]; exact G
  obtain ⟨p',h1',h2'⟩:=B1.ptr
  have:=bld_put B1 (Upd.refl _ _) hs same on_ G nz kt
  obtain ⟨B',K⟩:=this
  have h1'' : h'[b]? = some (.cells #[p',r.v] ty_strings_Builder (0,0)):=by rw [same b B1.lt B1.off]; exact h1'
  refine stV_b (x:=r.v) (by rw [add_mk,hcell_blk h1'']; rfl) (by rw [add_mk,hfrozen_blk h1'']) (one_v _) (pure_w ?_)
  rw [add_mk,Nat.zero_add]
  refine H _ _ B' ?_
  refine ⟨?_,fun i hi hne hno=>?_,fun i hi=>(K.on_ i hi).imp id (fun hh=>?_)⟩
  · have:=K.size; have:=e1.size; have:=u.size; omega
  · rw [K.same i (by have:=e1.size; have:=u.size; omega) hne hno,e1.same i (by rw [u.size]; exact hi),u.ne i hne]
  · have:=e1.size; have:=u.size; omega
theorem bstr_spec {lo : Nat} {h : Heap} {b : Nat} {r : Sl} {l : List UInt8} {Q : ByteArray → Heap → Prop} (B : Bld lo h b r l) (hm : l.length ≤ 140737488355328)
    (H : ∀ h',BKeep b r r h h' → h'.size = h.size → Q (bs l) h') : (strings_Builder_String (some ⟨b,0,none⟩)).wp h Q:=by
  unfold strings_Builder_String
  obtain ⟨p,h1,h2⟩:=B.ptr
  have hl:=B.len
  have c1 : hcell h ((⟨b,0,none⟩ : Addr).add 1) = some r.v:=by rw [add_mk,hcell_blk h1]; rfl
  refine nilP_b (nilP_b (ldL_b (n:=r) c1 (ldL_b (n:=r) c1 ?_)))
  rcases B.row with ⟨rfl,hv⟩ | ⟨g,ty,cells,R⟩
  · have : l = []:=by simpa using hv
    subst this
    exact ⟨none,.inl ⟨rfl,rfl⟩,.inl ⟨rfl,H h (BKeep.refl _ _ _) rfl⟩⟩
  · have hc : r.cap ≠ 0:=fun h0=>by
      have:=B.nz h0
      rw [this] at R
      have:=R.base
      cases this
    refine ⟨_,.inr ⟨hc,R.base⟩,?_⟩
    by_cases h0 : l = []
    · subst h0
      refine .inl ⟨by rw [hl]; rfl,H h (BKeep.refl _ _ _) rfl⟩
    · have hs:=R.size
      have:=R.cap
      refine .inr ⟨g,cells,(0,0),l,rfl,by rw [hl],h0,by omega,by omega,?_,fun j x hj=>?_,fun h' a1 a2=>pure_w (H _ ⟨by rw [a1]; exact Nat.le_refl _,fun i hi hne hno=>a2 i (fun e=>hno ⟨_,R.base,e.symm⟩),fun i hi=>.inl hi⟩ a1)⟩
      · obtain ⟨c,z,hh⟩:=B.kt g R.base
        rw [R.blk] at hh; cases hh
        exact R.blk
      · have:=R.get j (bv x) (by simp [hj])
        exact this
end Gx
namespace Gx
open Go
set_option linter.unusedVariables false
set_option linter.unusedSimpArgs false
def hexc (n : Nat) : UInt8:=if n < 10 then UInt8.ofNat (48 + n) else UInt8.ofNat (87 + n)
theorem hexc_get : ∀ n,n < 16 → ([48,49,50,51,52,53,54,55,56,57,97,98,99,100,101,102,103,104,105,106,107,108,109,110,111,112,113,114,115,116,117,118,119,120,121,122] : List UInt8)[n]? = some (hexc n):=by decide
theorem ixS_at {β : Type} {h : Heap} {Q : β → Heap → Prop} {l : List UInt8} {i : Nat} {t : Int} {c : UInt8} {f : Int → M β} (ht : t = (i : Int)) (hi : l[i]? = some c) (H : (f (c.toNat : Int)).wp h Q) : (ixS (bs l) t >>= f).wp h Q:=by
  obtain ⟨h1,rfl⟩:=List.getElem?_eq_some_iff.1 hi
  exact ixS_b ht h1 H
theorem stU_b {β : Type} {h : Heap} {Q : β → Heap → Prop} {b i : Nat} {t : TypeId} {l : List UInt8} {c : UInt8} {f : Unit → M β} (hb : BB h b t l) (hi : i < l.length)
    (H : ∀ h',BB h' b t (l.set i c) → Upd b h h' → (f ()).wp h' Q) : (stV ⟨b,i,none⟩ (.int .u8 (c.toNat : Int)) >>= f).wp h Q :=
  stV_b (hb.cell hi) (hb.frozen i) (one_bv c) (H _ (hb.set i c) (Upd.hset _ _ _ _))
theorem digits36 : (⟨#[48,49,50,51,52,53,54,55,56,57,97,98,99,100,101,102,103,104,105,106,107,108,109,110,111,112,113,114,115,116,117,118,119,120,121,122]⟩ : ByteArray) = bs [48,49,50,51,52,53,54,55,56,57,97,98,99,100,101,102,103,104,105,106,107,108,109,110,111,112,113,114,115,116,117,118,119,120,121,122]:=rfl
theorem DbTab.ext {h h' : Heap} (H : DbTab h) (e : Ext h h') : DbTab h':=by
  obtain ⟨cs,ty,fz,h1,h2⟩:=H
  exact ⟨cs,ty,fz,e.blk h1,h2⟩
theorem PowTab.ext {h h' : Heap} (H : PowTab h) (e : Ext h h') : PowTab h':=by
  obtain ⟨fz,ty,h1⟩:=H
  exact ⟨fz,ty,e.blk h1⟩
theorem fmt16_spec {n : Nat} (hn : n < 16) {h : Heap} {Q : ByteArray → Heap → Prop} (hd : DbTab h) (H : ∀ h',Ext h h' → Q (bs [hexc n]) h') : (internal_strconv_FormatInt (n : Int) 16).wp h Q:=by
  unfold internal_strconv_FormatInt
  refine iteF (by decide) (bind_w ?_)
  have w1 : IntKind.wrap .u64 (n : Int) = (n : Int):=by rw [IntKind.wrap_u64]; omega
  rw [w1,show decide ((n : Int) < 0) = false by simp]
  unfold internal_strconv_formatBits
  refine iteF_b (by decide) (pure_b (iteF_b (by decide) (pure_b (iteF (by decide) (mkB_b (iteF rfl ?_))))))
  have e1:=Ext.push h (.cells (Array.replicate 65 (.int .u8 0)) ty_65_uint8)
  have g1 : (h.push (.cells (Array.replicate 65 (.int .u8 0)) ty_65_uint8))[h.size]? = some (.cells (Array.replicate 65 (.int .u8 0)) ty_65_uint8 (0,0)):=get_push_eq
  generalize h.push (.cells (Array.replicate 65 (.int .u8 0)) ty_65_uint8) = h1 at e1 g1 ⊢
  unfold internal_strconv_formatBits_j1 internal_strconv_isPowerOfTwo
  refine pure_b (iteT (by decide) ?_)
  unfold math_bits_TrailingZeros math_bits_TrailingZeros64
  obtain ⟨cs,ty,fz,d1,d2⟩:=hd.ext e1
  refine bind_w (iteF_b (by decide) (ixA_b (by decide) (by decide) (ldI_b (n:=4) ?_ (pure_b (pure_w ?_)))))
  · rw [show ((iShr .u64 (IntKind.wrap .u64 ((iAnd .u64 (IntKind.wrap .u64 16) (IntKind.wrap .u64 (0 - (IntKind.wrap .u64 16)))) * 285870213051353865)) 58).toNat * 1) = 15 by decide,add_mk,hcell_blk d1]
    exact d2
  have b1 : BB h1 h.size ty_65_uint8 (List.replicate 65 0):=by
    unfold BB
    rw [g1]
    rfl
  refine M.loop_inv (fun (t : Int × Int) h'=>h' = h1 ∧ t = ((n : Int),65)) (fun _ _=>0) ?_ ⟨rfl,rfl⟩
  rintro t h' ⟨rfl,rfl⟩ self hself
  unfold internal_strconv_formatBits_l1
  refine iteF (by simp [IntKind.wrap_u64]; omega) ?_
  rw [digits36]
  refine ixS_at rfl (hexc_get n hn) (ixA_b (by decide) (by decide) ?_)
  rw [show (IntKind.wrap .i64 (65 - 1)).toNat * 1 = 64 by decide,add_mk,Nat.zero_add]
  refine stU_b b1 (by decide) (fun h2 b2 u2=>?_)
  unfold internal_strconv_formatBits_j2 internal_strconv_formatBits_j3
  refine iteF rfl (iteF rfl (slA_b (by decide) (by decide) (by decide) ?_))
  rw [show (IntKind.wrap .i64 (65 - 1)).toNat = 64 by decide,if_neg (by decide),add_mk]
  refine b2s_b (ns:=[hexc n]) rfl ?_ (pure_w (pure_w (H _ (e1.upd u2 (Nat.le_refl _)))))
  have:=(b2.bys 64 1 1 (by simp)).at_
  exact this
end Gx
namespace Gx
open Go
set_option linter.unusedVariables false
set_option linter.unusedSimpArgs false
theorem ntext_spec {n : Int} {h : Heap} {Q : ByteArray → Heap → Prop} (hn : I64 n) (hp : PowTab h) (H : ∀ h',Ext h h' → Q (bs (Lib.itoa n)) h') : (num_Text n).wp h Q:=by
  unfold num_Text strconv_FormatInt
  refine bind_w (bind_w (callF_w (S_lib_FormatInt10 n) ⟨hn.1,hn.2,hp,fun h' h1 h2=>pure_w (pure_w (H _ ⟨h1,h2⟩))⟩))
theorem fmt16_b {β : Type} {n : Nat} (hn : n < 16) {t : Int} (ht : t = (n : Int)) {h : Heap} {Q : β → Heap → Prop} {f : ByteArray → M β} (hd : DbTab h) (H : ∀ h',Ext h h' → (f (bs [hexc n])).wp h' Q) : (strconv_FormatInt t 16 >>= f).wp h Q:=by
  subst ht
  unfold strconv_FormatInt
  exact bind_w (bind_w (callF_w (S_internal_strconv_FormatInt _ _) (fmt16_spec hn hd (fun h' e=>pure_w (H _ e)))))
def qc (c : UInt8) : List UInt8:=if c < 32 ∨ 126 < c then [92,120,hexc (c.toNat / 16),hexc (c.toNat % 16)] else if c = 39 ∨ c = 92 then [92,c] else [c]
def quoteB (s : List UInt8) : List UInt8:=39 :: s.flatMap qc ++ [39]
structure BW (h0 : Heap) (b c : Nat) (o : Obj) (h : Heap) (r : Sl) (l : List UInt8) : Prop where
  bld : Bld h0.size h b r l
  ext : Ext h0 h
  blk : h[c]? = some o
  off : ¬ Sl.on r c
  ne : c ≠ b
theorem BW.keep {h0 h h' : Heap} {b c : Nat} {o : Obj} {r r' : Sl} {l l' : List UInt8} (W : BW h0 b c o h r l) (B : Bld h0.size h' b r' l') (K : BKeep b r r' h h') : BW h0 b c o h' r' l' :=
  ⟨B,K.ext W.ext W.bld (Nat.le_refl _),(K.same c (blk_lt W.blk) W.ne W.off).trans W.blk,fun ho=>(K.on_ c ho).elim W.off (fun h=>by have:=blk_lt W.blk; omega),W.ne⟩
theorem BW.more {h0 h h' : Heap} {b c : Nat} {o : Obj} {r : Sl} {l : List UInt8} (W : BW h0 b c o h r l) (e : Ext h h') : BW h0 b c o h' r l :=
  ⟨W.bld.ext e,W.ext.trans e,e.blk W.blk,W.off,W.ne⟩
theorem u8_div (c : UInt8) : iShr .u8 (c.toNat : Int) 4 = ((c.toNat / 16 : Nat) : Int):=by
  have h : (c.toNat : Int).fdiv 16 = ((c.toNat / 16 : Nat) : Int):=by
    rw [Int.fdiv_eq_ediv_of_nonneg _ (by decide)]; rfl
  exact h
set_option maxRecDepth 100000 in
theorem u8_and : ∀ c : UInt8,iAnd .u8 (c.toNat : Int) 15 = ((c.toNat % 16 : Nat) : Int):=by
  intro c
  have hk : ∀ n,n < 256 → iAnd .u8 ((n : Nat) : Int) 15 = ((n % 16 : Nat) : Int):=by decide
  exact hk c.toNat c.toNat_lt
theorem take_flat {l : List UInt8} {i : Nat} (hi : i < l.length) (f : UInt8 → List UInt8) : (l.take (i + 1)).flatMap f = (l.take i).flatMap f ++ f l[i]:=by
  rw [take_snoc hi,List.flatMap_append]; simp
theorem vquote_spec {s : List UInt8} {h : Heap} {Q : ByteArray → Heap → Prop} (hs : (quoteB s).length ≤ 140737488355328) (hd : DbTab h) (H : ∀ h',Ext h h' → Q (bs (quoteB s)) h') : (value_quote (bs s)).wp h Q:=by
  unfold value_quote
  refine mkV_b (fun h1 e1 z1 g1=>?_)
  have B1:=Bld.new (Nat.le_refl _) g1
  refine bind_w (wbyte_spec (c:=39) B1 (by omega) (by simp) rfl (fun h2 r2 B2 K2=>?_))
  refine fun cap hcap mk hmk=>?_
  have e3:=Ext.push h2 (.cells ((sbytes (bs s)).toArray ++ Array.replicate (cap - (bs s).size) (.int .u8 0)) ty_uint8 mk)
  have g3 : (h2.push (.cells ((sbytes (bs s)).toArray ++ Array.replicate (cap - (bs s).size) (.int .u8 0)) ty_uint8 mk))[h2.size]? = some (.cells ((sbytes (bs s)).toArray ++ Array.replicate (cap - (bs s).size) (.int .u8 0)) ty_uint8 mk):=get_push_eq
  generalize h2.push (.cells ((sbytes (bs s)).toArray ++ Array.replicate (cap - (bs s).size) (.int .u8 0)) ty_uint8 mk) = h3 at e3 g3 ⊢
  have hlt:=B2.lt
  have W3 : BW h h.size h2.size _ h3 r2 [39]:=⟨B2.ext e3,(K2.ext e1 B1 (Nat.le_refl _)).trans e3,g3,fun ho=>by have:=(B2.row.lt ho).1; omega,by omega⟩
  rw [bs_size]
  have hq : (quoteB s).length = (s.flatMap qc).length + 2:=by simp [quoteB]
  have hsl : s.length ≤ (s.flatMap qc).length:=by
    rw [List.length_flatMap]
    clear hs H hcap W3 g3 e3 hq K2 B2 hlt
    induction s with
    | nil=>simp
    | cons a s ih=>rw [List.map_cons,List.sum_cons,List.length_cons]; have : 1 ≤ (qc a).length:=by { unfold qc; split <;> (try split) <;> simp }; omega
  have hpre : ∀ i,((s.take i).flatMap qc).length ≤ (s.flatMap qc).length:=fun i=>by
    conv=>rhs; rw [← List.take_append_drop i s,List.flatMap_append,List.length_append]
    omega
  refine M.loop_inv (fun (t : Int) h'=>∃ i : Nat,t = (i : Int) ∧ i ≤ s.length ∧ ∃ r,BW h h.size h2.size (.cells ((sbytes (bs s)).toArray ++ Array.replicate (cap - (bs s).size) (.int .u8 0)) ty_uint8 mk) h' r (39 :: (s.take i).flatMap qc)) (fun t _=>((s.length : Int) - t).toNat) ?_ ⟨0,rfl,Nat.zero_le _,r2,W3⟩
  rintro t h' ⟨i,rfl,hi,r,W⟩ self hself
  unfold value_quote_l1
  have hpi:=hpre i
  refine ite_w (fun hc=>?_) (fun hc=>?_)
  · have hlt' : i < s.length:=by have:=of_decide_eq_true hc; dsimp only at this; omega
    have hpj:=hpre (i + 1)
    have htk:=take_flat hlt' qc
    have cell : hcell h' ((⟨h2.size,0,none⟩ : Addr).add ((i : Int).toNat * 1)) = some (.int .u8 (s[i].toNat : Int)):=by
      rw [add_mk,hcell_blk W.blk,show 0 + (i : Int).toNat * 1 = i by omega,Array.getElem?_append_left (by rw [sbytes_bs]; simpa using hlt')]
      simp [sbytes_bs,hlt',bv]
    refine ixL_b (by omega) (by show (i : Int) < (s.length : Int); omega) rfl (ldI_b cell ?_)
    have hw64 : IntKind.wrap .i64 ((i : Int) + 1) = ((i + 1 : Nat) : Int):=by rw [w64 (by omega) (by omega)]; simp
    have hnext : ∀ {h4 : Heap} {r4 : Sl},BW h h.size h2.size (.cells ((sbytes (bs s)).toArray ++ Array.replicate (cap - (bs s).size) (.int .u8 0)) ty_uint8 mk) h4 r4 (39 :: (s.take (i + 1)).flatMap qc) → (value_quote_j1 self (i : Int)).wp h4 Q:=fun W4=>by
      unfold value_quote_j1
      rw [hw64]
      exact hself _ _ ⟨i + 1,rfl,by omega,_,W4⟩ (by omega)
    rw [htk] at hnext hpj
    have c32 : (decide ((s[i].toNat : Int) < 32)) = decide (s[i] < 32):=by rw [Bool.eq_iff_iff]; simp [u8_lt_int]
    have c126 : (decide ((s[i].toNat : Int) > 126)) = decide (126 < s[i]):=by rw [Bool.eq_iff_iff]; simp [u8_lt_int]
    refine or_b (c:=decide (126 < s[i])) (fun _ Q' hq'=>pure_w (by rw [c126]; exact hq')) ?_
    rw [c32]
    have hlo : h.size ≤ h'.size:=W.ext.size
    refine ite_w (fun hx=>?_) (fun hx=>?_)
    · have hx' : s[i] < 32 ∨ 126 < s[i]:=by simpa using hx
      have hqc : qc s[i] = [92,120,hexc (s[i].toNat / 16),hexc (s[i].toNat % 16)]:=by unfold qc; rw [if_pos hx']
      rw [hqc] at hnext hpj
      simp only [List.length_append,List.length_cons,List.length_nil] at hpj
      have hdiv : s[i].toNat / 16 < 16:=by have:=s[i].toNat_lt; omega
      refine bind_w (wstr_spec (s:=[92,120]) W.bld hlo (by simp only [List.length_cons,List.length_append,List.length_nil]; omega) (fun h4 r4 n4 B4 K4=>?_))
      have W4:=W.keep B4 K4
      refine fmt16_b hdiv (by rw [u8_div,w64 (by omega) (by omega)]) (hd.ext W4.ext) (fun h5 e5=>?_)
      have W5:=W4.more e5
      refine bind_w (wstr_spec W5.bld W5.ext.size (by simp only [List.length_cons,List.length_append,List.length_nil]; omega) (fun h6 r6 n6 B6 K6=>?_))
      have W6:=W5.keep B6 K6
      refine fmt16_b (Nat.mod_lt _ (by decide)) (by rw [u8_and,w64 (by omega) (by omega)]) (hd.ext W6.ext) (fun h7 e7=>?_)
      have W7:=W6.more e7
      refine bind_w (wstr_spec W7.bld W7.ext.size (by simp only [List.length_cons,List.length_append,List.length_nil]; omega) (fun h8 r8 n8 B8 K8=>?_))
      exact hnext (by have:=W7.keep B8 K8; simpa using this)
    · have hx' : ¬ (s[i] < 32 ∨ 126 < s[i]):=by simpa using hx
      have c39 : ((s[i].toNat : Int) == 39) = decide (s[i] = 39):=by
        rw [Bool.eq_iff_iff]; simp only [beq_iff_eq,decide_eq_true_eq]
        exact ⟨fun e=>UInt8.toNat_inj.1 (by simpa using (by omega : s[i].toNat = 39)),fun e=>by rw [e]; rfl⟩
      have c92 : ((s[i].toNat : Int) == 92) = decide (s[i] = 92):=by
        rw [Bool.eq_iff_iff]; simp only [beq_iff_eq,decide_eq_true_eq]
        exact ⟨fun e=>UInt8.toNat_inj.1 (by simpa using (by omega : s[i].toNat = 92)),fun e=>by rw [e]; rfl⟩
      refine or_b (c:=decide (s[i] = 92)) (fun _ Q' hq'=>pure_w (by rw [c92]; exact hq')) ?_
      rw [c39]
      refine ite_w (fun hy=>?_) (fun hy=>?_)
      · have hy' : s[i] = 39 ∨ s[i] = 92:=by simpa using hy
        have hqc : qc s[i] = [92,s[i]]:=by unfold qc; rw [if_neg hx',if_pos hy']
        rw [hqc] at hnext hpj
        simp only [List.length_append,List.length_cons,List.length_nil] at hpj
        refine bind_w (wbyte_spec (c:=92) W.bld hlo (by simp only [List.length_cons,List.length_append,List.length_nil]; omega) rfl (fun h4 r4 B4 K4=>?_))
        have W4:=W.keep B4 K4
        refine bind_w (wbyte_spec (c:=s[i]) W4.bld W4.ext.size (by simp only [List.length_cons,List.length_append,List.length_nil]; omega) rfl (fun h5 r5 B5 K5=>?_))
        exact hnext (by have:=W4.keep B5 K5; simpa using this)
      · have hy' : ¬ (s[i] = 39 ∨ s[i] = 92):=by simpa using hy
        have hqc : qc s[i] = [s[i]]:=by unfold qc; rw [if_neg hx',if_neg hy']
        rw [hqc] at hnext hpj
        simp only [List.length_append,List.length_cons,List.length_nil] at hpj
        refine bind_w (wbyte_spec (c:=s[i]) W.bld hlo (by simp only [List.length_cons,List.length_append,List.length_nil]; omega) rfl (fun h4 r4 B4 K4=>?_))
        exact hnext (by have:=W.keep B4 K4; simpa using this)
  · have hge : i = s.length:=by have:=of_decide_eq_false hc; dsimp only at this; omega
    subst hge
    rw [List.take_length] at W
    refine bind_w (wbyte_spec (c:=39) W.bld W.ext.size (by simp only [List.length_cons,List.length_append,List.length_nil]; omega) rfl (fun h4 r4 B4 K4=>?_))
    have W4:=W.keep B4 K4
    refine bind_w (bstr_spec B4 (by simp only [List.length_cons,List.length_append,List.length_nil]; omega) (fun h5 K5 _=>pure_w ?_))
    exact H _ (K5.ext W4.ext B4 (Nat.le_refl _))
end Gx
namespace Gx
open Go
set_option linter.unusedVariables false
set_option linter.unusedSimpArgs false
end Gx
namespace Gx
open Go
set_option linter.unusedVariables false
set_option linter.unusedSimpArgs false
def dgt (u : Nat) : List Nat:=if h : u < 10 then [u] else dgt (u / 10) ++ [u % 10]
termination_by u
decreasing_by omega
theorem dgt_dec (u : Nat) : Lib.decDigits u = (dgt u).map fun d=>UInt8.ofNat (48 + d):=by
  induction u using Nat.strongRecOn with
  | _ u ih =>
    unfold dgt Lib.decDigits
    split
    · rfl
    · rw [ih (u / 10) (by omega)]; simp
theorem dgt_len : ∀ (k u : Nat),u < 10 ^ k → 1 ≤ k → (dgt u).length ≤ k
  | 0,u,h,h1=>by omega
  | k + 1,u,h,h1=>by
    unfold dgt
    split
    · simp
    · rename_i hu
      rw [List.length_append]
      have : 1 ≤ k:=by
        rcases Nat.eq_zero_or_pos k with h0 | h0
        · subst h0; omega
        · exact h0
      have:=dgt_len k (u / 10) (by rw [Nat.pow_succ] at h; omega) this
      simp; omega
theorem sCat_b {β : Type} {h : Heap} {Q : β → Heap → Prop} {x y : List UInt8} {f : ByteArray → M β} (hm : x.length + y.length ≤ 9223372036854775807) (H : (f (bs (x ++ y))).wp h Q) : (sCat (bs x) (bs y) >>= f).wp h Q :=
  ⟨bs (x ++ y),⟨by rw [bs_size,bs_size]; omega,by apply ByteArray.ext; simp [bs]⟩,H⟩
theorem itoa_len {n : Int} (hn : I64 n) : (Lib.itoa n).length ≤ 21:=by
  obtain ⟨n1,n2⟩:=hn
  unfold Lib.itoa
  split
  · rw [List.length_cons,dgt_dec,List.length_map]
    have:=dgt_len 20 n.natAbs (by omega) (by decide)
    omega
  · rw [dgt_dec,List.length_map]
    have:=dgt_len 20 n.toNat (by omega) (by decide)
    omega
end Gx
namespace Gx
open Go
set_option linter.unusedVariables false
set_option linter.unusedSimpArgs false
def jn (sep : List UInt8) : List (List UInt8) → List UInt8
  | []=>[]
  | [a]=>a
  | a :: b :: r=>a ++ (sep ++ jn sep (b :: r))
def sv (s : List UInt8) : Value:=.string (bs s)
theorem jn_cons (sep a : List UInt8) (l : List (List UInt8)) : jn sep (a :: l) = a ++ l.flatMap (fun s=>sep ++ s):=by
  induction l generalizing a with
  | nil=>simp [jn]
  | cons b r ih=>rw [jn,ih]; simp
theorem bgrow_spec {lo : Nat} {h : Heap} {b : Nat} {n : Int} {Q : Unit → Heap → Prop} (B : Bld lo h b Sl.nil []) (hlo : lo ≤ h.size) (h0 : 0 ≤ n) (hn : n ≤ 140737488355328)
    (H : ∀ h' r',Bld lo h' b r' [] → BKeep b Sl.nil r' h h' → Q () h') : (strings_Builder_Grow (some ⟨b,0,none⟩) n).wp h Q:=by
  unfold strings_Builder_Grow
  refine copyCheck_b B (fun h1 B1 u1=>iteF (by simp; omega) ?_)
  obtain ⟨p,q1,q2⟩:=B1.ptr
  have c1 : hcell h1 ((⟨b,0,none⟩ : Addr).add 1) = some Sl.nil.v:=by rw [add_mk,hcell_blk q1]; rfl
  refine nilP_b (nilP_b (ldL_b (n:=Sl.nil) c1 (ldL_b (n:=Sl.nil) c1 ?_)))
  have hK1 : BKeep b Sl.nil Sl.nil h h1:=⟨by rw [u1.size]; exact Nat.le_refl _,fun i hi hne _=>u1.ne i hne,fun i hi=>.inl hi⟩
  refine ite_w (fun hc=>?_) (fun hc=>pure_w (H _ _ B1 hK1))
  have hpos : 0 < n:=of_decide_eq_true hc
  refine bind_w ?_
  unfold strings_Builder_grow
  refine nilP_b (nilP_b (ldL_b (n:=Sl.nil) c1 (ldL_b (n:=Sl.nil) c1 ?_)))
  have hw : IntKind.wrap .i64 ((IntKind.wrap .i64 (2 * ((Sl.nil : Sl).cap : Int))) + n) = n:=by
    rw [show IntKind.wrap .i64 (2 * ((Sl.nil : Sl).cap : Int)) = 0 by decide,w64 (by omega) (by omega)]; omega
  rw [hw]
  refine ⟨h0,by omega,fun cs hle hmax=>?_⟩
  have e2:=Ext.push h1 (.cells cs ty_uint8)
  have g2 : (h1.push (.cells cs ty_uint8))[h1.size]? = some (.cells cs ty_uint8 (0,0)):=get_push_eq
  generalize h1.push (.cells cs ty_uint8) = h2 at e2 g2 ⊢
  have c2:=e2.cell c1
  refine chk_b ⟨c2,c2⟩ (slL_b (by decide) (by decide) (by dsimp only [Sl.nil]; omega) (nilP_b (ldL_b (n:=Sl.nil) c2 ?_)))
  have hcs : cs.size ≠ 0:=by omega
  rw [if_neg (show ¬ cs.size = (0 : Int).toNat by simpa using hcs)]
  have hbz : (Option.map (fun x : Addr=>x.add ((0 : Int).toNat * 1)) (some ⟨h1.size,0,none⟩)) = some ⟨h1.size,0,none⟩:=by simp [add_mk]
  have hr : (⟨Option.map (fun x : Addr=>x.add ((0 : Int).toNat * 1)) (some ⟨h1.size,0,none⟩),((Sl.nil : Sl).len : Int).toNat - (0 : Int).toNat,cs.size - (0 : Int).toNat⟩ : Sl) = ⟨some ⟨h1.size,0,none⟩,0,cs.size⟩:=by
    rw [hbz]; simp [Sl.nil]
  dsimp only
  rw [hr]
  refine ⟨[],by simp [Sl.nil],.inl rfl,fun a ha j hj=>by simp at hj,by simp,nilP_b ?_⟩
  rw [show hputL h2 (⟨some ⟨h1.size,0,none⟩,0,cs.size⟩ : Sl).base 0 [] = h2 from rfl]
  obtain ⟨p',q1',q2'⟩:=(B1.ext e2).ptr
  refine stV_b (x:=Sl.nil.v) c2 (by rw [add_mk,hfrozen_blk q1']) (one_v _) (pure_w (pure_w ?_))
  rw [add_mk,Nat.zero_add]
  have hlt:=B1.lt
  have R : Gw lo h2 ⟨some ⟨h1.size,0,none⟩,0,cs.size⟩ 1 (([] : List UInt8).map bv):=.inr ⟨h1.size,_,_,rfl,by have:=u1.size; omega,g2,by simp,by simp,by simp,fun j v hj=>by simp at hj⟩
  obtain ⟨B3,K3⟩:=bld_put (h:=h1) (h':=h2) (l':=[]) B1 (Upd.refl _ _) e2.size (fun i hi _=>e2.same i hi) (fun i hi=>by obtain ⟨a,ha,rfl⟩:=hi; cases ha; exact .inr (Nat.le_refl _)) R (fun h=>absurd h hcs) (fun g hg=>by cases hg; exact ⟨_,_,g2⟩)
  exact H _ _ B3 (hK1.trans K3 B.lt)
def SsAt (h : Heap) (x : Sl) (ps : List (List UInt8)) : Prop:=x.len = ps.length ∧ x.len ≤ x.cap ∧ Reads h x.base (ps.map sv)
theorem SsAt.ext {h h' : Heap} {x : Sl} {ps : List (List UInt8)} (S : SsAt h x ps) (e : Ext h h') : SsAt h' x ps:=⟨S.1,S.2.1,e.reads S.2.2⟩
theorem SsAt.get {h : Heap} {x : Sl} {ps : List (List UInt8)} (S : SsAt h x ps) {i : Nat} (hi : i < ps.length) : ∃ a,x.base = some a ∧ hcell h (a.add i) = some (.string (bs ps[i])):=by
  obtain ⟨_,_,R | ⟨a,ha,R⟩⟩:=S
  · have : ps = []:=by simpa using R
    subst this; simp at hi
  · exact ⟨a,ha,R i _ (by simp [hi,sv])⟩
theorem sum_take {ps : List (List UInt8)} {i : Nat} (hi : i < ps.length) : ((ps.take (i + 1)).map List.length).sum = ((ps.take i).map List.length).sum + ps[i].length:=by
  rw [List.take_succ_eq_append_getElem hi,List.map_append,List.sum_append]; simp only [List.map_cons,List.map_nil,List.sum_cons,List.sum_nil,Nat.add_zero]
theorem sum_pre (ps : List (List UInt8)) (i : Nat) : ((ps.take i).map List.length).sum ≤ (ps.map List.length).sum:=by
  conv=>rhs; rw [← List.take_append_drop i ps,List.map_append,List.sum_append]
  omega
theorem jn_drop (sep : List UInt8) : ∀ (l : List (List UInt8)) (h : 0 < l.length),jn sep l = l[0] ++ (l.drop 1).flatMap (fun s=>sep ++ s)
  | [],h=>by simp at h
  | a :: r,h=>by rw [jn_cons]; rfl
theorem jn_len (sep : List UInt8) : ∀ ps : List (List UInt8),ps ≠ [] → (jn sep ps).length = (ps.map List.length).sum + sep.length * (ps.length - 1)
  | [],h=>absurd rfl h
  | [a],_=>by simp [jn]
  | a :: b :: r,_=>by
    rw [jn,List.length_append,List.length_append,jn_len sep (b :: r) (by simp)]
    simp only [List.map_cons,List.sum_cons,List.length_cons]
    rw [show r.length + 1 + 1 - 1 = (r.length + 1 - 1) + 1 by omega,Nat.mul_add]
    omega
theorem join_spec {h : Heap} {x : Sl} {ps : List (List UInt8)} {sep : List UInt8} {Q : ByteArray → Heap → Prop} (S : SsAt h x ps) (hs1 : 1 ≤ sep.length) (hs : sep.length ≤ 16) (hp : ps.length ≤ 1099511627776) (hm : (jn sep ps).length ≤ 70368744177664)
    (H : ∀ h',Ext h h' → Q (bs (jn sep ps)) h') : (strings_Join x (bs sep)).wp h Q:=by
  unfold strings_Join
  rw [S.1]
  match hps : ps with
  | []=>exact iteT rfl (pure_w (H _ (Ext.refl _)))
  | [a] =>
    obtain ⟨b,hb,hcell'⟩:=S.get (i:=0) (by simp)
    exact iteF rfl (iteT rfl (ixL_b (by decide) (by rw [S.1]; simp) hb (ldS_b (n:=bs a) hcell' (pure_w (H _ (Ext.refl _))))))
  | a :: b0 :: r0 =>
    rw [← hps] at S hp hm H ⊢
    have hne : ps ≠ []:=by rw [hps]; simp
    have hl2 : 2 ≤ ps.length:=by rw [hps]; simp
    have hjl:=jn_len sep ps hne
    rw [bs_size]
    refine iteF (by rw [beq_eq_false_iff_ne]; omega) (iteF (by rw [beq_eq_false_iff_ne]; omega) (iteT (by simp; omega) ?_))
    have hw1 : IntKind.wrap .i64 ((ps.length : Int) - 1) = ((ps.length - 1 : Nat) : Int):=by rw [w64 (by omega) (by omega)]; omega
    rw [hw1]
    refine ⟨IntKind.wrap .i64 ((9223372036854775807 : Int).tdiv ((ps.length - 1 : Nat) : Int)),⟨by omega,rfl⟩,?_⟩
    have hq : (sep.length : Int) < IntKind.wrap .i64 ((9223372036854775807 : Int).tdiv ((ps.length - 1 : Nat) : Int)):=by
      rw [Int.tdiv_eq_ediv_of_nonneg (by decide)]
      have h1 : (17 : Int) ≤ 9223372036854775807 / ((ps.length - 1 : Nat) : Int):=by
        rw [Int.le_ediv_iff_mul_le (by omega)]; omega
      have h2 : 9223372036854775807 / ((ps.length - 1 : Nat) : Int) ≤ 9223372036854775807:=Int.ediv_le_self _ (by decide)
      rw [w64 (by omega) (by omega)]; omega
    have hsm : sep.length * (ps.length - 1) ≤ 70368744177664:=by omega
    have hcast : (sep.length : Int) * ((ps.length - 1 : Nat) : Int) = ((sep.length * (ps.length - 1) : Nat) : Int):=by simp
    refine iteF (by simp; omega) ?_
    unfold strings_Join_j1
    rw [hcast,w64n (n:=sep.length * (ps.length - 1)) (by omega),Int.zero_add,w64n (n:=sep.length * (ps.length - 1)) (by omega)]
    refine M.loop_inv (fun (t : Int × Int) h'=>h' = h ∧ ∃ i : Nat,t.2 = (i : Int) ∧ i ≤ ps.length ∧ t.1 = ((sep.length * (ps.length - 1) + ((ps.take i).map List.length).sum : Nat) : Int)) (fun t _=>((ps.length : Int) - t.2).toNat) ?_ ⟨rfl,0,rfl,Nat.zero_le _,by simp⟩
    rintro ⟨m,t⟩ h' ⟨rfl,i,ht,hi,hmm⟩ self hself
    have ht : t = (i : Int):=ht
    have hmm : m = _:=hmm
    subst ht; subst hmm
    unfold strings_Join_l1
    rw [S.1]
    have hpi:=sum_pre ps i
    refine ite_w (fun hc=>?_) (fun hc=>?_)
    · have hlt : i < ps.length:=by have:=of_decide_eq_true hc; omega
      have hpj:=sum_pre ps (i + 1)
      rw [sum_take hlt] at hpj
      obtain ⟨b,hb,hcell'⟩:=S.get hlt
      refine ixL_b (by omega) (by rw [S.1]; omega) hb (ldS_b (n:=bs ps[i]) (by rw [show (i : Int).toNat * 1 = i by omega]; exact hcell') ?_)
      rw [bs_size]
      refine iteF (by rw [w64 (by omega) (by omega),decide_eq_false_iff_not]; omega) ?_
      refine hself (_,_) _ ⟨rfl,i + 1,by dsimp only; rw [w64 (by omega) (by omega)]; simp,by omega,?_⟩ (by dsimp only; rw [w64 (by omega) (by omega)]; omega)
      dsimp only
      rw [w64 (by omega) (by omega),sum_take hlt]; omega
    · have hge : i = ps.length:=by have:=of_decide_eq_false hc; omega
      subst hge
      rw [List.take_length]
      refine mkV_b (fun h1 e1 z1 g1=>?_)
      have B1:=Bld.new (Nat.le_refl _) g1
      refine bind_w (bgrow_spec B1 (by omega) (by omega) (by omega) (fun h2 r2 B2 K2=>?_))
      have E2:=K2.ext e1 B1 (Nat.le_refl _)
      obtain ⟨b,hb,hcell'⟩:=(S.ext E2).get (i:=0) (by omega)
      have h0l:=sum_pre ps 1
      rw [sum_take (i:=0) (by omega)] at h0l
      refine ixL_b (by decide) (by rw [S.1]; omega) hb (ldS_b (n:=bs ps[0]) hcell' ?_)
      refine bind_w (wstr_spec B2 E2.size (by rw [List.length_nil]; omega) (fun h3 r3 n3 B3 K3=>?_))
      have E3:=K3.ext E2 B2 (Nat.le_refl _)
      have hcap:=S.2.1
      have hSl:=S.1
      refine slL_b (by decide) (by omega) (by omega) ?_
      have hx : (⟨if x.cap = (1 : Int).toNat then x.base else x.base.map (fun a=>a.add ((1 : Int).toNat * 1)),(ps.length : Int).toNat - (1 : Int).toNat,x.cap - (1 : Int).toNat⟩ : Sl) = ⟨some (b.add 1),ps.length - 1,x.cap - 1⟩:=by
        have hl:=S.1
        rw [if_neg (show ¬ x.cap = (1 : Int).toNat by have : (1 : Int).toNat = 1:=rfl; omega),hb]
        rfl
      rw [hx]
      have hj0 : jn sep ps = ps[0] ++ (ps.drop 1).flatMap (fun s=>sep ++ s):=jn_drop sep ps (by omega)
      have hpre : ∀ k,(ps[0] ++ ((ps.drop 1).take k).flatMap (fun s=>sep ++ s)).length ≤ (jn sep ps).length:=fun k=>by
        rw [hj0,List.length_append,List.length_append]
        conv=>rhs; rw [← List.take_append_drop k (ps.drop 1),List.flatMap_append,List.length_append]
        omega
      refine M.loop_inv (fun (t : Int) hx=>∃ k : Nat,t = (k : Int) ∧ k ≤ ps.length - 1 ∧ Ext h' hx ∧ ∃ r,Bld h'.size hx h'.size r (ps[0] ++ ((ps.drop 1).take k).flatMap (fun s=>sep ++ s))) (fun t _=>((ps.length : Int) - t).toNat) ?_ ⟨0,rfl,Nat.zero_le _,E3,r3,by simpa using B3⟩
      rintro t h4 ⟨k,rfl,hk,E4,r4,B4⟩ self2 hself2
      unfold strings_Join_l2
      dsimp only
      have hpk:=hpre k
      refine ite_w (fun hc=>?_) (fun hc=>?_)
      · have hlt : k < ps.length - 1:=by have:=of_decide_eq_true hc; omega
        have hlt' : 1 + k < ps.length:=by omega
        have hpk1:=hpre (k + 1)
        have htk : ((ps.drop 1).take (k + 1)).flatMap (fun s=>sep ++ s) = ((ps.drop 1).take k).flatMap (fun s=>sep ++ s) ++ (sep ++ ps[1 + k]):=by
          rw [List.take_succ_eq_append_getElem (by simpa using hlt),List.flatMap_append]
          simp only [List.getElem_drop,List.flatMap_cons,List.flatMap_nil,List.append_nil]
        rw [htk,← List.append_assoc,← List.append_assoc,List.length_append,List.length_append] at hpk1
        obtain ⟨b',hb',hcell2⟩:=(S.ext E4).get hlt'
        rw [hb] at hb'
        cases hb'
        refine ixL_b (by omega) (by dsimp only; omega) rfl (ldS_b (n:=bs ps[1 + k]) (by rw [Addr.add_add,show 1 + (k : Int).toNat * 1 = 1 + k by omega]; exact hcell2) ?_)
        refine bind_w (wstr_spec B4 E4.size (by omega) (fun h5 r5 n5 B5 K5=>?_))
        have E5:=K5.ext E4 B4 (Nat.le_refl _)
        refine bind_w (wstr_spec B5 E5.size (by rw [List.length_append]; omega) (fun h6 r6 n6 B6 K6=>?_))
        have E6:=K6.ext E5 B5 (Nat.le_refl _)
        rw [w64 (by omega) (by omega)]
        refine hself2 _ _ ⟨k + 1,by simp,by omega,E6,r6,?_⟩ (by omega)
        rw [htk,← List.append_assoc,← List.append_assoc]
        exact B6
      · have hge : k = ps.length - 1:=by have:=of_decide_eq_false hc; omega
        subst hge
        rw [List.take_of_length_le (by simp),← hj0] at B4
        refine bind_w (bstr_spec B4 (by omega) (fun h5 K5 _=>pure_w (H _ (K5.ext E4 B4 (Nat.le_refl _)))))
end Gx
