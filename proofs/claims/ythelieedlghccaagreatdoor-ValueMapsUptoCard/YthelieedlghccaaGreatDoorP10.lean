/- Own proofs: what those Lean programs compute. No condition. -/
import Derived.Test.YthelieedlghccaaGreatDoorP0
import Derived.Test.YthelieedlghccaaGreatDoorP1
import Derived.Test.YthelieedlghccaaGreatDoorP2
import Derived.Test.YthelieedlghccaaGreatDoorP3
import Derived.Test.YthelieedlghccaaGreatDoorP4
import Derived.Test.YthelieedlghccaaGreatDoorP5
import Derived.Test.YthelieedlghccaaGreatDoorP6
import Derived.Test.YthelieedlghccaaGreatDoorP7
import Derived.Test.YthelieedlghccaaGreatDoorP8
import Derived.Test.YthelieedlghccaaGreatDoorP9
import Derived.WalkKit
import Derived.ProofKit
import Derived.OpenShut
import Derived.ShutString
import Derived.ChangeOld
import Derived.Below
import Derived.SizedLaws
import Derived.Lib.SmallJoins
set_option linter.unusedVariables false
set_option linter.unusedSimpArgs false
namespace Gx
open Go
set_option linter.unusedVariables false
set_option linter.unusedSimpArgs false
def shw (ev od : List UInt8) : List (List UInt8) → List UInt8
  | []=>[]
  | [a]=>a
  | a :: b :: r=>a ++ (ev ++ shw od ev (b :: r))
def prs : List (List UInt8) → List (List UInt8)
  | []=>[]
  | [a]=>[a]
  | a :: b :: r=>(a ++ ([58,32] ++ b)) :: prs r
theorem jn_shw (sep : List UInt8) : ∀ l,jn sep l = shw sep sep l
  | []=>rfl
  | [a]=>rfl
  | a :: b :: r=>by rw [jn,shw,jn_shw sep (b :: r)]
theorem jn_prs : ∀ l : List (List UInt8),jn [44,32] (prs l) = shw [58,32] [44,32] l
  | []=>rfl
  | [a]=>rfl
  | [a,b]=>by simp [prs,jn,shw]
  | a :: b :: c :: r=>by
    have ih:=jn_prs (c :: r)
    rw [prs,jn_cons]
    rw [shw,shw,← ih]
    match hp : prs (c :: r) with
    | []=>cases r <;> simp [prs] at hp
    | p :: ps=>rw [jn_cons,List.flatMap_cons]; simp
theorem prs_even : ∀ (l : List (List UInt8)) (a : List UInt8),l.length % 2 = 0 → prs (l ++ [a]) = prs l ++ [a]
  | [],a,_=>rfl
  | [x],a,h=>by simp at h
  | x :: y :: r,a,h=>by
    rw [List.cons_append,List.cons_append,prs,prs,prs_even r a (by simp at h; omega)]; rfl
theorem prs_odd : ∀ (l : List (List UInt8)) (a b : List UInt8),l.length % 2 = 0 → prs (l ++ [a,b]) = prs l ++ [a ++ ([58,32] ++ b)]
  | [],a,b,_=>rfl
  | [x],a,b,h=>by simp at h
  | x :: y :: r,a,b,h=>by
    rw [List.cons_append,List.cons_append,prs,prs,prs_odd r a b (by simp at h; omega)]; rfl
theorem prs_len : ∀ l : List (List UInt8),(prs l).length ≤ l.length
  | []=>by simp [prs]
  | [a]=>by simp [prs]
  | a :: b :: r=>by have:=prs_len r; simp [prs]; omega
theorem shw_len : ∀ (ev od : List UInt8) (l : List (List UInt8)),(l.map List.length).sum ≤ (shw ev od l).length
  | _,_,[]=>by simp [shw]
  | _,_,[a]=>by simp [shw]
  | ev,od,a :: b :: r=>by
    have:=shw_len od ev (b :: r)
    rw [shw,List.length_append,List.length_append,List.map_cons,List.sum_cons]
    omega
theorem sum_mem {l : List (List UInt8)} {a : List UInt8} (h : a ∈ l) : a.length ≤ (l.map List.length).sum:=by
  induction l with
  | nil=>cases h
  | cons x l ih =>
    rw [List.map_cons,List.sum_cons]
    rcases List.mem_cons.1 h with rfl | h
    · omega
    · have:=ih h; omega
theorem sum_pos {l : List (List UInt8)} (h : ∀ a ∈ l,1 ≤ a.length) : l.length ≤ (l.map List.length).sum:=by
  induction l with
  | nil=>simp
  | cons x l ih =>
    rw [List.map_cons,List.sum_cons,List.length_cons]
    have:=ih (fun a ha=>h a (List.mem_cons_of_mem _ ha))
    have:=h x (by simp)
    omega
def txt : Nat → Vl → List UInt8
  | 0,_=>[63]
  | d + 1,.mk k n s l =>
    if k = 1 then Lib.itoa n else if k = 2 then quoteB s else if k = 3 then (if n = 1 then [116,114,117,101] else [102,97,108,115,101])
    else if k = 6 then [118,91] ++ Lib.itoa n ++ [93] else if k = 7 then [101,91] ++ Lib.itoa n ++ [93]
    else if k = 4 then [91] ++ shw [44,32] [44,32] (l.map (txt d)) ++ [93] else if k = 5 then [123] ++ shw [58,32] [44,32] (l.map (txt d)) ++ [125] else [63]
theorem itoa_pos (n : Int) : 1 ≤ (Lib.itoa n).length:=by
  have : ∀ u,1 ≤ (Lib.decDigits u).length:=fun u=>by unfold Lib.decDigits; split <;> simp
  unfold Lib.itoa
  split
  · simp
  · exact this _
theorem txt_pos : ∀ (d : Nat) (v : Vl),1 ≤ (txt d v).length
  | 0,_=>by simp [txt]
  | d + 1,.mk k n s l=>by
    unfold txt
    repeat' split
    all_goals first | exact itoa_pos n | (simp [quoteB]; done) | (simp; omega)
theorem Gw.set {lo : Nat} {h : Heap} {r : Sl} {vs : List Value} {b j : Nat} {v : Value} (H : Gw lo h r 1 vs) (hb : r.base = some ⟨b,0,none⟩) (hj : j < vs.length) : Gw lo (hset h ⟨b,j,none⟩ v) r 1 (vs.set j v):=by
  rcases H with ⟨rfl,rfl⟩ | ⟨g,ty,cells,H⟩
  · cases hb
  · rw [H.base] at hb
    cases hb
    refine .inr ⟨b,ty,_,H.base,H.lo,hset_at H.blk,by rw [Array.size_setIfInBounds]; exact H.size,H.cap,by rw [List.length_set]; exact H.len,fun i x hx=>?_⟩
    rw [List.getElem?_set] at hx
    rw [Array.getElem?_setIfInBounds]
    split at hx
    · rename_i hi
      subst hi
      cases hx
      have hc:=H.len
      have:=H.size
      have hcap:=H.cap
      rw [if_pos rfl,if_pos (by omega)]
    · rename_i hi
      rw [if_neg hi]
      exact H.get i x hx
theorem ixS2 {β : Type} {lo : Nat} {h : Heap} {Q : β → Heap → Prop} {r : Sl} {ps : List (List UInt8)} {i : Nat} {t : Int} {f : Addr → M β} (G : Gw lo h r 1 (ps.map sv)) (hi : i < ps.length) (ht : t = (i : Int))
    (H : ∀ b,r.base = some ⟨b,0,none⟩ → hcell h ⟨b,i,none⟩ = some (.string (bs ps[i])) → hfrozen h ⟨b,i,none⟩ = false → (f ⟨b,i,none⟩).wp h Q) : (ixL r t 1 >>= f).wp h Q:=by
  subst ht
  have hl:=G.len
  simp at hl
  obtain ⟨b,hb,hc⟩:=G.cell (j:=i) (v:=sv ps[i]) (by simp [hi])
  refine ixL_b (by omega) (by omega) hb ?_
  rw [add_mk,show 0 + (i : Int).toNat * 1 = i by omega]
  refine H b hb hc ?_
  rcases G with ⟨rfl,_⟩ | ⟨g,ty,cells,R⟩
  · cases hb
  · rw [R.base] at hb; cases hb
    exact hfrozen_blk R.blk
theorem lit_b {β : Type} {h : Heap} {Q : β → Heap → Prop} {a c : List UInt8} {x : List UInt8} {f : ByteArray → M β} (hm : a.length + x.length + c.length ≤ 9223372036854775807) (H : (f (bs (a ++ x ++ c))).wp h Q) : (sCat (bs a) (bs x) >>= fun y=>sCat y (bs c) >>= f).wp h Q :=
  sCat_b (by omega) (sCat_b (by simp only [List.length_append]; omega) H)
def prt (k : Int) (l : List (List UInt8)) : List (List UInt8):=if k = 5 then prs l else l
theorem vtext_spec : ∀ (d : Nat) (v : Vl) {h : Heap} {Q : ByteArray → Heap → Prop} {x : Array Value},d ≤ 8 → VRep h v x → PowTab h → DbTab h → (txt d v).length ≤ 1099511627776 → (∀ h',Ext h h' → Q (bs (txt d v)) h') → (value_text x ((9 - d : Nat) : Int)).wp h Q:=by
  intro d
  induction d with
  | zero =>
    rintro v h Q x _ hx _ _ _ H
    unfold value_text
    exact mkV_b (fun h1 e1 z1 g1=>iteT rfl (pure_w (H _ e1)))
  | succ d ih =>
    rintro ⟨k,n,s,l⟩ h Q x hd hx hp hdb hm H
    obtain ⟨xs,rfl,k1,n1,s1,r1⟩:=VRep.eq.1 hx
    unfold value_text
    refine mkV_b (fun h1 E z1 g1=>?_)
    have c0 : hcell h1 ((⟨h.size,0,none⟩ : Addr).add 0) = some (.int .i64 k):=by rw [blk_cell g1]; rfl
    have c1 : hcell h1 ((⟨h.size,0,none⟩ : Addr).add 1) = some (.int .i64 n):=by rw [blk_cell g1]; rfl
    have c2 : hcell h1 ((⟨h.size,0,none⟩ : Addr).add 2) = some (.string (bs s)):=by rw [blk_cell g1]; rfl
    have c3 : hcell h1 ((⟨h.size,0,none⟩ : Addr).add 3) = some xs.v:=by rw [blk_cell g1]; rfl
    have hpE:=hp.ext E
    have hdE:=hdb.ext E
    have hil:=itoa_len n1
    refine iteF (by simp; omega) (ldI_b c0 (ite_w (fun h1k=>?_) (fun h1k=>?_)))
    · have h1k : k = 1:=by simpa using h1k
      unfold txt at H
      rw [if_pos h1k] at H
      exact ldI_b c1 (bind_w (ntext_spec n1 hpE (fun h2 e2=>pure_w (H _ (E.trans e2)))))
    have h1k : ¬ k = 1:=by simpa using h1k
    unfold txt at H hm
    rw [if_neg h1k] at H hm
    refine ite_w (fun h2k=>?_) (fun h2k=>?_)
    · have h2k : k = 2:=by simpa using h2k
      rw [if_pos h2k] at H hm
      exact ldS_b c2 (bind_w (vquote_spec (by omega) hdE (fun h2 e2=>pure_w (H _ (E.trans e2)))))
    have h2k : ¬ k = 2:=by simpa using h2k
    rw [if_neg h2k] at H hm
    refine ite_w (fun h3k=>?_) (fun h3k=>?_)
    · have h3k : k = 3:=by simpa using h3k
      rw [if_pos h3k] at H
      refine ldI_b c1 (ite_w (fun hn=>?_) (fun hn=>?_))
      · have hn : n = 1:=by simpa using hn
        rw [if_pos hn] at H
        exact pure_w (H _ E)
      · have hn : ¬ n = 1:=by simpa using hn
        rw [if_neg hn] at H
        exact pure_w (H _ E)
    have h3k : ¬ k = 3:=by simpa using h3k
    rw [if_neg h3k] at H hm
    refine ite_w (fun h6k=>?_) (fun h6k=>?_)
    · have h6k : k = 6:=by simpa using h6k
      rw [if_pos h6k] at H
      exact ldI_b c1 (bind_w (ntext_spec n1 hpE (fun h2 e2=>lit_b (a:=[118,91]) (c:=[93]) (by simp; omega) (pure_w (H _ (E.trans e2))))))
    have h6k : ¬ k = 6:=by simpa using h6k
    rw [if_neg h6k] at H hm
    refine ite_w (fun h7k=>?_) (fun h7k=>?_)
    · have h7k : k = 7:=by simpa using h7k
      rw [if_pos h7k] at H
      exact ldI_b c1 (bind_w (ntext_spec n1 hpE (fun h2 e2=>lit_b (a:=[101,91]) (c:=[93]) (by simp; omega) (pure_w (H _ (E.trans e2))))))
    have h7k : ¬ k = 7:=by simpa using h7k
    rw [if_neg h7k] at H hm
    have j1 : (value_text_j1 ((9 - (d + 1) : Nat) : Int) ⟨h.size,0,none⟩ (decide (k = 4 ∨ k = 5))).wp h1 Q:=by
      unfold value_text_j1
      refine ite_w (fun h45=>?_) (fun h45=>?_)
      · have h45 : k = 4 ∨ k = 5:=by simpa using h45
        -- one form of what is told
        have hform : ∃ a c,(∀ h',Ext h h' → Q (bs (a ++ jn [44,32] (prt k (l.map (txt d))) ++ c)) h') ∧ a.length = 1 ∧ c.length = 1 ∧ (jn [44,32] (prt k (l.map (txt d)))).length ≤ 1099511627776 ∧ ((l.map (txt d)).map List.length).sum ≤ 1099511627776 ∧ (k = 5 → a = [123] ∧ c = [125]) ∧ (¬ k = 5 → a = [91] ∧ c = [93]):=by
          rcases h45 with h4 | h5
          · rw [if_pos h4] at H hm
            have h5 : ¬ k = 5:=by omega
            have hs:=shw_len [44,32] [44,32] (l.map (txt d))
            simp only [List.length_append,List.length_cons,List.length_nil] at hm
            refine ⟨[91],[93],?_,rfl,rfl,?_,by omega,fun h=>absurd h h5,fun _=>⟨rfl,rfl⟩⟩
            · unfold prt; rw [if_neg h5,jn_shw]; exact H
            · unfold prt; rw [if_neg h5,jn_shw]; omega
          · have h4 : ¬ k = 4:=by omega
            rw [if_neg h4,if_pos h5] at H hm
            have hs:=shw_len [58,32] [44,32] (l.map (txt d))
            simp only [List.length_append,List.length_cons,List.length_nil] at hm
            refine ⟨[123],[125],?_,rfl,rfl,?_,by omega,fun _=>⟨rfl,rfl⟩,fun h=>absurd h5 h⟩
            · unfold prt; rw [if_pos h5,jn_prs]; exact H
            · unfold prt; rw [if_pos h5,jn_prs]; omega
        obtain ⟨a,c,HQ,ha,hc,hjm,hsum,h5a,h5b⟩:=hform
        have hcnt : l.length ≤ 1099511627776:=by
          have:=sum_pos (l:=l.map (txt d)) (fun a ha=>by obtain ⟨y,_,rfl⟩:=List.mem_map.1 ha; exact txt_pos d y)
          rw [List.length_map] at this
          omega
        have hel : ∀ i (hi : i < l.length),(txt d l[i]).length ≤ 1099511627776:=fun i hi=>by
          have:=sum_mem (l:=l.map (txt d)) (a:=txt d l[i]) (List.mem_map.2 ⟨_,List.getElem_mem hi,rfl⟩)
          omega
        refine ldL_b c3 ?_
        have hxl:=r1.len
        refine M.loop_inv (fun (t : Sl × Int) h2=>∃ i : Nat,t.2 = (i : Int) ∧ i ≤ l.length ∧ Ext h1 h2 ∧ Gw h1.size h2 t.1 1 ((prt k ((l.take i).map (txt d))).map sv)) (fun t _=>((l.length : Int) - t.2).toNat) ?_ ⟨0,rfl,Nat.zero_le _,Ext.refl _,by rw [show prt k (((l.take 0).map (txt d))) = [] by unfold prt; split <;> simp [prs]]; exact Gw.nil _ _ _⟩
        rintro ⟨r,t⟩ h2 ⟨i,hti,hi,E2,G⟩ self hself
        have hti : t = (i : Int):=hti
        subst hti
        have G : Gw h1.size h2 r 1 ((prt k ((l.take i).map (txt d))).map sv):=G
        unfold value_text_l1
        rw [hxl]
        have hrl:=G.len
        rw [List.length_map,Nat.mul_one] at hrl
        have hrl2 : r.len ≤ i:=by
          have : (prt k ((l.take i).map (txt d))).length ≤ i:=by
            unfold prt
            split
            · have:=prs_len ((l.take i).map (txt d)); rw [List.length_map,List.length_take] at this; omega
            · rw [List.length_map,List.length_take]; omega
          omega
        refine ite_w (fun hlt=>?_) (fun hge=>?_)
        · have hlt : i < l.length:=by have:=of_decide_eq_true hlt; omega
          refine ixV_b (r1.ext (E.trans E2)) hlt rfl (fun b cs hs hcs hv=>ldG_b hs hcs (mkV_b (fun h3 e3 z3 g3=>need_b hs (stR (vs:=cs) g3 (by rw [hs]; decide) hv.one (fun h4 u4 g4=>?_)))))
          rw [lay_full (by rw [Array.length_toList,hs]; rfl),Array.toArray_toList] at g4
          have E4 : Ext h2 h4:=e3.upd u4 (Nat.le_refl _)
          refine ldV_b (v:=l[i]) g4 hs ?_
          rw [show IntKind.wrap .i64 (((9 - (d + 1) : Nat) : Int) + 1) = ((9 - d : Nat) : Int) by rw [w64 (by omega) (by omega)]; omega]
          have E24:=E2.trans E4
          refine bind_w (callF_w (S_value_text _ _) (ih l[i] (by omega) (hv.ext E4) (hpE.ext E24) (hdE.ext E24) (hel i hlt) (fun h5 e5=>?_)))
          have E5:=E24.trans e5
          refine ldI_b (E5.cell c0) ?_
          have hr5 : IntKind.wrap .i64 ((i : Int) + 1) = ((i + 1 : Nat) : Int):=by rw [w64 (by omega) (by omega)]; simp
          have G5:=G.ext (E4.trans e5)
          have htk : (l.take (i + 1)).map (txt d) = (l.take i).map (txt d) ++ [txt d l[i]]:=by
            rw [List.take_succ_eq_append_getElem hlt,List.map_append]; rfl
          refine and_b (c:=decide (i % 2 = 1)) (fun _ Q' hq=>pure_w (by rw [show ((Int.tmod (i : Int) 2) == 1) = decide (i % 2 = 1) by rw [Int.tmod_eq_emod_of_nonneg (by omega),Bool.eq_iff_iff]; simp; omega]; exact hq)) ?_
          refine ite_w (fun hodd=>?_) (fun heven=>?_)
          · obtain ⟨h5k,hodd⟩ : k = 5 ∧ i % 2 = 1:=by simpa using hodd
            obtain ⟨i',rfl⟩ : ∃ i',i = i' + 1:=⟨i - 1,by omega⟩
            have hti' : (l.take (i' + 1)).map (txt d) = (l.take i').map (txt d) ++ [txt d l[i']]:=by
              rw [List.take_succ_eq_append_getElem (by omega),List.map_append]; rfl
            have hlen' : ((l.take i').map (txt d)).length % 2 = 0:=by simp; omega
            have hp1 : prt k ((l.take (i' + 1)).map (txt d)) = prs ((l.take i').map (txt d)) ++ [txt d l[i']]:=by
              unfold prt; rw [if_pos h5k,hti',prs_even _ _ hlen']
            have hp2 : prt k ((l.take (i' + 1 + 1)).map (txt d)) = prs ((l.take i').map (txt d)) ++ [txt d l[i'] ++ ([58,32] ++ txt d l[i' + 1])]:=by
              unfold prt; rw [if_pos h5k,htk,hti',List.append_assoc]; exact prs_odd _ _ _ hlen'
            rw [hp1] at G5 hrl
            have hlast : r.len = (prs ((l.take i').map (txt d))).length + 1:=by rw [← G5.len.trans (Nat.mul_one _)]; simp
            have hidx : IntKind.wrap .i64 ((r.len : Int) - 1) = (((prs ((l.take i').map (txt d))).length : Nat) : Int):=by rw [w64 (by omega) (by omega)]; omega
            rw [hidx]
            have hle0:=hel i' (by omega)
            have hle1:=hel (i' + 1) hlt
            refine ixS2 (i:=(prs ((l.take i').map (txt d))).length) G5 (by simp) rfl (fun b' hb' hc' hf'=>ldS_b hc' ?_)
            have hget : (prs ((l.take i').map (txt d)) ++ [txt d l[i']])[(prs ((l.take i').map (txt d))).length]'(by simp) = txt d l[i']:=by simp
            rw [hget] at hc' ⊢
            refine sCat_b (x:=[58,32]) (by simp; omega) (sCat_b (by simp; omega) ?_)
            refine ixS2 (i:=(prs ((l.take i').map (txt d))).length) G5 (by simp) rfl (fun b2 hb2 hc2 hf2=>stV_b hc2 hf2 rfl ?_)
            rw [hb2] at hb'
            cases hb'
            unfold value_text_j2
            rw [hr5]
            refine hself (_,_) _ ⟨i' + 1 + 1,rfl,by omega,?_,?_⟩ (by dsimp only; omega)
            · have hb3 : h1.size ≤ b':=(G5.lt ⟨_,hb2,rfl⟩).2
              exact ⟨by rw [hset_size]; exact E5.size,fun j hj=>by rw [hset_ne (by show j ≠ b'; omega)]; exact E5.same j hj⟩
            · have:=G5.set (v:=sv (txt d l[i'] ++ ([58,32] ++ txt d l[i' + 1]))) (j:=(prs ((l.take i').map (txt d))).length) hb2 (by simp)
              dsimp only
              rw [hp2]
              rw [List.map_append,List.set_append_right _ _ (by simp)] at this
              simpa [sv] using this
          · have heven : ¬ (k = 5 ∧ i % 2 = 1):=by simpa using heven
            have hp2 : prt k ((l.take (i + 1)).map (txt d)) = prt k ((l.take i).map (txt d)) ++ [txt d l[i]]:=by
              unfold prt
              by_cases h5k : k = 5
              · rw [if_pos h5k,if_pos h5k,htk,prs_even _ _ (by simp; omega)]
              · rw [if_neg h5k,if_neg h5k,htk]
            refine bdL_b ?_
            have e6:=Ext.push h5 (.cells #[.string (bs (txt d l[i]))] ty_string)
            have g6 : (h5.push (.cells #[.string (bs (txt d l[i]))] ty_string))[h5.size]? = some (.cells #[.string (bs (txt d l[i]))] ty_string (0,0)):=get_push_eq
            generalize h5.push (.cells #[.string (bs (txt d l[i]))] ty_string) = h6 at e6 g6 ⊢
            have E6:=E5.trans e6
            have G6:=G5.ext e6
            refine ap_grow (vs:=(prt k ((l.take i).map (txt d))).map sv) (news:=[sv (txt d l[i])]) rfl G6 rfl (.inr ⟨_,rfl,fun j v hj=>?_⟩) (fun v hv=>by simp at hv; subst hv; rfl) (by dsimp only; omega) (by dsimp only; omega) E6.size (fun h7 r7 G7 hlen7 hs7 same7 on7=>?_)
            · rw [add_mk,Nat.zero_add,hcell_blk g6]
              rw [show (#[.string (bs (txt d l[i]))] : Array Value) = [sv (txt d l[i])].toArray from rfl]
              simpa using hj
            · unfold value_text_j2
              rw [hr5]
              refine hself (_,_) _ ⟨i + 1,rfl,by omega,?_,?_⟩ (by dsimp only; omega)
              · exact ⟨Nat.le_trans E6.size hs7,fun j hj=>(same7 j (Nat.lt_of_lt_of_le hj E6.size) (fun ho=>by have:=(G6.lt ho).2; omega)).trans (E6.same j hj)⟩
              · dsimp only
                rw [hp2,List.map_append]
                exact G7
        · have hge : i = l.length:=by have:=of_decide_eq_false hge; omega
          subst hge
          rw [List.take_length] at G
          have S : SsAt h2 r (prt k (l.map (txt d))):=⟨by have:=G.len; rw [List.length_map,Nat.mul_one] at this; exact this.symm,G.cap,G.reads⟩
          have hpl : (prt k (l.map (txt d))).length ≤ l.length:=by
            unfold prt
            split
            · have:=prs_len (l.map (txt d)); simp at this; exact this
            · simp
          refine bind_w (join_spec (sep:=[44,32]) S (by simp) (by simp) (by omega) (by omega) (fun h3 e3=>?_))
          refine ldI_b ((E2.trans e3).cell c0) (ite_w (fun h5k=>?_) (fun h5k=>?_))
          · have h5k : k = 5:=by simpa using h5k
            obtain ⟨rfl,rfl⟩:=h5a h5k
            exact lit_b (a:=[123]) (c:=[125]) (by simp; omega) (pure_w (HQ _ ((E.trans E2).trans e3)))
          · have h5k : ¬ k = 5:=by simpa using h5k
            obtain ⟨rfl,rfl⟩:=h5b h5k
            exact lit_b (a:=[91]) (c:=[93]) (by simp; omega) (pure_w (HQ _ ((E.trans E2).trans e3)))
      · have h45 : ¬ (k = 4 ∨ k = 5):=by simpa using h45
        rw [if_neg (fun h=>h45 (.inl h)),if_neg (fun h=>h45 (.inr h))] at H
        exact pure_w (H _ E)
    refine ite_w (fun h4k=>?_) (fun h4k=>?_)
    · have h4k : k = 4:=by simpa using h4k
      have e : (k == 4) = decide (k = 4 ∨ k = 5):=by subst h4k; rfl
      rw [e]
      exact j1
    · have h4k : ¬ k = 4:=by simpa using h4k
      have e : (k == 5) = decide (k = 4 ∨ k = 5):=by rw [eqI,Bool.eq_iff_iff]; simp [h4k]
      rw [e]
      exact j1
end Gx
namespace Gx
open Go
set_option linter.unusedVariables false
set_option linter.unusedSimpArgs false
abbrev txV (v : Vl) : List UInt8:=txt 8 v
theorem vText_spec {v : Vl} {h : Heap} {Q : ByteArray → Heap → Prop} {x : Array Value} (hx : VRep h v x) (hp : PowTab h) (hd : DbTab h) (hm : (txV v).length ≤ 1099511627776) (H : ∀ h',Ext h h' → Q (bs (txV v)) h') : (value_Text x).wp h Q:=by
  unfold value_Text
  exact mkV_b (fun h1 e1 z1 g1=>ldV_b (v:=v) g1 hx.size (bind_w (vtext_spec 8 v (Nat.le_refl _) (hx.ext e1) (hp.ext e1) (hd.ext e1) hm (fun h2 e2=>pure_w (H _ (e1.trans e2))))))
end Gx
namespace Gx
open Go Go.Proofs Go.Shelf Go.RowKit Go.Lib
set_option linter.unusedVariables false
set_option linter.unusedSimpArgs false
set_option maxRecDepth 100000
def b2txt : List UInt8:=[123,39,97,39,58,32,116,114,117,101,44,32,39,98,39,58,32,49,125]
def vSa : Vl:=.mk 2 0 [97] []
def vSb : Vl:=.mk 2 0 [98] []
def vI1 : Vl:=.mk 1 1 [] []
def vTr : Vl:=.mk 3 1 [] []
def b2map : Vl:=.mk 5 0 [] [vSa,vTr,vSb,vI1]
theorem cmp_ab : cmpV vSa vSb < 0:=by
  rw [show vSa = .mk 2 0 [97] [] from rfl,show vSb = .mk 2 0 [98] [] from rfl,cmpV]
  decide
theorem b2may : mayV 8 b2map = true:=by
  have:=cmp_ab
  simp only [b2map,mayV,risesL]
  rw [decide_eq_true cmp_ab]
  decide
theorem b2text : txV b2map = b2txt:=by
  have h1 : Lib.itoa 1 = [49]:=by
    unfold Lib.itoa
    rw [if_neg (by decide),Lib.decDigits_one (by decide)]
    decide
  show txt 8 b2map = b2txt
  unfold b2map
  rw [txt]
  simp only [vSa,vTr,vSb,vI1,List.map_cons,List.map_nil,txt,h1]
  decide
theorem b2parse : readP b2txt = .ok b2map:=by
  rfl
theorem perm_two {α : Type} {ps : List α} {p q : α} (h : ps.Perm [p,q]) : ps = [p,q] ∨ ps = [q,p]:=by
  have hl:=h.length_eq
  match ps,hl with
  | [x,y],_ =>
    have hx : x ∈ [p,q]:=h.mem_iff.1 (by simp)
    simp only [List.mem_cons,List.not_mem_nil,or_false] at hx
    rcases hx with rfl | rfl
    · have:=(List.perm_singleton.1 (List.Perm.cons_inv h))
      left; rw [this]
    · have h2 : [x,y].Perm [x,p]:=h.trans (List.Perm.swap _ _ _)
      have:=(List.perm_singleton.1 (List.Perm.cons_inv h2))
      right; rw [this]
theorem b2res {v : Vl} {e : Int} (h : MapRes [vSb,vI1,vSa,vTr] v e) : v = b2map ∧ e = 0:=by
  have hp : pairsL [vSb,vI1,vSa,vTr] ([vSb,vI1,vSa,vTr].length / 2) = [[vSb,vI1],[vSa,vTr]]:=rfl
  have key : ∀ ps : List (List Vl),ps.Perm (pairsL [vSb,vI1,vSa,vTr] ([vSb,vI1,vSa,vTr].length / 2)) → ps.Pairwise (fun p q=>¬ cmpV (kOf q) (kOf p) < 0) → ps = [[vSa,vTr],[vSb,vI1]]:=by
    intro ps hperm hs
    rw [hp] at hperm
    rcases perm_two hperm with rfl | rfl
    · exfalso
      rw [List.pairwise_cons] at hs
      exact hs.1 [vSa,vTr] (by simp) cmp_ab
    · rfl
  cases h with
  | odd h=>exact absurd h (by decide)
  | twice ps h1 h2 h3 h4 =>
    obtain rfl:=key ps h2 h3
    obtain ⟨i,hi,heq⟩:=h4
    have : i = 0:=by simp at hi; omega
    subst this
    exfalso
    have h5 : vSa = vSb:=heq
    have:=cmp_ab
    rw [h5,cmpV_self] at this
    omega
  | made ps h1 h2 h3 h4 =>
    obtain rfl:=key ps h2 h3
    have hf : ([[vSa,vTr],[vSb,vI1]] : List (List Vl)).flatten = [vSa,vTr,vSb,vI1]:=rfl
    rw [hf]
    have hm:=b2may
    unfold b2map at hm
    exact ⟨if_pos hm,by unfold checkV; rw [if_pos hm]⟩
def c16 : List (Array Value):=[vcells 2 0 [98] Sl.nil,vcells 1 1 [] Sl.nil,vcells 2 0 [97] Sl.nil,vcells 3 1 [] Sl.nil]
theorem begun02_spec {h : Heap} {Q : Bool → Heap → Prop} (hp : PowTab h) (hd : DbTab h) (he : ErrV h) (H : ∀ h',Ext h h' → Q true h') : (ramblelaw02_begun).wp h Q:=by
  unfold ramblelaw02_begun
  refine vstr_b (s:=[98]) (fun h1 e1=>vint_b (fun h2 e2=>vstr_b (s:=[97]) (fun h3 e3=>vbool_b (fun h4 e4=>?_))))
  have E4:=((e1.trans e2).trans e3).trans e4
  refine ⟨(flat4 c16).toArray,rfl,bdL_b ?_⟩
  have e5:=Ext.push h4 (.cells (flat4 c16).toArray ty_api_Value)
  have g5 : (h4.push (.cells (flat4 c16).toArray ty_api_Value))[h4.size]? = some (.cells (flat4 c16).toArray ty_api_Value (0,0)):=get_push_eq
  generalize h4.push (.cells (flat4 c16).toArray ty_api_Value) = h5 at e5 g5 ⊢
  have sc : ∀ {k n : Int} {t : List UInt8},I64 k → I64 n → t.length ≤ 1099511627776 → VRepS (fun _=>False) h5 (.mk k n t []) (vcells k n t Sl.nil):=fun hk hn ht=>scal_rep _ _ hk hn (by omega)
  have w4 : W4 c16:=fun c hc=>by
    simp only [c16,List.mem_cons,List.not_mem_nil,or_false] at hc
    rcases hc with rfl | rfl | rfl | rfl <;> exact ⟨rfl,vcells_one _ _ _ _⟩
  have V5 : VGw 0 (fun _=>False) h5 ⟨some ⟨h4.size,0,none⟩,4,4⟩ c16 [vSb,vI1,vSa,vTr]:=by
    refine ⟨.inr ⟨h4.size,ty_api_Value,(flat4 c16).toArray,rfl,Nat.zero_le _,g5,rfl,Nat.le_refl _,rfl,fun j v hj=>by rw [List.getElem?_toArray]; exact hj⟩,w4,rfl,fun j h1 h2=>?_⟩
    have hj : j < 4:=h1
    match j,hj with
    | 0,_=>exact sc ⟨by decide,by decide⟩ ⟨by decide,by decide⟩ (by decide)
    | 1,_=>exact sc ⟨by decide,by decide⟩ ⟨by decide,by decide⟩ (by decide)
    | 2,_=>exact sc ⟨by decide,by decide⟩ ⟨by decide,by decide⟩ (by decide)
    | 3,_=>exact sc ⟨by decide,by decide⟩ ⟨by decide,by decide⟩ (by decide)
  have E5:=E4.trans e5
  refine bind_w (vmap_spec (l:=[vSb,vI1,vSa,vTr]) (V5.rep_ (by decide)).to (sorts20 (by decide)) (by simp [wt.wts,wt,vSb,vI1,vSa,vTr]) (fun h6 c6 v6 ev hres e6 V6=>?_))
  obtain ⟨rfl,rfl⟩:=b2res hres
  refine mkV_b (fun h7 e7 s7 g7=>need_b V6.size (stR g7 (by rw [V6.size]; exact Nat.le_refl 4) V6.to.one (fun h8 u8 g8=>?_)))
  rw [lay_full (by rw [Array.length_toList,V6.size]; rfl)] at g8
  have e68 : Ext h6 h8:=e7.upd u8 (Nat.le_refl _)
  have E8:=(E5.trans e6).trans e68
  have V8 : VRep h8 b2map c6:=V6.to.ext e68
  have hP : parseP b2txt = (b2map,0,0):=by unfold parseP; rw [b2parse]; dsimp only; rw [if_pos b2may]
  refine bind_w (vparse_spec (s:=b2txt) (by decide) (he.ext E8) (fun h9 c9 e9 V9=>?_))
  rw [hP] at V9 ⊢
  refine mkV_b (fun h10 e10 s10 g10=>need_b V9.size (stR g10 (by rw [V9.size]; exact Nat.le_refl 4) V9.to.one (fun h11 u11 g11=>?_)))
  rw [lay_full (by rw [Array.length_toList,V9.size]; rfl)] at g11
  have e911 : Ext h9 h11:=e10.upd u11 (Nat.le_refl _)
  have E11:=(E8.trans e9).trans e911
  have g8':=(e9.trans e911).blk g8
  refine iteT_b rfl (ldR g8' V6.size (bind_w (vText_spec (V8.ext (e9.trans e911)) (hp.ext E11) (hd.ext E11) (by rw [b2text]; decide) (fun h12 e12=>pure_b ?_))))
  rw [b2text,show sEq (bs b2txt) (⟨#[123,39,97,39,58,32,116,114,117,101,44,32,39,98,39,58,32,49,125]⟩ : ByteArray) = true by
    show sEq (bs b2txt) (bs b2txt) = true
    rw [sEq_bs]
    exact decide_eq_true rfl]
  dsimp only
  refine iteT rfl (pure_w ?_)
  refine iteT_b rfl ?_
  refine pure_b ?_
  refine iteT_b rfl ?_
  have g8'':=e12.blk g8'
  have g11':=e12.blk g11
  refine assoc_b (ldR g8'' V6.size (assoc_b (ldR g11' V9.size (assoc_b (bind_w (rsame_spec ((V8.ext (e9.trans e911)).ext e12) ((V9.to.ext e911).ext e12) (fun h13 e13=>pure_b (pure_w ?_))))))))
  rw [show decide (cmpV b2map b2map = 0) = true from decide_eq_true (cmpV_self _)]
  exact H _ ((E11.trans e12).trans e13)
end Gx
namespace Gx
open Go Go.Proofs Go.Shelf Go.RowKit Go.Lib
set_option linter.unusedVariables false
set_option linter.unusedSimpArgs false
set_option maxRecDepth 100000
end Gx
namespace Gx
open Go Go.Proofs Go.Shelf Go.RowKit Go.Lib
set_option linter.unusedVariables false
set_option maxRecDepth 100000
theorem pRem_b {β : Type} {h : Heap} {Q : β → Heap → Prop} {x y : Int} {f : Int → M β} (h0 : y ≠ 0) (H : (f (x.tmod y)).wp h Q) : (pRem x y >>= f).wp h Q:=⟨_,⟨h0,rfl⟩,H⟩
theorem VGw.put {lo : Nat} {S : Nat → Prop} {h h' : Heap} {r : Sl} {css : List (Array Value)} {l : List Vl} {i b : Nat} {c : Array Value} {v : Vl} (G : VGw lo S h r css l) (hS : ∀ b,S b → ¬ Sl.on r b) (hb : r.base = some ⟨b,0,none⟩) (u : Upd b h h') (G' : Gw lo h' r 4 (flat4 (css.set i c))) (hc : VRepS S h v c) :
    VGw lo S h' r (css.set i c) (l.set i v) :=
  ⟨G',G.w4.set hc.size hc.to.one,by rw [List.length_set,List.length_set]; exact G.len,fun j h1 h2=>by
    have hk : ∀ b',S b' → h'[b']? = h[b']?:=fun b' hb'=>u.ne b' (fun e=>hS b' hb' ⟨_,hb,e.symm⟩)
    by_cases hij : i = j
    · subst hij
      rw [List.getElem_set_self,List.getElem_set_self]
      exact hc.same hk
    · rw [List.getElem_set_ne hij,List.getElem_set_ne hij]
      exact (G.rep j (by rwa [List.length_set] at h1) (by rwa [List.length_set] at h2)).same hk⟩
theorem vswap_b {β : Type} {lo : Nat} {S : Nat → Prop} {h : Heap} {Q : β → Heap → Prop} {r : Sl} {css : List (Array Value)} {l : List Vl} {i j : Nat} {ti tj : Int} {f : Unit → M β} (G : VGw lo S h r css l) (hS : ∀ b,S b → ¬ Sl.on r b) (hi : i < l.length) (hj : j < l.length) (hti : ti = (i : Int)) (htj : tj = (j : Int))
    (H : ∀ h' css',Km (Sl.on r) h h' → VGw lo S h' r css' ((l.set i l[j]).set j l[i]) → (f ()).wp h' Q) :
    (ixL r tj 4 >>= fun a=>ixL r ti 4 >>= fun b=>ldG 4 a >>= fun u=>ldG 4 b >>= fun v=>ixL r ti 4 >>= fun c=>M.need (u.size = 4) >>= fun _=>stG c u >>= fun _=>ixL r tj 4 >>= fun d=>M.need (v.size = 4) >>= fun _=>stG d v >>= f).wp h Q:=by
  subst hti; subst htj
  have hic : i < css.length:=by rw [G.len]; exact hi
  have hjc : j < css.length:=by rw [G.len]; exact hj
  have hl:=G.gw.len4 G.w4
  obtain ⟨b,hb,hon,hri⟩:=G.gw.row4 G.w4 hic
  obtain ⟨b',hb',_,hrj⟩:=G.gw.row4 G.w4 hjc
  have e1 : b' = b:=by rw [hb'] at hb; cases hb; rfl
  subst e1
  have vi:=G.rep i hi hic
  have vj:=G.rep j hj hjc
  have hi4 : (i : Int).toNat * 4 = i * 4:=by omega
  have hj4 : (j : Int).toNat * 4 = j * 4:=by omega
  refine ixL_b (by omega) (by omega) hb (ixL_b (by omega) (by omega) hb ?_)
  refine ldG_b vj.size (fun k hk=>by rw [Addr.add_add,hj4]; exact hrj k hk) (ldG_b vi.size (fun k hk=>by rw [Addr.add_add,hi4]; exact hri k hk) ?_)
  refine vset_b G.gw G.w4 hic rfl vj.size vj.to.one (fun b1 h1 hb1 u1 G1=>?_)
  have V1:=G.put hS hb1 u1 G1 vj
  have vi1 : VRepS S h1 l[i] css[i]:=vi.same (fun c hc=>u1.ne c (fun e=>hS c hc ⟨_,hb1,e.symm⟩))
  refine vset_b V1.gw V1.w4 (i:=j) (by rw [List.length_set]; exact hjc) rfl vi.size vi.to.one (fun b2 h2 hb2 u2 G2=>?_)
  have V2:=V1.put hS hb2 u2 G2 vi1
  exact H h2 _ ((Km.upd u1 ⟨_,hb1,rfl⟩).trans (Km.upd u2 ⟨_,hb2,rfl⟩)) V2
theorem maps_j1 {h0 h : Heap} {Q : Bool → Heap → Prop} {l X : List Vl} {v : Vl} {c : Array Value} {y : Sl} {p : Nat} {t : TypeId} (e0 : Ext h0 h) (hX : VsRep h y X) (hlen : X.length = l.length) (hp : (pairsL X (l.length / 2)).Perm (pairsL l (l.length / 2))) (hw : wt.wts l ≤ 1000000000) (hm : MapRes l v 0) (hv : VRep h v c) (hc : h[p]? = some (.cells c t (0,0)))
    (H : ∀ h',Ext h0 h' → Q true h') : (ramblelaw02_ValueMaps_j1 ⟨p,0,none⟩ y).wp h Q:=by
  have hev:=mapres_even hm
  have fX : X = (pairsL X (l.length / 2)).flatten:=by rw [pairsL_flat,List.take_of_length_le (by omega)]
  have fl : l = (pairsL l (l.length / 2)).flatten:=by rw [pairsL_flat,List.take_of_length_le (by omega)]
  have hwX : wt.wts X ≤ 1000000000:=by rw [fX,wts_perm hp,← fl]; exact hw
  have hcnt:=wts_len X
  unfold ramblelaw02_ValueMaps_j1
  refine bind_w (vmap_spec hX (sortsN (by omega)) hwX (fun h1 d v' e' r1 e1 V1=>?_))
  obtain ⟨rfl,rfl,hma⟩:=mapres_turn hlen hp hm r1
  refine mkV_b (fun h2 e2 s2 g2=>need_b V1.size (stR g2 (by rw [V1.size]; exact Nat.le_refl 4) V1.to.one (fun h3 u3 g3=>?_)))
  rw [lay_full (by rw [Array.length_toList,V1.size]; rfl)] at g3
  have e13 : Ext h1 h3:=e2.upd u3 (Nat.le_refl _)
  have E3:=e1.trans e13
  refine ite_b (fun _=>?_) (fun hf=>by cases hf)
  refine assoc_b (ldR (E3.blk hc) hv.size (assoc_b (ldR g3 V1.size (assoc_b (bind_w (rsame_spec (hv.ext E3) (V1.to.ext e13) (fun h4 e4=>pure_b ?_)))))))
  rw [show decide (cmpV v' v' = 0) = true from decide_eq_true (cmpV_self _)]
  have E4:=E3.trans e4
  refine ite_b (fun _=>?_) (fun hf=>by cases hf)
  refine assoc_b (ldR (E4.blk hc) hv.size (assoc_b (bind_w (vcheck_spec (hv.ext E4) (fun h5 e5=>pure_b (pure_w ?_))))))
  rw [show (checkV v' == 0) = true by unfold checkV; rw [if_pos hma]; rfl]
  exact H _ ((e0.trans E4).trans e5)
theorem maps_law {l : List Vl} {t : List UInt8} {x y : Sl} {h : Heap} {Q : Bool → Heap → Prop} (hx : VsRep h x l) (hy : Bys h y t) (hw : wt.wts l ≤ 1000000000) (ht : t.length ≤ 9223372036854775807) (hp : PowTab h) (hd : DbTab h) (he : ErrV h)
    (H : ∀ h',Ext h h' → Q true h') : (ramblelaw02_ValueMaps x y).wp h Q:=by
  have hcnt:=wts_len l
  unfold ramblelaw02_ValueMaps
  refine bind_w (vmap_spec hx (sortsN (by omega)) hw (fun h1 c v e r1 e1 V1=>?_))
  refine mkV_b (fun h2 e2 s2 g2=>need_b V1.size (stR g2 (by rw [V1.size]; exact Nat.le_refl 4) V1.to.one (fun h3 u3 g3=>?_)))
  rw [lay_full (by rw [Array.length_toList,V1.size]; rfl),Array.toArray_toList] at g3
  have e13 : Ext h1 h3:=e2.upd u3 (Nat.le_refl _)
  have E3:=e1.trans e13
  have V3:=V1.to.ext e13
  refine bind_w (begun02_spec (hp.ext E3) (hd.ext E3) (he.ext E3) (fun h4 e4=>iteF_b rfl (pure_b ?_)))
  have E4:=E3.trans e4
  refine ite_w (fun hne=>?_) (fun heq=>?_)
  · exact bind_w (begun02_spec (hp.ext E4) (hd.ext E4) (he.ext E4) (fun h5 e5=>pure_w (H _ (E4.trans e5))))
  · have heq : e = 0:=bne_eq_false_iff_eq.1 heq
    subst heq
    have hev:=mapres_even r1
    have V4:=V3.ext e4
    have g4:=e4.blk g3
    have hp4 : h1.size < h4.size:=(Array.getElem?_eq_some_iff.1 g4).1
    refine bind_w (sclone_spec ((hx.ext E4).lt) (fun b hb=>hb) (by omega) (fun h5 r css e5 G5=>?_))
    have hrl : r.len = l.length:=by rw [G5.gw.len4 G5.w4,G5.len]
    obtain ⟨n,hn⟩ : ∃ n,l.length = 2 * n:=⟨l.length / 2,by omega⟩
    have hn2 : l.length / 2 = n:=by omega
    rw [hrl,hn,hy.len]
    have hw2 : IntKind.wrap .i64 (Int.tdiv ((2 * n : Nat) : Int) 2) = (n : Int):=by
      rw [Int.tdiv_eq_ediv_of_nonneg (by omega),w64 (by omega) (by omega)]; omega
    rw [hw2]
    have hSon : ∀ b,b < h4.size → ¬ Sl.on r b:=fun b hb ho=>by have:=(G5.gw.lt ho).2; omega
    have fin : ∀ hh css X,Km (Sl.on r) h5 hh → VGw h4.size (· < h4.size) hh r css X → X.length = l.length → (pairsL X n).Perm (pairsL l n) → (ramblelaw02_ValueMaps_j1 ⟨h1.size,0,none⟩ r).wp hh Q:=by
      intro hh css X K G hXl hXp
      have E5 : Ext h4 hh:=⟨Nat.le_trans e5.size K.size,fun i hi=>(K.same i (Nat.lt_of_lt_of_le hi e5.size) (hSon i hi)).trans (e5.same i hi)⟩
      have hX:=(G.rep_ (by omega)).to
      exact maps_j1 (E4.trans E5) hX hXl (by rw [hn2]; exact hXp) hw r1 (V4.ext E5) (E5.blk g4) H
    refine M.loop_inv (fun (s : Int) hh=>∃ (i : Nat) (css : List (Array Value)) (X : List Vl),s = (i : Int) ∧ i ≤ t.length ∧ Km (Sl.on r) h5 hh ∧ VGw h4.size (· < h4.size) hh r css X ∧ X.length = l.length ∧ (pairsL X n).Perm (pairsL l n)) (fun s _=>((t.length : Int) - s).toNat) ?_
      ⟨0,css,l,rfl,Nat.zero_le _,Km.refl _ _,G5,rfl,List.Perm.refl _⟩
    rintro s hh ⟨i,css',X,rfl,hi,K,G,hXl,hXp⟩ self hself
    unfold ramblelaw02_ValueMaps_l1
    refine ite_w (fun hc=>?_) (fun hc=>fin hh css' X K G hXl hXp)
    have hlt : i < t.length:=by have:=of_decide_eq_true hc; omega
    have E5 : Ext h4 hh:=⟨Nat.le_trans e5.size K.size,fun i hi=>(K.same i (Nat.lt_of_lt_of_le hi e5.size) (hSon i hi)).trans (e5.same i hi)⟩
    obtain ⟨a,ha,hca⟩:=(hy.ext (E4.trans E5)).get hlt
    refine ixL_b (by omega) (by rw [hy.len]; omega) ha (ldI_b (by rw [show (i : Int).toNat * 1 = i by omega]; exact hca) ?_)
    refine ite_w (fun h0=>fin hh css' X K G hXl hXp) (fun h0=>?_)
    have hn0 : (n : Int) ≠ 0:=by simpa using h0
    have hn1 : 0 < n:=by omega
    have hu8 : t[i].toNat < 256:=t[i].toNat_lt
    rw [w64 (n:=(t[i].toNat : Int)) (by omega) (by omega)]
    refine pRem_b hn0 (pRem_b hn0 ?_)
    rw [Int.tmod_eq_emod_of_nonneg (by omega),Int.tmod_eq_emod_of_nonneg (by omega)]
    have ha1:=Nat.mod_lt i hn1
    have hb1:=Nat.mod_lt t[i].toNat hn1
    rw [show (i : Int) % (n : Int) = ((i % n : Nat) : Int) by omega,show (t[i].toNat : Int) % (n : Int) = ((t[i].toNat % n : Nat) : Int) by omega]
    generalize i % n = u at ha1
    generalize t[i].toNat % n = w at hb1
    have hwu : IntKind.wrap .i64 (2 * (u : Int)) = ((2 * u : Nat) : Int):=by rw [w64 (by omega) (by omega)]; omega
    have hww : IntKind.wrap .i64 (2 * (w : Int)) = ((2 * w : Nat) : Int):=by rw [w64 (by omega) (by omega)]; omega
    have hwu1 : IntKind.wrap .i64 (((2 * u : Nat) : Int) + 1) = ((2 * u + 1 : Nat) : Int):=by rw [w64 (by omega) (by omega)]; omega
    have hww1 : IntKind.wrap .i64 (((2 * w : Nat) : Int) + 1) = ((2 * w + 1 : Nat) : Int):=by rw [w64 (by omega) (by omega)]; omega
    rw [hwu,hww,hwu1,hww1]
    have hua : 2 * u + 1 < X.length:=by omega
    have hwa : 2 * w + 1 < X.length:=by omega
    refine vswap_b G hSon (i:=2 * u) (j:=2 * w) (by omega) (by omega) rfl rfl (fun h6 css6 K6 G6=>?_)
    refine vswap_b G6 hSon (i:=2 * u + 1) (j:=2 * w + 1) (by simp; omega) (by simp; omega) rfl rfl (fun h7 css7 K7 G7=>?_)
    have eT : ((((X.set (2 * u) X[2 * w]).set (2 * w) X[2 * u]).set (2 * u + 1) (((X.set (2 * u) X[2 * w]).set (2 * w) X[2 * u])[2 * w + 1]'(by simp; omega))).set (2 * w + 1) (((X.set (2 * u) X[2 * w]).set (2 * w) X[2 * u])[2 * u + 1]'(by simp; omega))) = turnL X u w hua hwa:=by
      unfold turnL
      rw [List.getElem_set_ne (by omega),List.getElem_set_ne (by omega),List.getElem_set_ne (by omega),List.getElem_set_ne (by omega)]
    rw [eT] at G7
    rw [w64 (by omega) (by omega)]
    exact hself _ _ ⟨i + 1,css7,_,by omega,by omega,(K.trans K6).trans K7,G7,by rw [turnL_len]; exact hXl,(turn_pairs hua hwa (by omega)).trans hXp⟩ (by omega)
end Gx
namespace Gx
open Go Go.RowKit Go.ChangeShapes Go.WideShapes Go.ChangeAt Go.Joins
set_option linter.unusedVariables false
section
variable {H : Type} {enc : TypeId × Value → H} {P : Program}
theorem ext_same {W W' : World} (he : Ext W.heap W'.heap) {p : MemPlace} (hp : p.block < W.heap.size) : W.sameAt W' p:=by
  cases p with
  | cell b o=>exact World.cell?_of_block (w:=W) (he.same b hp)
  | map b=>exact he.same b hp
theorem ext_trod {t : TypeId} (hl : laidOutB P = true) (hr : P.readableRec t = true) (hrow : t < P.types.size) {W W' : World} {v : Value} {d : DataW H} {ps : List MemPlace}
    (h : DataW.Trod enc P W 0 (fun _=>true) true t v d ps) (he : Ext W.heap W'.heap) :
    DataW.Trod enc P W' 0 (fun b=>decide (b < W.heap.size)) true t v d ps:=by
  have hlt : ∀ x ∈ ps,x.block < W.heap.size:=by
    obtain ⟨m,hm⟩:=h
    exact DataW.trod_lt m _ _ _ hm
  exact WideElems.Trod_stays hl hr hrow h (fun x hx=>ext_same he (hlt x hx)) (fun x hx=>by simpa using hlt x hx)
theorem ext_frame {W W' : World} (he : Ext W.heap W'.heap) (hr : Rest W W') (may : MemPlace → Prop) : W.keptBut W' may:=by
  refine ⟨hr.os,hr.output,fun i hi=>?_⟩
  rw [he.same i hi]
  split <;> simp_all
theorem open_bytes {W : World} {t e : TypeId} {n : Nat} {v : Value} {x : DataW H × List MemPlace} {sp : Nat → Bool} {held : Bool} {base : Nat} (ht : P.underlying t = some (.slice e)) (he : P.underlying e = some (.int .u8)) (hc : P.cellsOf e = 1)
    (h : DataW.trod enc P W base sp held n t [v] = some x) : ∃ (s : Sl) (l : List UInt8),v = s.v ∧ Bys W.heap s l ∧ l.length ≤ 9223372036854775807:=by
  rcases open_ints ht he hc h with ⟨h1,_⟩ | ⟨a,len,cap,zs,h1,_,hle,hm,hz,_,hcell,hwf⟩
  · cases h1
    exact ⟨Sl.nil,[],rfl,Bys.nil _,by simp⟩
  · cases h1
    have hlz : len ≤ zs.length:=by rw [hz]; split <;> omega
    have hmx : cap ≤ 9223372036854775807:=Nat.le_trans hm (by decide)
    refine ⟨⟨some a,len,cap⟩,(zs.take len).map u8,rfl,⟨by simp; omega,.inr ⟨a,rfl,fun j w hj=>?_⟩⟩,by simp; omega⟩
    simp only [List.getElem?_map,List.getElem?_take] at hj
    split at hj
    · rename_i hjl
      have hj' : j < zs.length:=by omega
      rw [List.getElem?_eq_getElem hj'] at hj
      simp only [Option.map_some,Option.some.injEq] at hj
      have h2:=hcell j hj'
      have h3:=hwf _ (List.getElem_mem hj')
      rw [List.getD_eq_getElem?_getD,List.getElem?_eq_getElem hj'] at h2
      have h4 : 0 ≤ zs[j] ∧ zs[j] ≤ 255:=by simpa [Lit.wf,IntKind.min,IntKind.max,IntKind.signed,IntKind.bits] using h3
      rw [← hj,bv,u8_toNat,show zs[j] % 256 = zs[j] by omega]
      exact h2
    · simp at hj
end
end Gx
