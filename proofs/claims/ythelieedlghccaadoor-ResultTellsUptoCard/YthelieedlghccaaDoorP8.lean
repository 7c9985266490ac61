/- Own proofs: what those Lean programs compute. No condition. -/
import Derived.Test.YthelieedlghccaaDoorP0
import Derived.Test.YthelieedlghccaaDoorP1
import Derived.Test.YthelieedlghccaaDoorP2
import Derived.Test.YthelieedlghccaaDoorP3
import Derived.Test.YthelieedlghccaaDoorP4
import Derived.Test.YthelieedlghccaaDoorP5
import Derived.Test.YthelieedlghccaaDoorP6
import Derived.Test.YthelieedlghccaaDoorP7
import Derived.WalkKit
import Derived.ProofKit
import Derived.OpenShut
import Derived.ShutString
import Derived.ChangeOld
import Derived.Below
import Derived.SizedLaws
import Derived.Lib.SmallJoins
set_option linter.unusedVariables false
set_option linter.unusedSimpArgs false
namespace Gx
open Go
set_option linter.unusedVariables false
set_option linter.unusedSimpArgs false
/-! ### The reference's text of a number -/
def dgt (u : Nat) : List Nat := if h : u < 10 then [u] else dgt (u / 10) ++ [u % 10]
termination_by u
decreasing_by omega
theorem dgt_dec (u : Nat) : Lib.decDigits u = (dgt u).map fun d => UInt8.ofNat (48 + d) := by
  induction u using Nat.strongRecOn with
  | _ u ih =>
    unfold dgt Lib.decDigits
    split
    · rfl
    · rw [ih (u / 10) (by omega)]; simp
theorem dgt_lt (u : Nat) : ∀ d ∈ dgt u, d < 10 := by
  induction u using Nat.strongRecOn with
  | _ u ih =>
    unfold dgt
    split
    · intro d hd; simp at hd; omega
    · intro d hd
      rcases List.mem_append.1 hd with hd | hd
      · exact ih (u / 10) (by omega) d hd
      · simp at hd; omega
theorem dgt_len : ∀ (k u : Nat), u < 10 ^ k → 1 ≤ k → (dgt u).length ≤ k
  | 0, u, h, h1 => by omega
  | k + 1, u, h, h1 => by
    unfold dgt
    split
    · simp
    · rename_i hu
      rw [List.length_append]
      have : 1 ≤ k := by
        rcases Nat.eq_zero_or_pos k with h0 | h0
        · subst h0; omega
        · exact h0
      have := dgt_len k (u / 10) (by rw [Nat.pow_succ] at h; omega) this
      simp; omega
def dv (d : Nat) : Value := .int .i64 (d : Int)
theorem rdigits_spec {n : Int} {h : Heap} {Q : Sl → Heap → Prop} (hn : I64 n) (H : ∀ h' r, Ext h h' → Gw h.size h' r 1 ((dgt n.natAbs).map dv) → Q r h') : (rambleref01_Digits n).wp h Q := by
  unfold rambleref01_Digits
  obtain ⟨n1, n2⟩ := hn
  have hbare : (rambleref01_bare n).wp h (fun u h' => u = (n.natAbs : Int) ∧ h' = h) := by
    unfold rambleref01_bare
    refine ite_w (fun hc => ?_) (fun hc => ?_)
    · have := of_decide_eq_true hc
      exact pure_w ⟨by rw [IntKind.wrap_u64, IntKind.wrap_u64]; omega, rfl⟩
    · have := of_decide_eq_false hc
      exact pure_w ⟨by rw [IntKind.wrap_u64]; omega, rfl⟩
  refine bind_w ((rambleref01_bare n).mono ?_ hbare)
  rintro u h' ⟨rfl, rfl⟩
  have hu : n.natAbs ≤ 18446744073709551615 := by omega
  have hlen : (dgt n.natAbs).length ≤ 20 := dgt_len 20 _ (by omega) (by decide)
  generalize n.natAbs = u at *
  refine M.loop_inv (fun (t : Int × Sl) h1 => ∃ (x : Nat) (l : List Nat), t.1 = (x : Int) ∧ x ≤ 18446744073709551615 ∧ Ext h' h1 ∧ Gw h'.size h1 t.2 1 (l.map dv) ∧ (if 0 < x ∨ l = [] then dgt x else []) ++ l = dgt u) (fun t _ => t.1.toNat + (if t.2.len = 0 then 1 else 0)) ?_ ⟨u, [], rfl, hu, Ext.refl _, Gw.nil _ _ _, by simp⟩
  rintro ⟨t, r⟩ h1 ⟨x, l, ht, hx, E, G, hd⟩ self hself
  have ht : t = (x : Int) := ht
  subst ht
  have hrl := G.len
  simp at hrl
  unfold rambleref01_Digits_l1
  refine or_b (c := decide (l = [])) (fun _ Q' hq' => pure_w (by rw [show ((r.len : Int) == 0) = decide (l = []) by rw [← hrl, Bool.eq_iff_iff]; simp]; exact hq')) ?_
  refine ite_w (fun hc => ?_) (fun hc => ?_)
  · have hc' : 0 < x ∨ l = [] := by simpa using hc
    rw [if_pos hc'] at hd
    have hsl : (dgt x).length + l.length = (dgt u).length := by rw [← hd, List.length_append]
    have w1 : IntKind.wrap .i64 (Int.tmod (x : Int) 10) = ((x % 10 : Nat) : Int) := by
      rw [Int.tmod_eq_emod_of_nonneg (by omega), w64 (by omega) (by omega)]; omega
    have w2 : IntKind.wrap .u64 (Int.tdiv (x : Int) 10) = ((x / 10 : Nat) : Int) := by
      rw [Int.tdiv_eq_ediv_of_nonneg (by omega), IntKind.wrap_u64]; omega
    rw [w1, w2]
    refine bdL_b ?_
    have e2 := Ext.push h1 (.cells #[.int .i64 ((x % 10 : Nat) : Int)] ty_int)
    have g2 : (h1.push (.cells #[.int .i64 ((x % 10 : Nat) : Int)] ty_int))[h1.size]? = some (.cells #[.int .i64 ((x % 10 : Nat) : Int)] ty_int (0, 0)) := get_push_eq
    generalize h1.push (.cells #[.int .i64 ((x % 10 : Nat) : Int)] ty_int) = h2 at e2 g2 ⊢
    have G2 := G.ext e2
    have E2 := E.trans e2
    have Gn : Gw h'.size h2 ⟨some ⟨h1.size, 0, none⟩, 1, 1⟩ 1 [dv (x % 10)] := .inr ⟨h1.size, _, _, rfl, E.size, g2, rfl, Nat.le_refl _, rfl, fun j v hj => by rw [show (#[.int .i64 ((x % 10 : Nat) : Int)] : Array Value) = [dv (x % 10)].toArray from rfl]; simpa using hj⟩
    refine ap_grow (vs := [dv (x % 10)]) (news := l.map dv) rfl Gn (by simp; exact hrl) G2.reads (fun v hv => by obtain ⟨y, _, rfl⟩ := List.mem_map.1 hv; rfl) (by dsimp only; omega) (by dsimp only; omega) E2.size (fun h3 r3 G3 hlen3 hs same on_ => ?_)
    have E3 : Ext h' h3 := ⟨Nat.le_trans E2.size hs, fun i hi => (same i (Nat.lt_of_lt_of_le hi E2.size) (fun ho => by have := (Gn.lt ho).2; omega)).trans (E2.same i hi)⟩
    refine hself (_, _) _ ⟨x / 10, (x % 10) :: l, rfl, by omega, E3, by simpa using G3, ?_⟩ ?_
    · rw [← hd]
      conv => rhs; unfold dgt
      by_cases h10 : x < 10
      · have hz : x / 10 = 0 := by omega
        simp [h10, hz, Nat.mod_eq_of_lt h10]
      · have : 0 < x / 10 := by omega
        rw [if_pos (.inl this), dif_neg h10]; simp
    · dsimp only
      rw [hlen3]
      dsimp only
      rcases hc' with h0 | h0
      · rw [if_neg (by omega)]; split <;> omega
      · subst h0
        have : r.len = 0 := by rw [← hrl]; rfl
        rw [if_neg (by omega), if_pos this]; omega
  · have hc' : ¬ (0 < x ∨ l = []) := by simpa using hc
    rw [if_neg hc', List.nil_append] at hd
    subst hd
    exact pure_w (H _ _ E G)
theorem sCat_b {β : Type} {h : Heap} {Q : β → Heap → Prop} {x y : List UInt8} {f : ByteArray → M β} (hm : x.length + y.length ≤ 9223372036854775807) (H : (f (bs (x ++ y))).wp h Q) : (sCat (bs x) (bs y) >>= f).wp h Q :=
  ⟨bs (x ++ y), ⟨by rw [bs_size, bs_size]; omega, by apply ByteArray.ext; simp [bs]⟩, H⟩
theorem itoa_len {n : Int} (hn : I64 n) : (Lib.itoa n).length ≤ 21 := by
  obtain ⟨n1, n2⟩ := hn
  unfold Lib.itoa
  split
  · rw [List.length_cons, dgt_dec, List.length_map]
    have := dgt_len 20 n.natAbs (by omega) (by decide)
    omega
  · rw [dgt_dec, List.length_map]
    have := dgt_len 20 n.toNat (by omega) (by decide)
    omega
theorem rtext1_spec {n : Int} {h : Heap} {Q : ByteArray → Heap → Prop} (hn : I64 n) (H : ∀ h', Ext h h' → Q (bs (Lib.itoa n)) h') : (rambleref01_Text n).wp h Q := by
  unfold rambleref01_Text
  have key : ∀ (p : List UInt8), p.length ≤ 1 → p ++ Lib.decDigits n.natAbs = Lib.itoa n → (rambleref01_Text_j1 n (bs p)).wp h Q := fun p hp he => by
    unfold rambleref01_Text_j1
    refine bind_w (rdigits_spec hn (fun h1 r E G => ?_))
    have hrl := G.len
    simp at hrl
    have hlen : (dgt n.natAbs).length ≤ 20 := dgt_len 20 _ (by obtain ⟨_, _⟩ := hn; omega) (by decide)
    rw [dgt_dec] at he
    have hlt := dgt_lt n.natAbs
    generalize dgt n.natAbs = ds at *
    refine M.loop_inv (fun (t : ByteArray × Int) h2 => ∃ i : Nat, t.2 = (i : Int) ∧ i ≤ ds.length ∧ t.1 = bs (p ++ (ds.take i).map fun d => UInt8.ofNat (48 + d)) ∧ Ext h h2 ∧ Gw h.size h2 r 1 (ds.map dv)) (fun t _ => ((ds.length : Int) - t.2).toNat) ?_ ⟨0, rfl, Nat.zero_le _, by simp, E, G⟩
    rintro ⟨x, t⟩ h2 ⟨i, hti, hi, hx, E2, G2⟩ self hself
    have hti : t = (i : Int) := hti
    have hx : x = _ := hx
    subst hti; subst hx
    unfold rambleref01_Text_l1
    rw [← hrl]
    refine ite_w (fun hc => ?_) (fun hc => ?_)
    · have hlt' : i < ds.length := by have := of_decide_eq_true hc; omega
      obtain ⟨b, hb, hcell'⟩ := G2.cell (j := i) (v := dv ds[i]) (by simp [hlt'])
      have hd := hlt ds[i] (List.getElem_mem hlt')
      refine ixL_b (by omega) (by omega) hb (ldI_b (n := (ds[i] : Int)) (by rw [add_mk, show 0 + (i : Int).toNat * 1 = i by omega]; exact hcell') ?_)
      have hc8 : IntKind.wrap .u8 (IntKind.wrap .i64 (48 + (ds[i] : Int))) = ((UInt8.ofNat (48 + ds[i])).toNat : Int) := by
        rw [w64 (by omega) (by omega), IntKind.wrap_u8, UInt8.toNat_ofNat']
        omega
      rw [hc8]
      refine bdL_b ?_
      have g3 : (h2.push (.cells #[.int .u8 ((UInt8.ofNat (48 + ds[i])).toNat : Int)] ty_uint8))[h2.size]? = some (.cells (([UInt8.ofNat (48 + ds[i])] : List UInt8).map bv).toArray ty_uint8 (0, 0)) := get_push_eq
      have e3 := Ext.push h2 (.cells #[.int .u8 ((UInt8.ofNat (48 + ds[i])).toNat : Int)] ty_uint8)
      have Gb := gw_bd (h0 := h2) (c := [UInt8.ofNat (48 + ds[i])]) (Nat.le_refl _) g3
      refine b2s_b (ns := [UInt8.ofNat (48 + ds[i])]) rfl Gb.bys.at_ (sCat_b (y := [UInt8.ofNat (48 + ds[i])]) (by simp; omega) ?_)
      rw [w64 (by omega) (by omega)]
      refine hself (_, _) _ ⟨i + 1, by simp, by omega, ?_, E2.trans e3, G2.ext e3⟩ (by dsimp only; omega)
      dsimp only
      rw [List.take_succ_eq_append_getElem hlt', List.map_append, ← List.append_assoc]
      rfl
    · have hge : i = ds.length := by have := of_decide_eq_false hc; omega
      subst hge
      rw [List.take_length, he]
      exact pure_w (H _ E2)
  refine ite_w (fun hc => ?_) (fun hc => ?_)
  · have := of_decide_eq_true hc
    exact key [45] (by simp) (by unfold Lib.itoa; rw [if_pos this]; rfl)
  · have := of_decide_eq_false hc
    exact key [] (by simp) (by unfold Lib.itoa; rw [if_neg this, show n.natAbs = n.toNat by omega]; rfl)
end Gx
namespace Gx
open Go
set_option linter.unusedVariables false
set_option linter.unusedSimpArgs false
/-! ### strings.Join -/
def jn (sep : List UInt8) : List (List UInt8) → List UInt8
  | [] => []
  | [a] => a
  | a :: b :: r => a ++ (sep ++ jn sep (b :: r))
def sv (s : List UInt8) : Value := .string (bs s)
theorem jn_cons (sep a : List UInt8) (l : List (List UInt8)) : jn sep (a :: l) = a ++ l.flatMap (fun s => sep ++ s) := by
  induction l generalizing a with
  | nil => simp [jn]
  | cons b r ih => rw [jn, ih]; simp
theorem bgrow_spec {lo : Nat} {h : Heap} {b : Nat} {n : Int} {Q : Unit → Heap → Prop} (B : Bld lo h b Sl.nil []) (hlo : lo ≤ h.size) (h0 : 0 ≤ n) (hn : n ≤ 140737488355328)
    (H : ∀ h' r', Bld lo h' b r' [] → BKeep b Sl.nil r' h h' → Q () h') : (strings_Builder_Grow (some ⟨b, 0, none⟩) n).wp h Q := by
  unfold strings_Builder_Grow
  refine copyCheck_b B (fun h1 B1 u1 => iteF (by simp; omega) ?_)
  obtain ⟨p, q1, q2⟩ := B1.ptr
  have c1 : hcell h1 ((⟨b, 0, none⟩ : Addr).add 1) = some Sl.nil.v := by rw [add_mk, hcell_blk q1]; rfl
  refine nilP_b (nilP_b (ldL_b (n := Sl.nil) c1 (ldL_b (n := Sl.nil) c1 ?_)))
  have hK1 : BKeep b Sl.nil Sl.nil h h1 := ⟨by rw [u1.size]; exact Nat.le_refl _, fun i hi hne _ => u1.ne i hne, fun i hi => .inl hi⟩
  refine ite_w (fun hc => ?_) (fun hc => pure_w (H _ _ B1 hK1))
  have hpos : 0 < n := of_decide_eq_true hc
  refine bind_w ?_
  unfold strings_Builder_grow
  refine nilP_b (nilP_b (ldL_b (n := Sl.nil) c1 (ldL_b (n := Sl.nil) c1 ?_)))
  have hw : IntKind.wrap .i64 ((IntKind.wrap .i64 (2 * ((Sl.nil : Sl).cap : Int))) + n) = n := by
    rw [show IntKind.wrap .i64 (2 * ((Sl.nil : Sl).cap : Int)) = 0 by decide, w64 (by omega) (by omega)]; omega
  rw [hw]
  refine ⟨h0, by omega, fun cs hle hmax => ?_⟩
  have e2 := Ext.push h1 (.cells cs ty_uint8)
  have g2 : (h1.push (.cells cs ty_uint8))[h1.size]? = some (.cells cs ty_uint8 (0, 0)) := get_push_eq
  generalize h1.push (.cells cs ty_uint8) = h2 at e2 g2 ⊢
  have c2 := e2.cell c1
  refine chk_b ⟨c2, c2⟩ (slL_b (by decide) (by decide) (by dsimp only [Sl.nil]; omega) (nilP_b (ldL_b (n := Sl.nil) c2 ?_)))
  have hcs : cs.size ≠ 0 := by omega
  rw [if_neg (show ¬ cs.size = (0 : Int).toNat by simpa using hcs)]
  have hbz : (Option.map (fun x : Addr => x.add ((0 : Int).toNat * 1)) (some ⟨h1.size, 0, none⟩)) = some ⟨h1.size, 0, none⟩ := by simp [add_mk]
  have hr : (⟨Option.map (fun x : Addr => x.add ((0 : Int).toNat * 1)) (some ⟨h1.size, 0, none⟩), ((Sl.nil : Sl).len : Int).toNat - (0 : Int).toNat, cs.size - (0 : Int).toNat⟩ : Sl) = ⟨some ⟨h1.size, 0, none⟩, 0, cs.size⟩ := by
    rw [hbz]; simp [Sl.nil]
  dsimp only
  rw [hr]
  refine ⟨[], by simp [Sl.nil], .inl rfl, fun a ha j hj => by simp at hj, by simp, nilP_b ?_⟩
  rw [show hputL h2 (⟨some ⟨h1.size, 0, none⟩, 0, cs.size⟩ : Sl).base 0 [] = h2 from rfl]
  obtain ⟨p', q1', q2'⟩ := (B1.ext e2).ptr
  refine stV_b (x := Sl.nil.v) c2 (by rw [add_mk, hfrozen_blk q1']) (one_v _) (pure_w (pure_w ?_))
  rw [add_mk, Nat.zero_add]
  have hlt := B1.lt
  have R : Gw lo h2 ⟨some ⟨h1.size, 0, none⟩, 0, cs.size⟩ 1 (([] : List UInt8).map bv) := .inr ⟨h1.size, _, _, rfl, by have := u1.size; omega, g2, by simp, by simp, by simp, fun j v hj => by simp at hj⟩
  obtain ⟨B3, K3⟩ := bld_put (h := h1) (h' := h2) (l' := []) B1 (Upd.refl _ _) e2.size (fun i hi _ => e2.same i hi) (fun i hi => by obtain ⟨a, ha, rfl⟩ := hi; cases ha; exact .inr (Nat.le_refl _)) R (fun h => absurd h hcs) (fun g hg => by cases hg; exact ⟨_, _, g2⟩)
  exact H _ _ B3 (hK1.trans K3 B.lt)
def SsAt (h : Heap) (x : Sl) (ps : List (List UInt8)) : Prop := x.len = ps.length ∧ x.len ≤ x.cap ∧ Reads h x.base (ps.map sv)
theorem SsAt.ext {h h' : Heap} {x : Sl} {ps : List (List UInt8)} (S : SsAt h x ps) (e : Ext h h') : SsAt h' x ps := ⟨S.1, S.2.1, e.reads S.2.2⟩
theorem SsAt.get {h : Heap} {x : Sl} {ps : List (List UInt8)} (S : SsAt h x ps) {i : Nat} (hi : i < ps.length) : ∃ a, x.base = some a ∧ hcell h (a.add i) = some (.string (bs ps[i])) := by
  obtain ⟨_, _, R | ⟨a, ha, R⟩⟩ := S
  · have : ps = [] := by simpa using R
    subst this; simp at hi
  · exact ⟨a, ha, R i _ (by simp [hi, sv])⟩
theorem sum_take {ps : List (List UInt8)} {i : Nat} (hi : i < ps.length) : ((ps.take (i + 1)).map List.length).sum = ((ps.take i).map List.length).sum + ps[i].length := by
  rw [List.take_succ_eq_append_getElem hi, List.map_append, List.sum_append]; simp only [List.map_cons, List.map_nil, List.sum_cons, List.sum_nil, Nat.add_zero]
theorem sum_pre (ps : List (List UInt8)) (i : Nat) : ((ps.take i).map List.length).sum ≤ (ps.map List.length).sum := by
  conv => rhs; rw [← List.take_append_drop i ps, List.map_append, List.sum_append]
  omega
theorem jn_drop (sep : List UInt8) : ∀ (l : List (List UInt8)) (h : 0 < l.length), jn sep l = l[0] ++ (l.drop 1).flatMap (fun s => sep ++ s)
  | [], h => by simp at h
  | a :: r, h => by rw [jn_cons]; rfl
theorem jn_len (sep : List UInt8) : ∀ ps : List (List UInt8), ps ≠ [] → (jn sep ps).length = (ps.map List.length).sum + sep.length * (ps.length - 1)
  | [], h => absurd rfl h
  | [a], _ => by simp [jn]
  | a :: b :: r, _ => by
    rw [jn, List.length_append, List.length_append, jn_len sep (b :: r) (by simp)]
    simp only [List.map_cons, List.sum_cons, List.length_cons]
    rw [show r.length + 1 + 1 - 1 = (r.length + 1 - 1) + 1 by omega, Nat.mul_add]
    omega
theorem join_spec {h : Heap} {x : Sl} {ps : List (List UInt8)} {sep : List UInt8} {Q : ByteArray → Heap → Prop} (S : SsAt h x ps) (hs1 : 1 ≤ sep.length) (hs : sep.length ≤ 16) (hp : ps.length ≤ 1099511627776) (hm : (jn sep ps).length ≤ 70368744177664)
    (H : ∀ h', Ext h h' → Q (bs (jn sep ps)) h') : (strings_Join x (bs sep)).wp h Q := by
  unfold strings_Join
  rw [S.1]
  match hps : ps with
  | [] => exact iteT rfl (pure_w (H _ (Ext.refl _)))
  | [a] =>
    obtain ⟨b, hb, hcell'⟩ := S.get (i := 0) (by simp)
    exact iteF rfl (iteT rfl (ixL_b (by decide) (by rw [S.1]; simp) hb (ldS_b (n := bs a) hcell' (pure_w (H _ (Ext.refl _))))))
  | a :: b0 :: r0 =>
    rw [← hps] at S hp hm H ⊢
    have hne : ps ≠ [] := by rw [hps]; simp
    have hl2 : 2 ≤ ps.length := by rw [hps]; simp
    have hjl := jn_len sep ps hne
    rw [bs_size]
    refine iteF (by rw [beq_eq_false_iff_ne]; omega) (iteF (by rw [beq_eq_false_iff_ne]; omega) (iteT (by simp; omega) ?_))
    have hw1 : IntKind.wrap .i64 ((ps.length : Int) - 1) = ((ps.length - 1 : Nat) : Int) := by rw [w64 (by omega) (by omega)]; omega
    rw [hw1]
    refine ⟨IntKind.wrap .i64 ((9223372036854775807 : Int).tdiv ((ps.length - 1 : Nat) : Int)), ⟨by omega, rfl⟩, ?_⟩
    have hq : (sep.length : Int) < IntKind.wrap .i64 ((9223372036854775807 : Int).tdiv ((ps.length - 1 : Nat) : Int)) := by
      rw [Int.tdiv_eq_ediv_of_nonneg (by decide)]
      have h1 : (17 : Int) ≤ 9223372036854775807 / ((ps.length - 1 : Nat) : Int) := by
        rw [Int.le_ediv_iff_mul_le (by omega)]; omega
      have h2 : 9223372036854775807 / ((ps.length - 1 : Nat) : Int) ≤ 9223372036854775807 := Int.ediv_le_self _ (by decide)
      rw [w64 (by omega) (by omega)]; omega
    have hsm : sep.length * (ps.length - 1) ≤ 70368744177664 := by omega
    have hcast : (sep.length : Int) * ((ps.length - 1 : Nat) : Int) = ((sep.length * (ps.length - 1) : Nat) : Int) := by simp
    refine iteF (by simp; omega) ?_
    unfold strings_Join_j1
    rw [hcast, w64n (n := sep.length * (ps.length - 1)) (by omega), Int.zero_add, w64n (n := sep.length * (ps.length - 1)) (by omega)]
    refine M.loop_inv (fun (t : Int × Int) h' => h' = h ∧ ∃ i : Nat, t.2 = (i : Int) ∧ i ≤ ps.length ∧ t.1 = ((sep.length * (ps.length - 1) + ((ps.take i).map List.length).sum : Nat) : Int)) (fun t _ => ((ps.length : Int) - t.2).toNat) ?_ ⟨rfl, 0, rfl, Nat.zero_le _, by simp⟩
    rintro ⟨m, t⟩ h' ⟨rfl, i, ht, hi, hmm⟩ self hself
    have ht : t = (i : Int) := ht
    have hmm : m = _ := hmm
    subst ht; subst hmm
    unfold strings_Join_l1
    rw [S.1]
    have hpi := sum_pre ps i
    refine ite_w (fun hc => ?_) (fun hc => ?_)
    · have hlt : i < ps.length := by have := of_decide_eq_true hc; omega
      have hpj := sum_pre ps (i + 1)
      rw [sum_take hlt] at hpj
      obtain ⟨b, hb, hcell'⟩ := S.get hlt
      refine ixL_b (by omega) (by rw [S.1]; omega) hb (ldS_b (n := bs ps[i]) (by rw [show (i : Int).toNat * 1 = i by omega]; exact hcell') ?_)
      rw [bs_size]
      refine iteF (by rw [w64 (by omega) (by omega), decide_eq_false_iff_not]; omega) ?_
      refine hself (_, _) _ ⟨rfl, i + 1, by dsimp only; rw [w64 (by omega) (by omega)]; simp, by omega, ?_⟩ (by dsimp only; rw [w64 (by omega) (by omega)]; omega)
      dsimp only
      rw [w64 (by omega) (by omega), sum_take hlt]; omega
    · have hge : i = ps.length := by have := of_decide_eq_false hc; omega
      subst hge
      rw [List.take_length]
      refine mkV_b (fun h1 e1 z1 g1 => ?_)
      have B1 := Bld.new (Nat.le_refl _) g1
      refine bind_w (bgrow_spec B1 (by omega) (by omega) (by omega) (fun h2 r2 B2 K2 => ?_))
      have E2 := K2.ext e1 B1 (Nat.le_refl _)
      obtain ⟨b, hb, hcell'⟩ := (S.ext E2).get (i := 0) (by omega)
      have h0l := sum_pre ps 1
      rw [sum_take (i := 0) (by omega)] at h0l
      refine ixL_b (by decide) (by rw [S.1]; omega) hb (ldS_b (n := bs ps[0]) hcell' ?_)
      refine bind_w (wstr_spec B2 E2.size (by rw [List.length_nil]; omega) (fun h3 r3 n3 B3 K3 => ?_))
      have E3 := K3.ext E2 B2 (Nat.le_refl _)
      have hcap := S.2.1
      have hSl := S.1
      refine slL_b (by decide) (by omega) (by omega) ?_
      have hx : (⟨if x.cap = (1 : Int).toNat then x.base else x.base.map (fun a => a.add ((1 : Int).toNat * 1)), (ps.length : Int).toNat - (1 : Int).toNat, x.cap - (1 : Int).toNat⟩ : Sl) = ⟨some (b.add 1), ps.length - 1, x.cap - 1⟩ := by
        have hl := S.1
        rw [if_neg (show ¬ x.cap = (1 : Int).toNat by have : (1 : Int).toNat = 1 := rfl; omega), hb]
        rfl
      rw [hx]
      have hj0 : jn sep ps = ps[0] ++ (ps.drop 1).flatMap (fun s => sep ++ s) := jn_drop sep ps (by omega)
      have hpre : ∀ k, (ps[0] ++ ((ps.drop 1).take k).flatMap (fun s => sep ++ s)).length ≤ (jn sep ps).length := fun k => by
        rw [hj0, List.length_append, List.length_append]
        conv => rhs; rw [← List.take_append_drop k (ps.drop 1), List.flatMap_append, List.length_append]
        omega
      refine M.loop_inv (fun (t : Int) hx => ∃ k : Nat, t = (k : Int) ∧ k ≤ ps.length - 1 ∧ Ext h' hx ∧ ∃ r, Bld h'.size hx h'.size r (ps[0] ++ ((ps.drop 1).take k).flatMap (fun s => sep ++ s))) (fun t _ => ((ps.length : Int) - t).toNat) ?_ ⟨0, rfl, Nat.zero_le _, E3, r3, by simpa using B3⟩
      rintro t h4 ⟨k, rfl, hk, E4, r4, B4⟩ self2 hself2
      unfold strings_Join_l2
      dsimp only
      have hpk := hpre k
      refine ite_w (fun hc => ?_) (fun hc => ?_)
      · have hlt : k < ps.length - 1 := by have := of_decide_eq_true hc; omega
        have hlt' : 1 + k < ps.length := by omega
        have hpk1 := hpre (k + 1)
        have htk : ((ps.drop 1).take (k + 1)).flatMap (fun s => sep ++ s) = ((ps.drop 1).take k).flatMap (fun s => sep ++ s) ++ (sep ++ ps[1 + k]) := by
          rw [List.take_succ_eq_append_getElem (by simpa using hlt), List.flatMap_append]
          simp only [List.getElem_drop, List.flatMap_cons, List.flatMap_nil, List.append_nil]
        rw [htk, ← List.append_assoc, ← List.append_assoc, List.length_append, List.length_append] at hpk1
        obtain ⟨b', hb', hcell2⟩ := (S.ext E4).get hlt'
        rw [hb] at hb'
        cases hb'
        refine ixL_b (by omega) (by dsimp only; omega) rfl (ldS_b (n := bs ps[1 + k]) (by rw [Addr.add_add, show 1 + (k : Int).toNat * 1 = 1 + k by omega]; exact hcell2) ?_)
        refine bind_w (wstr_spec B4 E4.size (by omega) (fun h5 r5 n5 B5 K5 => ?_))
        have E5 := K5.ext E4 B4 (Nat.le_refl _)
        refine bind_w (wstr_spec B5 E5.size (by rw [List.length_append]; omega) (fun h6 r6 n6 B6 K6 => ?_))
        have E6 := K6.ext E5 B5 (Nat.le_refl _)
        rw [w64 (by omega) (by omega)]
        refine hself2 _ _ ⟨k + 1, by simp, by omega, E6, r6, ?_⟩ (by omega)
        rw [htk, ← List.append_assoc, ← List.append_assoc]
        exact B6
      · have hge : k = ps.length - 1 := by have := of_decide_eq_false hc; omega
        subst hge
        rw [List.take_of_length_le (by simp), ← hj0] at B4
        refine bind_w (bstr_spec B4 (by omega) (fun h5 K5 _ => pure_w (H _ (K5.ext E4 B4 (Nat.le_refl _)))))
end Gx
namespace Gx
open Go
set_option linter.unusedVariables false
set_option linter.unusedSimpArgs false
/-! ### The text of a value -/
def shw (ev od : List UInt8) : List (List UInt8) → List UInt8
  | [] => []
  | [a] => a
  | a :: b :: r => a ++ (ev ++ shw od ev (b :: r))
def prs : List (List UInt8) → List (List UInt8)
  | [] => []
  | [a] => [a]
  | a :: b :: r => (a ++ ([58, 32] ++ b)) :: prs r
theorem jn_shw (sep : List UInt8) : ∀ l, jn sep l = shw sep sep l
  | [] => rfl
  | [a] => rfl
  | a :: b :: r => by rw [jn, shw, jn_shw sep (b :: r)]
theorem jn_prs : ∀ l : List (List UInt8), jn [44, 32] (prs l) = shw [58, 32] [44, 32] l
  | [] => rfl
  | [a] => rfl
  | [a, b] => by simp [prs, jn, shw]
  | a :: b :: c :: r => by
    have ih := jn_prs (c :: r)
    rw [prs, jn_cons]
    rw [shw, shw, ← ih]
    match hp : prs (c :: r) with
    | [] => cases r <;> simp [prs] at hp
    | p :: ps => rw [jn_cons, List.flatMap_cons]; simp
theorem prs_even : ∀ (l : List (List UInt8)) (a : List UInt8), l.length % 2 = 0 → prs (l ++ [a]) = prs l ++ [a]
  | [], a, _ => rfl
  | [x], a, h => by simp at h
  | x :: y :: r, a, h => by
    rw [List.cons_append, List.cons_append, prs, prs, prs_even r a (by simp at h; omega)]; rfl
theorem prs_odd : ∀ (l : List (List UInt8)) (a b : List UInt8), l.length % 2 = 0 → prs (l ++ [a, b]) = prs l ++ [a ++ ([58, 32] ++ b)]
  | [], a, b, _ => rfl
  | [x], a, b, h => by simp at h
  | x :: y :: r, a, b, h => by
    rw [List.cons_append, List.cons_append, prs, prs, prs_odd r a b (by simp at h; omega)]; rfl
theorem prs_len : ∀ l : List (List UInt8), (prs l).length ≤ l.length
  | [] => by simp [prs]
  | [a] => by simp [prs]
  | a :: b :: r => by have := prs_len r; simp [prs]; omega
theorem shw_len : ∀ (ev od : List UInt8) (l : List (List UInt8)), (l.map List.length).sum ≤ (shw ev od l).length
  | _, _, [] => by simp [shw]
  | _, _, [a] => by simp [shw]
  | ev, od, a :: b :: r => by
    have := shw_len od ev (b :: r)
    rw [shw, List.length_append, List.length_append, List.map_cons, List.sum_cons]
    omega
theorem sum_mem {l : List (List UInt8)} {a : List UInt8} (h : a ∈ l) : a.length ≤ (l.map List.length).sum := by
  induction l with
  | nil => cases h
  | cons x l ih =>
    rw [List.map_cons, List.sum_cons]
    rcases List.mem_cons.1 h with rfl | h
    · omega
    · have := ih h; omega
theorem sum_pos {l : List (List UInt8)} (h : ∀ a ∈ l, 1 ≤ a.length) : l.length ≤ (l.map List.length).sum := by
  induction l with
  | nil => simp
  | cons x l ih =>
    rw [List.map_cons, List.sum_cons, List.length_cons]
    have := ih (fun a ha => h a (List.mem_cons_of_mem _ ha))
    have := h x (by simp)
    omega
def txt : Nat → Vl → List UInt8
  | 0, _ => [63]
  | d + 1, .mk k n s l =>
    if k = 1 then Lib.itoa n else if k = 2 then quoteB s else if k = 3 then (if n = 1 then [116, 114, 117, 101] else [102, 97, 108, 115, 101])
    else if k = 6 then [118, 91] ++ Lib.itoa n ++ [93] else if k = 7 then [101, 91] ++ Lib.itoa n ++ [93]
    else if k = 4 then [91] ++ shw [44, 32] [44, 32] (l.map (txt d)) ++ [93] else if k = 5 then [123] ++ shw [58, 32] [44, 32] (l.map (txt d)) ++ [125] else [63]
theorem itoa_pos (n : Int) : 1 ≤ (Lib.itoa n).length := by
  have : ∀ u, 1 ≤ (Lib.decDigits u).length := fun u => by unfold Lib.decDigits; split <;> simp
  unfold Lib.itoa
  split
  · simp
  · exact this _
theorem txt_pos : ∀ (d : Nat) (v : Vl), 1 ≤ (txt d v).length
  | 0, _ => by simp [txt]
  | d + 1, .mk k n s l => by
    unfold txt
    repeat' split
    all_goals first | exact itoa_pos n | (simp [quoteB]; done) | (simp; omega)
theorem Gw.set {lo : Nat} {h : Heap} {r : Sl} {vs : List Value} {b j : Nat} {v : Value} (H : Gw lo h r 1 vs) (hb : r.base = some ⟨b, 0, none⟩) (hj : j < vs.length) : Gw lo (hset h ⟨b, j, none⟩ v) r 1 (vs.set j v) := by
  rcases H with ⟨rfl, rfl⟩ | ⟨g, ty, cells, H⟩
  · cases hb
  · rw [H.base] at hb
    cases hb
    refine .inr ⟨b, ty, _, H.base, H.lo, hset_at H.blk, by rw [Array.size_setIfInBounds]; exact H.size, H.cap, by rw [List.length_set]; exact H.len, fun i x hx => ?_⟩
    rw [List.getElem?_set] at hx
    rw [Array.getElem?_setIfInBounds]
    split at hx
    · rename_i hi
      subst hi
      cases hx
      have hc := H.len
      have := H.size
      have hcap := H.cap
      rw [if_pos rfl, if_pos (by omega)]
    · rename_i hi
      rw [if_neg hi]
      exact H.get i x hx
theorem ixS2 {β : Type} {lo : Nat} {h : Heap} {Q : β → Heap → Prop} {r : Sl} {ps : List (List UInt8)} {i : Nat} {t : Int} {f : Addr → M β} (G : Gw lo h r 1 (ps.map sv)) (hi : i < ps.length) (ht : t = (i : Int))
    (H : ∀ b, r.base = some ⟨b, 0, none⟩ → hcell h ⟨b, i, none⟩ = some (.string (bs ps[i])) → hfrozen h ⟨b, i, none⟩ = false → (f ⟨b, i, none⟩).wp h Q) : (ixL r t 1 >>= f).wp h Q := by
  subst ht
  have hl := G.len
  simp at hl
  obtain ⟨b, hb, hc⟩ := G.cell (j := i) (v := sv ps[i]) (by simp [hi])
  refine ixL_b (by omega) (by omega) hb ?_
  rw [add_mk, show 0 + (i : Int).toNat * 1 = i by omega]
  refine H b hb hc ?_
  rcases G with ⟨rfl, _⟩ | ⟨g, ty, cells, R⟩
  · cases hb
  · rw [R.base] at hb; cases hb
    exact hfrozen_blk R.blk
theorem lit_b {β : Type} {h : Heap} {Q : β → Heap → Prop} {a c : List UInt8} {x : List UInt8} {f : ByteArray → M β} (hm : a.length + x.length + c.length ≤ 9223372036854775807) (H : (f (bs (a ++ x ++ c))).wp h Q) : (sCat (bs a) (bs x) >>= fun y => sCat y (bs c) >>= f).wp h Q :=
  sCat_b (by omega) (sCat_b (by simp only [List.length_append]; omega) H)
/-- what the parts of a value come to -/
def prt (k : Int) (l : List (List UInt8)) : List (List UInt8) := if k = 5 then prs l else l
theorem vtext_spec : ∀ (d : Nat) (v : Vl) {h : Heap} {Q : ByteArray → Heap → Prop} {x : Array Value}, d ≤ 8 → VRep h v x → PowTab h → DbTab h → (txt d v).length ≤ 1099511627776 → (∀ h', Ext h h' → Q (bs (txt d v)) h') → (value_text x ((9 - d : Nat) : Int)).wp h Q := by
  intro d
  induction d with
  | zero =>
    rintro v h Q x _ hx _ _ _ H
    unfold value_text
    exact mkV_b (fun h1 e1 z1 g1 => iteT rfl (pure_w (H _ e1)))
  | succ d ih =>
    rintro ⟨k, n, s, l⟩ h Q x hd hx hp hdb hm H
    obtain ⟨xs, rfl, k1, n1, s1, r1⟩ := VRep.eq.1 hx
    unfold value_text
    refine mkV_b (fun h1 E z1 g1 => ?_)
    have c0 : hcell h1 ((⟨h.size, 0, none⟩ : Addr).add 0) = some (.int .i64 k) := by rw [blk_cell g1]; rfl
    have c1 : hcell h1 ((⟨h.size, 0, none⟩ : Addr).add 1) = some (.int .i64 n) := by rw [blk_cell g1]; rfl
    have c2 : hcell h1 ((⟨h.size, 0, none⟩ : Addr).add 2) = some (.string (bs s)) := by rw [blk_cell g1]; rfl
    have c3 : hcell h1 ((⟨h.size, 0, none⟩ : Addr).add 3) = some xs.v := by rw [blk_cell g1]; rfl
    have hpE := hp.ext E
    have hdE := hdb.ext E
    have hil := itoa_len n1
    refine iteF (by simp; omega) (ldI_b c0 (ite_w (fun h1k => ?_) (fun h1k => ?_)))
    · have h1k : k = 1 := by simpa using h1k
      unfold txt at H
      rw [if_pos h1k] at H
      exact ldI_b c1 (bind_w (ntext_spec n1 hpE (fun h2 e2 => pure_w (H _ (E.trans e2)))))
    have h1k : ¬ k = 1 := by simpa using h1k
    unfold txt at H hm
    rw [if_neg h1k] at H hm
    refine ite_w (fun h2k => ?_) (fun h2k => ?_)
    · have h2k : k = 2 := by simpa using h2k
      rw [if_pos h2k] at H hm
      exact ldS_b c2 (bind_w (vquote_spec (by omega) hdE (fun h2 e2 => pure_w (H _ (E.trans e2)))))
    have h2k : ¬ k = 2 := by simpa using h2k
    rw [if_neg h2k] at H hm
    refine ite_w (fun h3k => ?_) (fun h3k => ?_)
    · have h3k : k = 3 := by simpa using h3k
      rw [if_pos h3k] at H
      refine ldI_b c1 (ite_w (fun hn => ?_) (fun hn => ?_))
      · have hn : n = 1 := by simpa using hn
        rw [if_pos hn] at H
        exact pure_w (H _ E)
      · have hn : ¬ n = 1 := by simpa using hn
        rw [if_neg hn] at H
        exact pure_w (H _ E)
    have h3k : ¬ k = 3 := by simpa using h3k
    rw [if_neg h3k] at H hm
    refine ite_w (fun h6k => ?_) (fun h6k => ?_)
    · have h6k : k = 6 := by simpa using h6k
      rw [if_pos h6k] at H
      exact ldI_b c1 (bind_w (ntext_spec n1 hpE (fun h2 e2 => lit_b (a := [118, 91]) (c := [93]) (by simp; omega) (pure_w (H _ (E.trans e2))))))
    have h6k : ¬ k = 6 := by simpa using h6k
    rw [if_neg h6k] at H hm
    refine ite_w (fun h7k => ?_) (fun h7k => ?_)
    · have h7k : k = 7 := by simpa using h7k
      rw [if_pos h7k] at H
      exact ldI_b c1 (bind_w (ntext_spec n1 hpE (fun h2 e2 => lit_b (a := [101, 91]) (c := [93]) (by simp; omega) (pure_w (H _ (E.trans e2))))))
    have h7k : ¬ k = 7 := by simpa using h7k
    rw [if_neg h7k] at H hm
    have j1 : (value_text_j1 ((9 - (d + 1) : Nat) : Int) ⟨h.size, 0, none⟩ (decide (k = 4 ∨ k = 5))).wp h1 Q := by
      unfold value_text_j1
      refine ite_w (fun h45 => ?_) (fun h45 => ?_)
      · have h45 : k = 4 ∨ k = 5 := by simpa using h45
        -- one form of what is told
        have hform : ∃ a c, (∀ h', Ext h h' → Q (bs (a ++ jn [44, 32] (prt k (l.map (txt d))) ++ c)) h') ∧ a.length = 1 ∧ c.length = 1 ∧ (jn [44, 32] (prt k (l.map (txt d)))).length ≤ 1099511627776 ∧ ((l.map (txt d)).map List.length).sum ≤ 1099511627776 ∧ (k = 5 → a = [123] ∧ c = [125]) ∧ (¬ k = 5 → a = [91] ∧ c = [93]) := by
          rcases h45 with h4 | h5
          · rw [if_pos h4] at H hm
            have h5 : ¬ k = 5 := by omega
            have hs := shw_len [44, 32] [44, 32] (l.map (txt d))
            simp only [List.length_append, List.length_cons, List.length_nil] at hm
            refine ⟨[91], [93], ?_, rfl, rfl, ?_, by omega, fun h => absurd h h5, fun _ => ⟨rfl, rfl⟩⟩
            · unfold prt; rw [if_neg h5, jn_shw]; exact H
            · unfold prt; rw [if_neg h5, jn_shw]; omega
          · have h4 : ¬ k = 4 := by omega
            rw [if_neg h4, if_pos h5] at H hm
            have hs := shw_len [58, 32] [44, 32] (l.map (txt d))
            simp only [List.length_append, List.length_cons, List.length_nil] at hm
            refine ⟨[123], [125], ?_, rfl, rfl, ?_, by omega, fun _ => ⟨rfl, rfl⟩, fun h => absurd h5 h⟩
            · unfold prt; rw [if_pos h5, jn_prs]; exact H
            · unfold prt; rw [if_pos h5, jn_prs]; omega
        obtain ⟨a, c, HQ, ha, hc, hjm, hsum, h5a, h5b⟩ := hform
        have hcnt : l.length ≤ 1099511627776 := by
          have := sum_pos (l := l.map (txt d)) (fun a ha => by obtain ⟨y, _, rfl⟩ := List.mem_map.1 ha; exact txt_pos d y)
          rw [List.length_map] at this
          omega
        have hel : ∀ i (hi : i < l.length), (txt d l[i]).length ≤ 1099511627776 := fun i hi => by
          have := sum_mem (l := l.map (txt d)) (a := txt d l[i]) (List.mem_map.2 ⟨_, List.getElem_mem hi, rfl⟩)
          omega
        refine ldL_b c3 ?_
        have hxl := r1.len
        refine M.loop_inv (fun (t : Sl × Int) h2 => ∃ i : Nat, t.2 = (i : Int) ∧ i ≤ l.length ∧ Ext h1 h2 ∧ Gw h1.size h2 t.1 1 ((prt k ((l.take i).map (txt d))).map sv)) (fun t _ => ((l.length : Int) - t.2).toNat) ?_ ⟨0, rfl, Nat.zero_le _, Ext.refl _, by rw [show prt k (((l.take 0).map (txt d))) = [] by unfold prt; split <;> simp [prs]]; exact Gw.nil _ _ _⟩
        rintro ⟨r, t⟩ h2 ⟨i, hti, hi, E2, G⟩ self hself
        have hti : t = (i : Int) := hti
        subst hti
        have G : Gw h1.size h2 r 1 ((prt k ((l.take i).map (txt d))).map sv) := G
        unfold value_text_l1
        rw [hxl]
        have hrl := G.len
        rw [List.length_map, Nat.mul_one] at hrl
        have hrl2 : r.len ≤ i := by
          have : (prt k ((l.take i).map (txt d))).length ≤ i := by
            unfold prt
            split
            · have := prs_len ((l.take i).map (txt d)); rw [List.length_map, List.length_take] at this; omega
            · rw [List.length_map, List.length_take]; omega
          omega
        refine ite_w (fun hlt => ?_) (fun hge => ?_)
        · have hlt : i < l.length := by have := of_decide_eq_true hlt; omega
          refine ixV_b (r1.ext (E.trans E2)) hlt rfl (fun b cs hs hcs hv => ldG_b hs hcs (mkV_b (fun h3 e3 z3 g3 => need_b hs (stR (vs := cs) g3 (by rw [hs]; decide) hv.one (fun h4 u4 g4 => ?_)))))
          rw [lay_full (by rw [Array.length_toList, hs]; rfl), Array.toArray_toList] at g4
          have E4 : Ext h2 h4 := e3.upd u4 (Nat.le_refl _)
          refine ldV_b (v := l[i]) g4 hs ?_
          rw [show IntKind.wrap .i64 (((9 - (d + 1) : Nat) : Int) + 1) = ((9 - d : Nat) : Int) by rw [w64 (by omega) (by omega)]; omega]
          have E24 := E2.trans E4
          refine bind_w (callF_w (S_value_text _ _) (ih l[i] (by omega) (hv.ext E4) (hpE.ext E24) (hdE.ext E24) (hel i hlt) (fun h5 e5 => ?_)))
          have E5 := E24.trans e5
          refine ldI_b (E5.cell c0) ?_
          have hr5 : IntKind.wrap .i64 ((i : Int) + 1) = ((i + 1 : Nat) : Int) := by rw [w64 (by omega) (by omega)]; simp
          have G5 := G.ext (E4.trans e5)
          have htk : (l.take (i + 1)).map (txt d) = (l.take i).map (txt d) ++ [txt d l[i]] := by
            rw [List.take_succ_eq_append_getElem hlt, List.map_append]; rfl
          refine and_b (c := decide (i % 2 = 1)) (fun _ Q' hq => pure_w (by rw [show ((Int.tmod (i : Int) 2) == 1) = decide (i % 2 = 1) by rw [Int.tmod_eq_emod_of_nonneg (by omega), Bool.eq_iff_iff]; simp; omega]; exact hq)) ?_
          refine ite_w (fun hodd => ?_) (fun heven => ?_)
          · obtain ⟨h5k, hodd⟩ : k = 5 ∧ i % 2 = 1 := by simpa using hodd
            obtain ⟨i', rfl⟩ : ∃ i', i = i' + 1 := ⟨i - 1, by omega⟩
            have hti' : (l.take (i' + 1)).map (txt d) = (l.take i').map (txt d) ++ [txt d l[i']] := by
              rw [List.take_succ_eq_append_getElem (by omega), List.map_append]; rfl
            have hlen' : ((l.take i').map (txt d)).length % 2 = 0 := by simp; omega
            have hp1 : prt k ((l.take (i' + 1)).map (txt d)) = prs ((l.take i').map (txt d)) ++ [txt d l[i']] := by
              unfold prt; rw [if_pos h5k, hti', prs_even _ _ hlen']
            have hp2 : prt k ((l.take (i' + 1 + 1)).map (txt d)) = prs ((l.take i').map (txt d)) ++ [txt d l[i'] ++ ([58, 32] ++ txt d l[i' + 1])] := by
              unfold prt; rw [if_pos h5k, htk, hti', List.append_assoc]; exact prs_odd _ _ _ hlen'
            rw [hp1] at G5 hrl
            have hlast : r.len = (prs ((l.take i').map (txt d))).length + 1 := by rw [← G5.len.trans (Nat.mul_one _)]; simp
            have hidx : IntKind.wrap .i64 ((r.len : Int) - 1) = (((prs ((l.take i').map (txt d))).length : Nat) : Int) := by rw [w64 (by omega) (by omega)]; omega
            rw [hidx]
            have hle0 := hel i' (by omega)
            have hle1 := hel (i' + 1) hlt
            refine ixS2 (i := (prs ((l.take i').map (txt d))).length) G5 (by simp) rfl (fun b' hb' hc' hf' => ldS_b hc' ?_)
            have hget : (prs ((l.take i').map (txt d)) ++ [txt d l[i']])[(prs ((l.take i').map (txt d))).length]'(by simp) = txt d l[i'] := by simp
            rw [hget] at hc' ⊢
            refine sCat_b (x := [58, 32]) (by simp; omega) (sCat_b (by simp; omega) ?_)
            refine ixS2 (i := (prs ((l.take i').map (txt d))).length) G5 (by simp) rfl (fun b2 hb2 hc2 hf2 => stV_b hc2 hf2 rfl ?_)
            rw [hb2] at hb'
            cases hb'
            unfold value_text_j2
            rw [hr5]
            refine hself (_, _) _ ⟨i' + 1 + 1, rfl, by omega, ?_, ?_⟩ (by dsimp only; omega)
            · have hb3 : h1.size ≤ b' := (G5.lt ⟨_, hb2, rfl⟩).2
              exact ⟨by rw [hset_size]; exact E5.size, fun j hj => by rw [hset_ne (by show j ≠ b'; omega)]; exact E5.same j hj⟩
            · have := G5.set (v := sv (txt d l[i'] ++ ([58, 32] ++ txt d l[i' + 1]))) (j := (prs ((l.take i').map (txt d))).length) hb2 (by simp)
              dsimp only
              rw [hp2]
              rw [List.map_append, List.set_append_right _ _ (by simp)] at this
              simpa [sv] using this
          · have heven : ¬ (k = 5 ∧ i % 2 = 1) := by simpa using heven
            have hp2 : prt k ((l.take (i + 1)).map (txt d)) = prt k ((l.take i).map (txt d)) ++ [txt d l[i]] := by
              unfold prt
              by_cases h5k : k = 5
              · rw [if_pos h5k, if_pos h5k, htk, prs_even _ _ (by simp; omega)]
              · rw [if_neg h5k, if_neg h5k, htk]
            refine bdL_b ?_
            have e6 := Ext.push h5 (.cells #[.string (bs (txt d l[i]))] ty_string)
            have g6 : (h5.push (.cells #[.string (bs (txt d l[i]))] ty_string))[h5.size]? = some (.cells #[.string (bs (txt d l[i]))] ty_string (0, 0)) := get_push_eq
            generalize h5.push (.cells #[.string (bs (txt d l[i]))] ty_string) = h6 at e6 g6 ⊢
            have E6 := E5.trans e6
            have G6 := G5.ext e6
            refine ap_grow (vs := (prt k ((l.take i).map (txt d))).map sv) (news := [sv (txt d l[i])]) rfl G6 rfl (.inr ⟨_, rfl, fun j v hj => ?_⟩) (fun v hv => by simp at hv; subst hv; rfl) (by dsimp only; omega) (by dsimp only; omega) E6.size (fun h7 r7 G7 hlen7 hs7 same7 on7 => ?_)
            · rw [add_mk, Nat.zero_add, hcell_blk g6]
              rw [show (#[.string (bs (txt d l[i]))] : Array Value) = [sv (txt d l[i])].toArray from rfl]
              simpa using hj
            · unfold value_text_j2
              rw [hr5]
              refine hself (_, _) _ ⟨i + 1, rfl, by omega, ?_, ?_⟩ (by dsimp only; omega)
              · exact ⟨Nat.le_trans E6.size hs7, fun j hj => (same7 j (Nat.lt_of_lt_of_le hj E6.size) (fun ho => by have := (G6.lt ho).2; omega)).trans (E6.same j hj)⟩
              · dsimp only
                rw [hp2, List.map_append]
                exact G7
        · have hge : i = l.length := by have := of_decide_eq_false hge; omega
          subst hge
          rw [List.take_length] at G
          have S : SsAt h2 r (prt k (l.map (txt d))) := ⟨by have := G.len; rw [List.length_map, Nat.mul_one] at this; exact this.symm, G.cap, G.reads⟩
          have hpl : (prt k (l.map (txt d))).length ≤ l.length := by
            unfold prt
            split
            · have := prs_len (l.map (txt d)); simp at this; exact this
            · simp
          refine bind_w (join_spec (sep := [44, 32]) S (by simp) (by simp) (by omega) (by omega) (fun h3 e3 => ?_))
          refine ldI_b ((E2.trans e3).cell c0) (ite_w (fun h5k => ?_) (fun h5k => ?_))
          · have h5k : k = 5 := by simpa using h5k
            obtain ⟨rfl, rfl⟩ := h5a h5k
            exact lit_b (a := [123]) (c := [125]) (by simp; omega) (pure_w (HQ _ ((E.trans E2).trans e3)))
          · have h5k : ¬ k = 5 := by simpa using h5k
            obtain ⟨rfl, rfl⟩ := h5b h5k
            exact lit_b (a := [91]) (c := [93]) (by simp; omega) (pure_w (HQ _ ((E.trans E2).trans e3)))
      · have h45 : ¬ (k = 4 ∨ k = 5) := by simpa using h45
        rw [if_neg (fun h => h45 (.inl h)), if_neg (fun h => h45 (.inr h))] at H
        exact pure_w (H _ E)
    refine ite_w (fun h4k => ?_) (fun h4k => ?_)
    · have h4k : k = 4 := by simpa using h4k
      have e : (k == 4) = decide (k = 4 ∨ k = 5) := by subst h4k; rfl
      rw [e]
      exact j1
    · have h4k : ¬ k = 4 := by simpa using h4k
      have e : (k == 5) = decide (k = 4 ∨ k = 5) := by rw [eqI, Bool.eq_iff_iff]; simp [h4k]
      rw [e]
      exact j1
end Gx
namespace Gx
open Go
set_option linter.unusedVariables false
set_option linter.unusedSimpArgs false
abbrev txV (v : Vl) : List UInt8 := txt 8 v
theorem vText_spec {v : Vl} {h : Heap} {Q : ByteArray → Heap → Prop} {x : Array Value} (hx : VRep h v x) (hp : PowTab h) (hd : DbTab h) (hm : (txV v).length ≤ 1099511627776) (H : ∀ h', Ext h h' → Q (bs (txV v)) h') : (value_Text x).wp h Q := by
  unfold value_Text
  exact mkV_b (fun h1 e1 z1 g1 => ldV_b (v := v) g1 hx.size (bind_w (vtext_spec 8 v (Nat.le_refl _) (hx.ext e1) (hp.ext e1) (hd.ext e1) hm (fun h2 e2 => pure_w (H _ (e1.trans e2))))))
def pick2 (i : Nat) (ev od : List UInt8) : List UInt8 := if i % 2 = 0 then ev else od
theorem shw_step (ev od a : List UInt8) (r : List (List UInt8)) : shw ev od (a :: r) = if r = [] then a else a ++ (ev ++ shw od ev r) := by
  cases r with
  | nil => rfl
  | cons b r => rw [if_neg (by simp)]; rfl
theorem rshows_spec {d : Nat} (hd : d ≤ 7) {l : List Vl} {h : Heap} {Q : ByteArray → Heap → Prop} {x : Sl} {ev od : List UInt8} (hx : VsRep h x l) (he : ev.length = 2) (ho : od.length = 2) (hm : (shw ev od (l.map (txt d))).length ≤ 1099511627776)
    (hg : ∀ j (hj : j < l.length) h1 c (Q1 : ByteArray → Heap → Prop), Ext h h1 → VRep h1 l[j] c → (∀ h2, Ext h1 h2 → Q1 (bs (txt d l[j])) h2) → (rambleref02_show c ((8 - d : Nat) : Int)).wp h1 Q1)
    (H : ∀ h', Ext h h' → Q (bs (shw ev od (l.map (txt d)))) h') : (rambleref02_shows x ((8 - (d + 1) : Nat) : Int) (bs ev) (bs od)).wp h Q := by
  unfold rambleref02_shows
  have hxl := hx.len
  have hxb := hx.big
  have hxc := hx.cap
  have hsum := shw_len ev od (l.map (txt d))
  have hcnt : l.length ≤ 1099511627776 := by
    have := sum_pos (l := l.map (txt d)) (fun a ha => by obtain ⟨y, _, rfl⟩ := List.mem_map.1 ha; exact txt_pos d y)
    rw [List.length_map] at this
    omega
  refine M.loop_inv (fun (t : ByteArray × Int) h' => Ext h h' ∧ ∃ (i : Nat) (s : List UInt8), t = (bs s, (i : Int)) ∧ i ≤ l.length ∧ s ++ shw (pick2 i ev od) (pick2 (i + 1) ev od) ((l.drop i).map (txt d)) = shw ev od (l.map (txt d))) (fun t _ => ((l.length : Int) - t.2).toNat) ?_ ⟨Ext.refl h, 0, [], rfl, Nat.zero_le _, by simp [pick2]⟩
  rintro t h' ⟨E, i, s, rfl, hi, hs⟩ self hself
  unfold rambleref02_shows_l1
  rw [hxl]
  have hls : s.length ≤ 1099511627776 := by rw [← hs, List.length_append] at hm; omega
  refine ite_w (fun hc => ?_) (fun hc => ?_)
  · have hlt : i < l.length := by have := of_decide_eq_true hc; omega
    have hti : (txt d l[i]).length ≤ 1099511627776 := by
      have := sum_mem (l := l.map (txt d)) (a := txt d l[i]) (List.mem_map.2 ⟨_, List.getElem_mem hlt, rfl⟩)
      omega
    rw [List.drop_eq_getElem_cons hlt, List.map_cons, shw_step] at hs
    refine ixV_b (hx.ext E) hlt rfl (fun a c hs' hcs hv => ldG_b hs' hcs ?_)
    rw [show IntKind.wrap .i64 (((8 - (d + 1) : Nat) : Int) + 1) = ((8 - d : Nat) : Int) by rw [w64 (by omega) (by omega)]; omega]
    refine bind_w (callF_w (S_rambleref02_show _ _) (hg i hlt h' c _ E hv (fun h2 e2 => ?_)))
    refine sCat_b (by omega) ?_
    rw [show IntKind.wrap .i64 ((i : Int) + 1) = ((i + 1 : Nat) : Int) by rw [w64 (by omega) (by omega)]; simp]
    have hnext : ∀ s', s' ++ shw (pick2 (i + 1) ev od) (pick2 (i + 1 + 1) ev od) ((l.drop (i + 1)).map (txt d)) = shw ev od (l.map (txt d)) → (rambleref02_shows_j1 self (i : Int) (bs s')).wp h2 Q := fun s' h' => by
      unfold rambleref02_shows_j1
      rw [show IntKind.wrap .i64 ((i : Int) + 1) = ((i + 1 : Nat) : Int) by rw [w64 (by omega) (by omega)]; simp]
      exact hself _ _ ⟨E.trans e2, i + 1, s', rfl, by omega, h'⟩ (by dsimp only; omega)
    have hpk : pick2 (i + 1 + 1) ev od = pick2 i ev od := by unfold pick2; rw [show (i + 1 + 1) % 2 = i % 2 by omega]
    rw [hpk] at hnext
    refine and_b (c := decide (i % 2 = 0)) (fun _ Q' hq => pure_w (by rw [show ((Int.tmod (i : Int) 2) == 0) = decide (i % 2 = 0) by rw [Int.tmod_eq_emod_of_nonneg (by omega), Bool.eq_iff_iff]; simp; omega]; exact hq)) ?_
    by_cases hmore : i + 1 < l.length
    · have hne : (l.drop (i + 1)).map (txt d) ≠ [] := by
        intro h0
        have : (l.drop (i + 1)).length = 0 := by simpa using congrArg List.length h0
        simp at this; omega
      rw [if_neg hne] at hs
      refine ite_w (fun hev => ?_) (fun hev => ?_)
      · have hev : i % 2 = 0 := by have := hev; simp at this; exact this.2
        refine sCat_b (by simp; omega) (hnext _ ?_)
        rw [← hs]
        have : pick2 i ev od = ev := by unfold pick2; rw [if_pos hev]
        rw [this]; simp
      · have hev : ¬ i % 2 = 0 := by
          intro h0
          have h1 : decide (((i + 1 : Nat) : Int) < (l.length : Int)) = true := by simp; omega
          rw [h1, decide_eq_true h0] at hev
          cases hev
        refine iteT (by simp; omega) (sCat_b (by simp; omega) (hnext _ ?_))
        rw [← hs]
        have : pick2 i ev od = od := by unfold pick2; rw [if_neg hev]
        rw [this]; simp
    · have h0 : (l.drop (i + 1)).map (txt d) = [] := by rw [List.drop_eq_nil_iff.2 (by omega)]; rfl
      rw [if_pos h0] at hs
      have hf : decide (((i + 1 : Nat) : Int) < (l.length : Int)) = false := by simp; omega
      rw [hf]
      refine iteF rfl (iteF rfl (hnext _ ?_))
      rw [h0, ← hs]; simp [shw]
  · have hge : i = l.length := by have := of_decide_eq_false hc; omega
    subst hge
    rw [List.drop_length] at hs
    have := H _ E
    rw [← hs] at this
    exact pure_w (by simpa [shw] using this)
theorem rshow_spec : ∀ (d : Nat) (v : Vl) {h : Heap} {Q : ByteArray → Heap → Prop} {x : Array Value}, d ≤ 8 → VRep h v x → (txt d v).length ≤ 1099511627776 → (∀ h', Ext h h' → Q (bs (txt d v)) h') → (rambleref02_show x ((8 - d : Nat) : Int)).wp h Q := by
  intro d
  induction d with
  | zero =>
    rintro v h Q x _ hx _ H
    unfold rambleref02_show
    exact mkV_b (fun h1 e1 z1 g1 => iteT rfl (pure_w (H _ e1)))
  | succ d ih =>
    rintro ⟨k, n, s, l⟩ h Q x hd hx hm H
    obtain ⟨xs, rfl, k1, n1, s1, r1⟩ := VRep.eq.1 hx
    unfold rambleref02_show
    refine mkV_b (fun h1 E z1 g1 => ?_)
    have c0 : hcell h1 ((⟨h.size, 0, none⟩ : Addr).add 0) = some (.int .i64 k) := by rw [blk_cell g1]; rfl
    have c1 : hcell h1 ((⟨h.size, 0, none⟩ : Addr).add 1) = some (.int .i64 n) := by rw [blk_cell g1]; rfl
    have c2 : hcell h1 ((⟨h.size, 0, none⟩ : Addr).add 2) = some (.string (bs s)) := by rw [blk_cell g1]; rfl
    have c3 : hcell h1 ((⟨h.size, 0, none⟩ : Addr).add 3) = some xs.v := by rw [blk_cell g1]; rfl
    have hil := itoa_len n1
    refine iteF (by simp; omega) (ldI_b c0 (ite_w (fun h1k => ?_) (fun h1k => ?_)))
    · have h1k : k = 1 := by simpa using h1k
      unfold txt at H
      rw [if_pos h1k] at H
      exact ldI_b c1 (bind_w (rtext1_spec n1 (fun h2 e2 => pure_w (H _ (E.trans e2)))))
    have h1k : ¬ k = 1 := by simpa using h1k
    unfold txt at H hm
    rw [if_neg h1k] at H hm
    refine ite_w (fun h2k => ?_) (fun h2k => ?_)
    · have h2k : k = 2 := by simpa using h2k
      rw [if_pos h2k] at H hm
      exact ldS_b c2 (bind_w (rquote_spec (by omega) (fun h2 e2 => pure_w (H _ (E.trans e2)))))
    have h2k : ¬ k = 2 := by simpa using h2k
    rw [if_neg h2k] at H hm
    refine ite_w (fun h3k => ?_) (fun h3k => ?_)
    · have h3k : k = 3 := by simpa using h3k
      rw [if_pos h3k] at H
      refine ldI_b c1 (ite_w (fun hn => ?_) (fun hn => ?_))
      · have hn : n = 1 := by simpa using hn
        rw [if_pos hn] at H
        exact pure_w (H _ E)
      · have hn : ¬ n = 1 := by simpa using hn
        rw [if_neg hn] at H
        exact pure_w (H _ E)
    have h3k : ¬ k = 3 := by simpa using h3k
    rw [if_neg h3k] at H hm
    refine ite_w (fun h6k => ?_) (fun h6k => ?_)
    · have h6k : k = 6 := by simpa using h6k
      rw [if_pos h6k] at H
      exact ldI_b c1 (bind_w (rtext1_spec n1 (fun h2 e2 => lit_b (a := [118, 91]) (c := [93]) (by simp; omega) (pure_w (H _ (E.trans e2))))))
    have h6k : ¬ k = 6 := by simpa using h6k
    rw [if_neg h6k] at H hm
    refine ite_w (fun h7k => ?_) (fun h7k => ?_)
    · have h7k : k = 7 := by simpa using h7k
      rw [if_pos h7k] at H
      exact ldI_b c1 (bind_w (rtext1_spec n1 (fun h2 e2 => lit_b (a := [101, 91]) (c := [93]) (by simp; omega) (pure_w (H _ (E.trans e2))))))
    have h7k : ¬ k = 7 := by simpa using h7k
    rw [if_neg h7k] at H hm
    refine ite_w (fun h4k => ?_) (fun h4k => ?_)
    · have h4k : k = 4 := by simpa using h4k
      rw [if_pos h4k] at H hm
      simp only [List.length_append, List.length_cons, List.length_nil] at hm
      exact ldL_b c3 (bind_w (callF_w (S_rambleref02_shows _ _ _ _) (rshows_spec (d := d) (by omega) (ev := [44, 32]) (od := [44, 32]) (r1.ext E) rfl rfl (by omega) (fun j hj h4 c Q1 e4 hv hq => ih _ (by omega) hv (by have := sum_mem (l := l.map (txt d)) (a := txt d l[j]) (List.mem_map.2 ⟨_, List.getElem_mem hj, rfl⟩); have := shw_len [44, 32] [44, 32] (l.map (txt d)); omega) hq) (fun h2 e2 => lit_b (a := [91]) (c := [93]) (by simp; omega) (pure_w (H _ (E.trans e2)))))))
    have h4k : ¬ k = 4 := by simpa using h4k
    rw [if_neg h4k] at H hm
    refine ite_w (fun h5k => ?_) (fun h5k => ?_)
    · have h5k : k = 5 := by simpa using h5k
      rw [if_pos h5k] at H hm
      simp only [List.length_append, List.length_cons, List.length_nil] at hm
      exact ldL_b c3 (bind_w (callF_w (S_rambleref02_shows _ _ _ _) (rshows_spec (d := d) (by omega) (ev := [58, 32]) (od := [44, 32]) (r1.ext E) rfl rfl (by omega) (fun j hj h4 c Q1 e4 hv hq => ih _ (by omega) hv (by have := sum_mem (l := l.map (txt d)) (a := txt d l[j]) (List.mem_map.2 ⟨_, List.getElem_mem hj, rfl⟩); have := shw_len [58, 32] [44, 32] (l.map (txt d)); omega) hq) (fun h2 e2 => lit_b (a := [123]) (c := [125]) (by simp; omega) (pure_w (H _ (E.trans e2)))))))
    · have h5k : ¬ k = 5 := by simpa using h5k
      rw [if_neg h5k] at H
      exact pure_w (H _ E)
theorem rText_spec {v : Vl} {h : Heap} {Q : ByteArray → Heap → Prop} {x : Array Value} (hx : VRep h v x) (hm : (txV v).length ≤ 1099511627776) (H : ∀ h', Ext h h' → Q (bs (txV v)) h') : (rambleref02_Text x).wp h Q := by
  unfold rambleref02_Text
  exact mkV_b (fun h1 e1 z1 g1 => ldV_b (v := v) g1 hx.size (bind_w (rshow_spec 8 v (Nat.le_refl _) (hx.ext e1) hm (fun h2 e2 => pure_w (H _ (e1.trans e2))))))
end Gx
namespace Gx
open Go
set_option linter.unusedVariables false
set_option linter.unusedSimpArgs false
/-! ### Columns: the keys, each once, rising -/
def evens : List Vl → List Vl
  | [] => []
  | [a] => [a]
  | a :: _ :: r => a :: evens r
theorem evens_len : ∀ l : List Vl, (evens l).length = (l.length + 1) / 2
  | [] => by simp [evens]
  | [a] => by simp [evens]
  | a :: b :: r => by rw [evens, List.length_cons, evens_len r, List.length_cons, List.length_cons]; omega
theorem evens_get : ∀ (l : List Vl) (i : Nat) (h : 2 * i < l.length) (h' : i < (evens l).length), (evens l)[i] = l[2 * i]
  | [], i, h, _ => by simp at h
  | [a], i, h, h' => by
    have : i = 0 := by simp at h; omega
    subst this; simp [evens]
  | a :: b :: r, 0, h, h' => by simp [evens]
  | a :: b :: r, i + 1, h, h' => by
    have h2 : 2 * i < r.length := by simp at h; omega
    have ih := evens_get r i h2 (by rw [evens_len]; omega)
    simp only [evens, List.getElem_cons_succ]
    rw [ih]
    simp only [show 2 * (i + 1) = 2 * i + 1 + 1 by omega, List.getElem_cons_succ]
theorem evens_mem {l : List Vl} {v : Vl} (h : v ∈ evens l) : v ∈ l := by
  obtain ⟨i, hi, rfl⟩ := List.getElem_of_mem h
  rw [evens_get l i (by rw [evens_len] at hi; omega) hi]
  exact List.getElem_mem _
def Inc (l : List Vl) : Prop := l.Pairwise (fun a b => cmpV a b < 0)
theorem cpt_inc : ∀ l : List Vl, l.Pairwise (fun a b => ¬ cmpV b a < 0) → Inc (cpt l) ∧ ∀ x, x ∈ cpt l ↔ x ∈ l
  | [], _ => ⟨List.Pairwise.nil, fun x => Iff.rfl⟩
  | [a], _ => ⟨List.pairwise_singleton _ _, fun x => Iff.rfl⟩
  | a :: b :: r, h => by
    rw [List.pairwise_cons] at h
    obtain ⟨i1, i2⟩ := cpt_inc (b :: r) h.2
    rw [cpt]
    by_cases hc : cmpV b a = 0
    · have := (cmpV_eq b a).1 hc
      subst this
      rw [if_pos hc]
      exact ⟨i1, fun x => by rw [i2]; simp⟩
    · rw [if_neg hc]
      refine ⟨List.pairwise_cons.2 ⟨fun x hx => ?_, i1⟩, fun x => by rw [List.mem_cons, i2, List.mem_cons (a := x) (b := a)]⟩
      have hx := (i2 x).1 hx
      have hb : cmpV a b < 0 := by
        have := h.1 b (by simp)
        have := cmpV_anti a b
        omega
      rcases List.mem_cons.1 hx with rfl | hx'
      · exact hb
      · have h2 := (List.pairwise_cons.1 h.2).1 x hx'
        have h3 := cmpV_anti b x
        by_cases h4 : cmpV b x = 0
        · rw [← (cmpV_eq b x).1 h4]; exact hb
        · exact cmpV_trans hb (by omega)
theorem Inc.head {a b : Vl} {l : List Vl} (h : Inc (a :: l)) (hb : b ∈ l) : cmpV a b < 0 := (List.pairwise_cons.1 h).1 b hb
theorem Inc.uniq : ∀ {a b : List Vl}, Inc a → Inc b → (∀ x, x ∈ a ↔ x ∈ b) → a = b
  | [], [], _, _, _ => rfl
  | [], y :: b, _, _, h => by have := (h y).2 (by simp); cases this
  | x :: a, [], _, _, h => by have := (h x).1 (by simp); cases this
  | x :: a, y :: b, ha, hb, h => by
    have hxy : x = y := by
      rcases List.mem_cons.1 ((h x).1 (by simp)) with e | e
      · exact e
      · rcases List.mem_cons.1 ((h y).2 (by simp)) with e' | e'
        · exact e'.symm
        · have h1 := hb.head e
          have h2 := ha.head e'
          have := cmpV_anti x y
          omega
    subst hxy
    have : a = b := Inc.uniq (List.pairwise_cons.1 ha).2 (List.pairwise_cons.1 hb).2 (fun z => by
      constructor
      · intro hz
        rcases List.mem_cons.1 ((h z).1 (List.mem_cons_of_mem _ hz)) with e | e
        · subst e
          have := ha.head hz
          rw [cmpV_self] at this; omega
        · exact e
      · intro hz
        rcases List.mem_cons.1 ((h z).2 (List.mem_cons_of_mem _ hz)) with e | e
        · subst e
          have := hb.head hz
          rw [cmpV_self] at this; omega
        · exact e)
    rw [this]
/-! ### The text of a table -/
def keysOf (l : List Vl) : List Vl := l.flatMap (fun v => evens v.l)
def okTab (l : List Vl) : Bool := l.all (fun v => decide (v.k = 5) && (evens v.l).all (fun k => decide (k.k = 2)))
def lineT (ps : List (List UInt8)) : List UInt8 := jn [32, 124, 32] ps ++ [10]
def cellT (v k : Vl) : List UInt8 := match getV k v.l with | some x => txV x | none => [45]
def tabT (C l : List Vl) : List UInt8 := lineT (C.map txV) ++ l.flatMap (fun v => lineT (C.map (cellT v)))
/-- the columns: there is one such list -/
def Cols (l C : List Vl) : Prop := Inc C ∧ ∀ x, x ∈ C ↔ x ∈ keysOf l
theorem Cols.uniq {l C C' : List Vl} (h : Cols l C) (h' : Cols l C') : C = C' := Inc.uniq h.1 h'.1 (fun x => (h.2 x).trans (h'.2 x).symm)
end Gx
namespace Gx
open Go
set_option linter.unusedVariables false
set_option linter.unusedSimpArgs false
/-! ### result.Table: the keys are gathered -/
theorem shut_spec : ∀ {xm : List Nat} {h : Heap} {Q : Unit → Heap → Prop}, xm.Nodup → (∀ b ∈ xm, h[b]? = some (.deferred (some []))) → (∀ h', h'.size = h.size → (∀ i, i ∉ xm → h'[i]? = h[i]?) → Q () h') → (shut xm).wp h Q
  | [], h, Q, _, _, H => H h rfl (fun i _ => rfl)
  | b :: r, h, Q, nd, hd, H => by
    rw [List.nodup_cons] at nd
    refine ⟨hd b (by simp), shut_spec nd.2 (fun c hc => ?_) (fun h' hs he => H h' (by rw [hs]; simp) (fun i hi => ?_))⟩
    · rw [Array.getElem?_setIfInBounds, if_neg (fun e => nd.1 (by rw [e]; exact hc))]
      exact hd c (List.mem_cons_of_mem _ hc)
    · rw [he i (fun h => hi (List.mem_cons_of_mem _ h)), Array.getElem?_setIfInBounds, if_neg (fun e => hi (by rw [e]; simp))]
/-- what stands while the keys are gathered -/
structure TJ (h0 : Heap) (b2 b3 b5 : Nat) (xm : List Nat) (L : Nat → Prop) (K : List Vl) (h : Heap) : Prop where
  ext : Ext h0 h
  c2 : ∃ s, h[b2]? = some (.cells #[.string s] ty_string (0, 0))
  c3 : ∃ n, h[b3]? = some (.cells #[.int .i64 n] ty_api_Errno (0, 0))
  c5 : ∃ r css, h[b5]? = some (.cells #[r.v] ty_sl_api_Value (0, 0)) ∧ VGw (b5 + 1) (· < h0.size) h r css K ∧ ∀ i, L i → ¬ Sl.on r i
  df : ∀ b ∈ xm, h[b]? = some (.deferred (some []))
structure Blks (h0 : Heap) (b2 b3 b5 : Nat) : Prop where
  l2 : h0.size ≤ b2
  l3 : b2 < b3
  l5 : b3 < b5
theorem TJ.more {h0 h h' : Heap} {b2 b3 b5 : Nat} {L : Nat → Prop} {xm : List Nat} {K : List Vl} (T : TJ h0 b2 b3 b5 xm L K h) (e : Ext h h') : TJ h0 b2 b3 b5 xm L K h' := by
  obtain ⟨s, c2⟩ := T.c2
  obtain ⟨n, c3⟩ := T.c3
  obtain ⟨r, css, c5, G, off⟩ := T.c5
  exact ⟨T.ext.trans e, ⟨s, e.blk c2⟩, ⟨n, e.blk c3⟩, ⟨r, css, e.blk c5, G.same (fun b hb => e.same b (G.gw.lt hb).1) (fun b hb => e.same b (Nat.lt_of_lt_of_le hb T.ext.size)), off⟩, fun b hb => e.blk (T.df b hb)⟩
theorem TJ.upd {h0 h h' : Heap} {b2 b3 b5 lp : Nat} {L : Nat → Prop} {xm : List Nat} {K : List Vl} (B : Blks h0 b2 b3 b5) (T : TJ h0 b2 b3 b5 xm L K h) (u : Upd lp h h') (hL : L lp) (hlp : b5 < lp) (hx : lp ∉ xm) : TJ h0 b2 b3 b5 xm L K h' := by
  obtain ⟨s, c2⟩ := T.c2
  obtain ⟨n, c3⟩ := T.c3
  obtain ⟨r, css, c5, G, off⟩ := T.c5
  have := B.l2; have := B.l3; have := B.l5
  exact ⟨T.ext.upd u (by omega), ⟨s, (u.ne _ (by omega)).trans c2⟩, ⟨n, (u.ne _ (by omega)).trans c3⟩, ⟨r, css, (u.ne _ (by omega)).trans c5, G.same (fun b hb => u.ne b (fun e => off lp hL (e ▸ hb))) (fun b hb => u.ne b (by omega)), off⟩, fun b hb => (u.ne b (fun e => hx (e ▸ hb))).trans (T.df b hb)⟩
/-- other blocks that are none of the row's -/
theorem TJ.lp {h0 h : Heap} {b2 b3 b5 : Nat} {L L' : Nat → Prop} {xm : List Nat} {K : List Vl} (T : TJ h0 b2 b3 b5 xm L K h) (h1 : ∀ r css, VGw (b5 + 1) (· < h0.size) h r css K → (∀ i, L i → ¬ Sl.on r i) → ∀ i, L' i → ¬ Sl.on r i) : TJ h0 b2 b3 b5 xm L' K h := by
  obtain ⟨r, css, c5, G, off⟩ := T.c5
  exact ⟨T.ext, T.c2, T.c3, ⟨r, css, c5, G, h1 r css G off⟩, T.df⟩
theorem TJ.xs {h0 h : Heap} {b2 b3 b5 : Nat} {L : Nat → Prop} {xm xm' : List Nat} {K : List Vl} (T : TJ h0 b2 b3 b5 xm L K h) (h1 : ∀ b ∈ xm', h[b]? = some (.deferred (some []))) : TJ h0 b2 b3 b5 xm' L K h :=
  ⟨T.ext, T.c2, T.c3, T.c5, h1⟩
theorem one_cell {h : Heap} {b : Nat} {v : Value} {t : TypeId} {z : Nat × Nat} (hb : h[b]? = some (.cells #[v] t z)) : hcell h ⟨b, 0, none⟩ = some v := by rw [hcell_blk hb]; rfl
theorem set_one {h : Heap} {b : Nat} {v u : Value} {t : TypeId} (hb : h[b]? = some (.cells #[v] t (0, 0))) : (hset h ⟨b, 0, none⟩ u)[b]? = some (.cells #[u] t (0, 0)) := by rw [hset_at hb]; rfl
/-- the table is refused -/
structure TE (h0 : Heap) (b2 b3 : Nat) (xm : List Nat) (h : Heap) : Prop where
  ext : Ext h0 h
  c2 : h[b2]? = some (.cells #[.string ByteArray.empty] ty_string (0, 0))
  c3 : h[b3]? = some (.cells #[.int .i64 21] ty_api_Errno (0, 0))
  df : ∀ b ∈ xm, h[b]? = some (.deferred (some []))
theorem refuse_b {β : Type} {h0 h : Heap} {b2 b3 b5 : Nat} {L : Nat → Prop} {xm : List Nat} {K : List Vl} {Q : β → Heap → Prop} {f : Unit → M β} (B : Blks h0 b2 b3 b5) (T : TJ h0 b2 b3 b5 xm L K h)
    (H : ∀ h', TE h0 b2 b3 xm h' → (∀ i, i ≠ b2 → i ≠ b3 → h'[i]? = h[i]?) → (f ()).wp h' Q) : (stV ⟨b2, 0, none⟩ (.string ByteArray.empty) >>= fun _ => stV ⟨b3, 0, none⟩ (.int .i64 21) >>= f).wp h Q := by
  obtain ⟨s, c2⟩ := T.c2
  obtain ⟨n, c3⟩ := T.c3
  have := B.l2; have := B.l3
  refine stV_b (one_cell c2) (hfrozen_blk c2) rfl ?_
  have u1 := Upd.hset h b2 0 (.string ByteArray.empty)
  have d2 := set_one (u := .string ByteArray.empty) c2
  generalize hset h ⟨b2, 0, none⟩ (.string ByteArray.empty) = h1 at u1 d2 ⊢
  have c3' : h1[b3]? = _ := (u1.ne _ (by omega)).trans c3
  refine stV_b (one_cell c3') (hfrozen_blk c3') rfl ?_
  have u2 := Upd.hset h1 b3 0 (.int .i64 21)
  have d3 := set_one (u := .int .i64 21) c3'
  generalize hset h1 ⟨b3, 0, none⟩ (.int .i64 21) = h2 at u2 d3 ⊢
  have hne : ∀ i, i ≠ b2 → i ≠ b3 → h2[i]? = h[i]? := fun i i2 i3 => (u2.ne i i3).trans (u1.ne i i2)
  refine H h2 ⟨(T.ext.upd u1 (by omega)).upd u2 (by omega), (u2.ne _ (by omega)).trans d2, d3, fun b hb => ?_⟩ hne
  have hd := T.df b hb
  rw [hne b (fun e => by rw [e, c2] at hd; cases hd) (fun e => by rw [e, c3] at hd; cases hd)]
  exact hd
/-- a value put into a row, at its address -/
theorem vst_b {β : Type} {lo : Nat} {h : Heap} {Q : β → Heap → Prop} {r : Sl} {css : List (Array Value)} {i b : Nat} {c : Array Value} {f : Unit → M β} (G : Gw lo h r 4 (flat4 css)) (hw : W4 css) (hi : i < css.length) (hb : r.base = some ⟨b, 0, none⟩) (hc : c.size = 4) (h1 : ∀ u ∈ c.toList, one u = true)
    (H : ∀ h', Upd b h h' → Gw lo h' r 4 (flat4 (css.set i c)) → (f ()).wp h' Q) : (stG ⟨b, i * 4, none⟩ c >>= f).wp h Q := by
  have hl := G.len4 hw
  have key : (stG ⟨b, i * 4, none⟩ c >>= f).wp h Q := by
    obtain ⟨b', hb', hon, _⟩ := G.row4 hw hi
    rw [hb] at hb'; cases hb'
    obtain ⟨a, ⟨h0, h2, b2, hb2, rfl⟩, H2⟩ := vset_b (Q := Q) (f := f) (t := (i : Int)) G hw hi rfl hc h1 (fun b3 h' hb3 u G' => by rw [hb] at hb3; cases hb3; exact H h' u G')
    rw [hb] at hb2; cases hb2
    rw [add_mk, show 0 + (i : Int).toNat * 4 = i * 4 by omega] at H2
    exact H2.2
  exact key
theorem VGw.set {lo : Nat} {S : Nat → Prop} {h h' : Heap} {r : Sl} {css : List (Array Value)} {l : List Vl} {i : Nat} {c : Array Value} {k : Vl} (G : VGw lo S h r css l) (G' : Gw lo h' r 4 (flat4 (css.set i c))) (hc : VRepS S h' k c) (e : ∀ b, S b → h'[b]? = h[b]?) : VGw lo S h' r (css.set i c) (l.set i k) :=
  ⟨G', G.w4.set hc.size hc.to.one, by rw [List.length_set, List.length_set]; exact G.len, fun j h1 h2 => by
    by_cases hij : i = j
    · subst hij
      rw [List.getElem_set_self, List.getElem_set_self]; exact hc
    · rw [List.getElem_set_ne hij, List.getElem_set_ne hij]
      exact (G.rep j (by simpa using h1) (by simpa using h2)).same e⟩
/-- a key is put behind -/
theorem key_b {h0 h : Heap} {b2 b3 b5 : Nat} {L : Nat → Prop} {xm : List Nat} {K : List Vl} {k : Vl} {c : Array Value} {a : Addr} {Q : Nat → Heap → Prop} (B : Blks h0 b2 b3 b5) (T : TJ h0 b2 b3 b5 xm L K h) (hL : ∀ i, L i → i < h.size) (hK : K.length ≤ 1048576) (hc : VRepS (· < h0.size) h k c) (ha : a.block < h0.size ∧ ∀ j, j < 4 → hcell h (a.add j) = c[j]?)
    (H : ∀ h', TJ h0 b2 b3 b5 xm L (K ++ [k]) h' → h.size ≤ h'.size → (∀ i, L i → i ≠ b5 → h'[i]? = h[i]?) → Q 0 h') :
    ((do
      let x36_57 ← ldL ⟨b5, 0, none⟩
      let x39_58 ← ldG 4 a
      let y_60 ← fillL 4 1 (#[.int .i64 0, .int .i64 0, .string ByteArray.empty, .slice none 0 0] : Array Value) [(0, .agg (#[.int .i64 0, .int .i64 0, .string ByteArray.empty, .slice none 0 0] : Array Value))]
      let x41_59 ← bdL ty_api_Value 1 y_60
      chk (fun h : Heap => (hcell h ⟨b5, 0, none⟩ = some ((x36_57 : Sl).v)) ∧ (x39_58.size = 4 ∧ ∀ i, i < 4 → hcell h (Addr.add a i) = x39_58[i]?))
      let x42_61 ← apL ty_api_Value 4 56 (#[.int .i64 0, .int .i64 0, .string ByteArray.empty, .slice none 0 0] : Array Value) x36_57 x41_59
      let x43_62 ← ixL x42_61 (x36_57.len : Int) 4
      let y_67 ← do
        M.both (do
          M.need (x39_58.size = 4)
          stG x43_62 x39_58
          stV ⟨b5, 0, none⟩ ((x42_61 : Sl).v)
          M.pure ()
          ) (do
          stV ⟨b5, 0, none⟩ ((x42_61 : Sl).v)
          M.need (x39_58.size = 4)
          stG x43_62 x39_58
          M.pure ()
          )
      M.pure 0) : M Nat).wp h Q := by
  obtain ⟨r, css, c5, G, off⟩ := T.c5
  have hB := B.l2; have hB3 := B.l3; have hB5 := B.l5
  refine ldL_b (one_cell c5) (ldG_b hc.size ha.2 (fillL1_b rfl (bdL_b ?_)))
  have e1 := Ext.push h (.cells (#[.int .i64 0, .int .i64 0, .string ByteArray.empty, .slice none 0 0] : Array Value) ty_api_Value)
  have g1 : (h.push (.cells (#[.int .i64 0, .int .i64 0, .string ByteArray.empty, .slice none 0 0] : Array Value) ty_api_Value))[h.size]? = some (.cells (#[.int .i64 0, .int .i64 0, .string ByteArray.empty, .slice none 0 0] : Array Value) ty_api_Value (0, 0)) := get_push_eq
  have s1 : (h.push (.cells (#[.int .i64 0, .int .i64 0, .string ByteArray.empty, .slice none 0 0] : Array Value) ty_api_Value)).size = h.size + 1 := by simp
  generalize h.push (.cells (#[.int .i64 0, .int .i64 0, .string ByteArray.empty, .slice none 0 0] : Array Value) ty_api_Value) = h1 at e1 g1 s1 ⊢
  have c51 := e1.blk c5
  have hlt5 := blk_lt c5
  have hac : ∀ j, j < 4 → hcell h1 (a.add j) = c[j]? := fun j hj => by
    have h2 := ha.2 j hj
    have h3 : c[j]? = some (c[j]'(by rw [hc.size]; exact hj)) := Array.getElem?_eq_getElem _
    rw [h3] at h2 ⊢
    exact e1.cell h2
  refine chk_b ⟨one_cell c51, hc.size, hac⟩ ?_
  have hrl := G.gw.len4 G.w4
  have hgl := G.len
  have hons : ∀ b, Sl.on r b → b5 + 1 ≤ b ∧ b < h.size := fun b hb => ⟨(G.gw.lt hb).2, (G.gw.lt hb).1⟩
  have hES : ∀ b, b < h0.size → b < h.size := fun b hb => Nat.lt_of_lt_of_le hb T.ext.size
  have G1 : VGw (b5 + 1) (· < h0.size) h1 r css K := G.same (fun b hb => e1.same b (G.gw.lt hb).1) (fun b hb => e1.same b (hES b hb))
  refine bind_w (vap_grow (l' := [vl0]) (css' := [(#[.int .i64 0, .int .i64 0, .string ByteArray.empty, .slice none 0 0] : Array Value)]) G1 (by omega) (fun b hb => ⟨by have := hES b hb; omega, fun ho => by have := (hons b ho).1; omega⟩) (fun c' hc' => by simp at hc'; subst hc'; exact ⟨rfl, fun u hu => by simp at hu; rcases hu with rfl | rfl | rfl | rfl <;> rfl⟩) rfl rfl (.inr ⟨_, rfl, fun j v hj => ?_⟩) (fun j j1 j2 => by
      have : j = 0 := by simp at j1; exact j1
      subst this
      exact vl0_rep _ _) (by simp; omega) (fun h2 r2 G2 hs same on_ => ?_))
  · rw [add_mk, Nat.zero_add, hcell_blk g1]
    simpa [flat4] using hj
  have hrl2 := G2.gw.len4 G2.w4
  rw [List.length_append] at hrl2
  have hi2 : css.length < (css ++ [(#[.int .i64 0, .int .i64 0, .string ByteArray.empty, .slice none 0 0] : Array Value)]).length := by simp
  obtain ⟨b, hb, hon, _⟩ := G2.gw.row4 G2.w4 hi2
  refine ixL_b (by omega) (by rw [hrl2, hrl]; simp; omega) hb ?_
  rw [hrl, add_mk, show 0 + ((css.length : Nat) : Int).toNat * 4 = css.length * 4 by omega]
  have hbne : b ≠ b5 ∧ b5 + 1 ≤ b := by have := (G2.gw.lt hon).2; omega
  have hnlp : ∀ i, L i → ¬ Sl.on r2 i := fun i hi ho => (on_ i ho).elim (off i hi) (fun h => by have := hL i hi; omega)
  have E2 : Ext h0 h2 := ⟨by have := T.ext.size; omega, fun i hi => (same i (by have := hES i hi; omega) (fun ho => by have := (hons i ho).1; omega)).trans ((e1.same i (hES i hi)).trans (T.ext.same i hi))⟩
  have c52 : h2[b5]? = some (.cells #[r.v] ty_sl_api_Value (0, 0)) := by rw [same b5 (by omega) (fun ho => by have := (hons b5 ho).1; omega)]; exact c51
  -- whichever store is the first
  have fin : ∀ h' , h'.size = h2.size → (∀ i, i ≠ b → i ≠ b5 → h'[i]? = h2[i]?) → h'[b5]? = some (.cells #[r2.v] ty_sl_api_Value (0, 0)) → Gw (b5 + 1) h' r2 4 (flat4 ((css ++ [(#[.int .i64 0, .int .i64 0, .string ByteArray.empty, .slice none 0 0] : Array Value)]).set css.length c)) → Q 0 h' := fun h' z1 z2 z3 z4 => by
    have hcc : VRepS (· < h0.size) h' k c := hc.same (fun i hi => (z2 i (by have := hbne.2; omega) (by omega)).trans ((same i (by have := hES i hi; omega) (fun ho => by have := (hons i ho).1; omega)).trans (e1.same i (hES i hi))))
    have GG := G2.set (i := css.length) (k := k) z4 hcc (fun i hi => z2 i (by have := hbne.2; omega) (by omega))
    rw [List.set_append_right _ _ (Nat.le_refl _), Nat.sub_self, hgl, List.set_append_right _ _ (Nat.le_refl _), Nat.sub_self] at GG
    obtain ⟨sx, c2⟩ := T.c2
    obtain ⟨n, c3⟩ := T.c3
    have hkeep : ∀ i, i < h.size → i ≠ b5 → ¬ Sl.on r i → h'[i]? = h[i]? := fun i hi hi5 hno => by
      have : i ≠ b := fun e => (on_ i (e ▸ hon)).elim hno (fun h => by omega)
      rw [z2 i this hi5, same i (by omega) hno, e1.same i hi]
    have l2 := blk_lt c2
    have l3 := blk_lt c3
    refine H h' ⟨⟨by have := E2.size; omega, fun i hi => (z2 i (by have := hbne.2; omega) (by omega)).trans (E2.same i hi)⟩, ⟨sx, (hkeep b2 l2 (by omega) (fun ho => by have := (hons _ ho).1; omega)).trans c2⟩, ⟨n, (hkeep b3 l3 (by omega) (fun ho => by have := (hons _ ho).1; omega)).trans c3⟩, ⟨r2, _, z3, GG, hnlp⟩, fun x hx => ?_⟩ (by omega) (fun i hi hi5 => hkeep i (hL i hi) hi5 (off i hi))
    have hd := T.df x hx
    refine (hkeep x (blk_lt hd) (fun e => by rw [e, c5] at hd; cases hd) (fun ho => ?_)).trans hd
    rcases G.gw with ⟨hn, _⟩ | ⟨g, ty, cells, R⟩
    · rw [hn] at ho; obtain ⟨a1, ha1, _⟩ := ho; cases ha1
    · obtain ⟨a1, ha1, ha2⟩ := ho
      rw [R.base] at ha1; cases ha1
      have : x = g := ha2.symm
      rw [this, R.blk] at hd; cases hd
  refine bind_w (both_w ?_ ?_)
  · refine need_b hc.size (vst_b G2.gw G2.w4 hi2 hb hc.size hc.to.one (fun h3 u3 G3 => ?_))
    have c53 : h3[b5]? = _ := (u3.ne _ (fun e => hbne.1 e.symm)).trans c52
    refine stV_b (one_cell c53) (hfrozen_blk c53) (one_v _) (pure_w (pure_w ?_))
    refine fin _ (by rw [hset_size, u3.size]) (fun i i1 i2 => (hset_ne i2).trans (u3.ne i i1)) (set_one c53) (G3.same (fun i hi => hset_ne (fun e => ?_)))
    have e : i = b5 := e
    obtain ⟨a1, ha1, ha2⟩ := hi
    rw [hb] at ha1; cases ha1
    exact hbne.1 (by show b = b5; rw [← e]; exact ha2)
  · refine stV_b (one_cell c52) (hfrozen_blk c52) (one_v _) ?_
    have u3 := Upd.hset h2 b5 0 r2.v
    have c53 := set_one (u := r2.v) c52
    generalize hset h2 ⟨b5, 0, none⟩ r2.v = h3 at u3 c53 ⊢
    have G3 : Gw (b5 + 1) h3 r2 4 (flat4 (css ++ [(#[.int .i64 0, .int .i64 0, .string ByteArray.empty, .slice none 0 0] : Array Value)])) := G2.gw.same (fun i hi => u3.ne i (fun e => by
      obtain ⟨a1, ha1, ha2⟩ := hi
      rw [hb] at ha1; cases ha1
      exact hbne.1 (by show b = b5; rw [← e]; exact ha2)))
    refine need_b hc.size (vst_b G3 G2.w4 hi2 hb hc.size hc.to.one (fun h4 u4 G4 => pure_w (pure_w ?_)))
    exact fin _ (by rw [u4.size, u3.size]) (fun i i1 i2 => (u4.ne i i1).trans (u3.ne i i2)) ((u4.ne _ (fun e => hbne.1 e.symm)).trans c53) G4
end Gx
namespace Gx
open Go
set_option linter.unusedVariables false
set_option linter.unusedSimpArgs false
/-! ### result.Table: a line -/
theorem jn_snoc (sep a : List UInt8) : ∀ l : List (List UInt8), jn sep (l ++ [a]) = if l = [] then a else jn sep l ++ (sep ++ a)
  | [] => rfl
  | x :: l => by
    rw [if_neg (by simp), List.cons_append, jn_cons, jn_cons, List.flatMap_append]
    simp
theorem jn_take {sep : List UInt8} {T : List (List UInt8)} {i : Nat} (hi : i < T.length) : jn sep (T.take (i + 1)) = if i = 0 then T[i] else jn sep (T.take i) ++ (sep ++ T[i]) := by
  rw [List.take_succ_eq_append_getElem hi, jn_snoc]
  by_cases h0 : i = 0
  · subst h0; simp
  · rw [if_neg h0, if_neg]
    intro h
    have := congrArg List.length h
    rw [List.length_take, List.length_nil] at this
    omega
theorem jn_pre (sep : List UInt8) (T : List (List UInt8)) : ∀ i, i ≤ T.length → (jn sep (T.take i)).length ≤ (jn sep T).length := by
  intro i hi
  by_cases h0 : i = 0
  · subst h0; simp [jn]
  · have hne : 0 < T.length := by omega
    rw [jn_drop sep (T.take i) (by rw [List.length_take]; omega), jn_drop sep T hne]
    rw [List.length_append, List.length_append]
    have e1 : (T.take i)[0]'(by rw [List.length_take]; omega) = T[0] := by simp
    have e2 : (T.drop 1).flatMap (fun s => sep ++ s) = ((T.take i).drop 1).flatMap (fun s => sep ++ s) ++ ((T.drop i)).flatMap (fun s => sep ++ s) := by
      rw [← List.flatMap_append]
      congr 1
      rw [List.drop_take]
      conv => lhs; rw [← List.take_append_drop (i - 1) (T.drop 1)]
      rw [List.drop_drop]
      congr 2; omega
    rw [e1, e2, List.length_append]
    omega
/-- the texts of keys, one behind the other, and the line's end -/
theorem line_spec {hb0 h : Heap} {b c : Nat} {o : Obj} {rr : Sl} {t : List UInt8} {x : Sl} {x1 : Nat} {C : List Vl} {T : List (List UInt8)} {g : Value} {Q : Unit → Heap → Prop} (W : BW hb0 b c o h rr t) (cx : hcell hb0 ⟨x1, 0, none⟩ = some x.v) (hC : VsRep hb0 x C) (hT : T.length = C.length)
    (hg : ∀ j (hj : j < C.length) (hj' : j < T.length) h1 cs (Q1 : ByteArray → Heap → Prop), Ext hb0 h1 → h1[c]? = some o → VRep h1 C[j] cs → (∀ h2, Ext h1 h2 → Q1 (bs T[j]) h2) → (callV Go.Proofs.Tryd.prog (fun r : ByteArray => .string r) g [.agg cs]).wp h1 Q1)
    (hbd : (t ++ lineT T).length ≤ 140737488355328) (hcnt : C.length ≤ 1099511627776)
    (H : ∀ h' rr', BW hb0 b c o h' rr' (t ++ lineT T) → Q () h') : (result_Table_1 g ⟨x1, 0, none⟩ ⟨b, 0, none⟩).wp h Q := by
  unfold result_Table_1
  have hxl := hC.len
  have hlt2 : (lineT T).length = (jn [32, 124, 32] T).length + 1 := by simp [lineT]
  rw [List.length_append, hlt2] at hbd
  refine ldL_b (W.ext.cell cx) ?_
  rw [hxl]
  refine M.loop_inv (fun (s : Int) h' => ∃ i : Nat, s = (i : Int) ∧ i ≤ C.length ∧ ∃ r', BW hb0 b c o h' r' (t ++ jn [32, 124, 32] (T.take i))) (fun s _ => ((C.length : Int) - s).toNat) ?_ ⟨0, rfl, Nat.zero_le _, rr, by simpa [jn] using W⟩
  rintro s h' ⟨i, rfl, hi, r', W1⟩ self hself
  unfold result_Table_1_l1
  refine ite_w (fun hc => ?_) (fun hc => ?_)
  · have hlt : i < C.length := by have := of_decide_eq_true hc; omega
    have hltT : i < T.length := by omega
    have hjp := jn_pre [32, 124, 32] T i (by omega)
    have hjp1 := jn_pre [32, 124, 32] T (i + 1) (by omega)
    have hjt := jn_take (sep := [32, 124, 32]) hltT
    have hCS : VsRepS (· < hb0.size) h' x C := hC.lt.same (fun b hb => W1.ext.same b hb) (fun _ h => h)
    obtain ⟨a, cs, ha, hS, hs, hcs, hvS⟩ := hCS.get hlt
    have hv := hvS.to
    refine ixL_b (by omega) (by omega) ha (ldG_b hs (fun j hj => by rw [Addr.add_add, show (i : Int).toNat * 4 = i * 4 by omega]; exact hcs j hj) (mkV_b (fun h2 e2 z2 g2 => need_b hs (stR (vs := cs) g2 (by rw [hs]; decide) hv.one (fun h3 u3 g3 => ?_)))))
    rw [lay_full (by rw [Array.length_toList, hs]; rfl), Array.toArray_toList] at g3
    have E3 : Ext h' h3 := e2.upd u3 (Nat.le_refl _)
    have W3 := W1.more E3
    have hv3 := hv.ext E3
    -- behind the bar
    have tail : ∀ {h4 : Heap} {r4 : Sl} {pre : List UInt8}, BW hb0 b c o h4 r4 pre → pre ++ T[i] = t ++ jn [32, 124, 32] (T.take (i + 1)) → h4[h'.size]? = some (.cells cs ty_api_Value (0, 0)) → VRep h4 C[i] cs → (result_Table_1_j1 self g ⟨b, 0, none⟩ ⟨h'.size, 0, none⟩ (i : Int)).wp h4 Q := fun {h4 r4 pre} W4 he g4 hv4 => by
      unfold result_Table_1_j1
      refine ldV_b (v := C[i]) g4 hs (bind_w (hg i hlt hltT h4 cs _ W4.ext W4.blk hv4 (fun h5 e5 => ?_)))
      have W5 := W4.more e5
      have hlen := congrArg List.length he
      rw [List.length_append, List.length_append] at hlen
      refine bind_w (wstr_spec W5.bld W5.ext.size (by omega) (fun h6 r6 n6 B6 K6 => ?_))
      have W6 := W5.keep B6 K6
      rw [he] at W6
      rw [w64 (by omega) (by omega)]
      exact hself _ _ ⟨i + 1, by simp, by omega, r6, W6⟩ (by omega)
    refine ite_w (fun hp => ?_) (fun hp => ?_)
    · have hp : ¬ i = 0 := by have := of_decide_eq_true hp; omega
      rw [if_neg hp] at hjt
      have hl2 := congrArg List.length hjt
      rw [List.length_append, List.length_append] at hl2
      refine bind_w (wstr_spec (s := [32, 124, 32]) W3.bld W3.ext.size (by rw [List.length_append]; omega) (fun h4 r4 n4 B4 K4 => ?_))
      have W4 := W3.keep B4 K4
      have hlt3 := blk_lt g3
      have hold : ∀ i1, i1 < hb0.size → h4[i1]? = h3[i1]? := fun i1 hi1 => (W4.ext.same i1 hi1).trans (W3.ext.same i1 hi1).symm
      have hne : h'.size ≠ b := by have := W1.bld.lt; omega
      have hno : ¬ Sl.on r' h'.size := fun ho => by have := (W1.bld.row.lt ho).1; omega
      refine tail W4 (by rw [hjt]; simp) ((K4.same _ hlt3 hne hno).trans g3) ?_
      exact (hvS.same (fun b1 hb1 => (W4.ext.same b1 hb1).trans (W1.ext.same b1 hb1).symm)).to
    · have hp : i = 0 := by have := of_decide_eq_false hp; omega
      refine tail W3 (by rw [hjt, if_pos hp]; subst hp; simp [jn]) g3 hv3
  · have hge : i = T.length := by have := of_decide_eq_false hc; omega
    subst hge
    rw [List.take_length] at W1
    refine bind_w (wbyte_spec (c := 10) W1.bld W1.ext.size (by rw [List.length_append]; omega) rfl (fun h4 r4 B4 K4 => pure_w (H h4 r4 ?_)))
    have W4 := W1.keep B4 K4
    unfold lineT
    rw [← List.append_assoc]
    exact W4

/-- the texts that are no greater than the values -/
theorem txt_wt : ∀ (d : Nat) (v : Vl) {h : Heap} {cs : Array Value}, VRep h v cs → (txt d v).length + 2 ≤ 26 * wt v
  | 0, v, h, cs, _ => by have := wt_pos v; simp [txt]; omega
  | d + 1, .mk k n s l, h, cs, H => by
    obtain ⟨x, rfl, k1, n1, s1, r1⟩ := VRep.eq.1 H
    have hi := itoa_len n1
    have hq : (quoteB s).length ≤ 4 * s.length + 2 := by
      rw [quote_len]
      have : (s.flatMap qc).length ≤ 4 * s.length := by
        clear s1 H
        induction s with
        | nil => simp
        | cons a s ih => rw [List.flatMap_cons, List.length_append, List.length_cons]; have := qc_le a; omega
      omega
    have hs : ∀ (ev od : List UInt8), ev.length = 2 → od.length = 2 → (shw ev od (l.map (txt d))).length ≤ 26 * wt.wts l := by
      have hel : ∀ v ∈ l, (txt d v).length + 2 ≤ 26 * wt v := fun v hv => by
        obtain ⟨j, hj, rfl⟩ := List.getElem_of_mem hv
        obtain ⟨a, c, _, _, _, hv'⟩ := r1.get hj
        exact txt_wt d _ hv'
      clear r1 H
      induction l with
      | nil => intro ev od _ _; simp [shw]
      | cons a r ih =>
        intro ev od h1 h2
        have ha := hel a (by simp)
        have ihr := ih (fun v hv => hel v (List.mem_cons_of_mem _ hv)) od ev h2 h1
        rw [List.map_cons, shw_step, wt.wts]
        split
        · omega
        · rw [List.length_append, List.length_append]; omega
    have h4 := hs [44, 32] [44, 32] rfl rfl
    have h5 := hs [58, 32] [44, 32] rfl rfl
    rw [wt]
    unfold txt
    repeat' split
    all_goals (try simp only [List.length_append, List.length_cons, List.length_nil])
    all_goals omega
theorem getV_mem_aux (k : Vl) (l : List Vl) : ∀ (l' : List Vl), (∀ y ∈ l', y ∈ l) → ∀ x, getV k l' = some x → x ∈ l
  | [], _, x, hx => by cases hx
  | [_], _, x, hx => by cases hx
  | a :: b :: r, hm, x, hx => by
    rw [getV] at hx
    split at hx
    · cases hx; exact hm b (by simp)
    · exact getV_mem_aux k l r (fun y hy => hm y (by simp [hy])) x hx
theorem cell_le {v k : Vl} {h : Heap} {cs : Array Value} (H : VRep h v cs) : (cellT v k).length ≤ 26 * wt v := by
  obtain ⟨kk, n, s, l⟩ := v
  obtain ⟨x, rfl, k1, n1, s1, r1⟩ := VRep.eq.1 H
  have hw : 1 ≤ wt (.mk kk n s l) := wt_pos _
  unfold cellT
  split
  · rename_i y hy
    have hy' := getV_mem_aux k l l (fun y hy => hy) y hy
    obtain ⟨j, hj, rfl⟩ := List.getElem_of_mem hy'
    obtain ⟨a, c, _, _, _, hv'⟩ := r1.get hj
    have := txt_wt 8 _ hv'
    have := wts_mem hy'
    rw [wt]
    show (txt 8 l[j]).length ≤ _
    omega
  · simp; omega
end Gx
namespace Gx
open Go
set_option linter.unusedVariables false
set_option linter.unusedSimpArgs false
/-! ### How long a table is -/
theorem lineT_len (T : List (List UInt8)) : (lineT T).length ≤ (T.map List.length).sum + 3 * T.length + 1 := by
  unfold lineT
  rw [List.length_append]
  by_cases h : T = []
  · subst h; simp [jn]
  · rw [jn_len _ _ h]
    simp only [List.length_cons, List.length_nil]
    omega
theorem sum_le {α : Type} {f : α → List UInt8} {m : Nat} : ∀ {C : List α}, (∀ k ∈ C, (f k).length ≤ m) → ((C.map f).map List.length).sum ≤ C.length * m
  | [], _ => by simp
  | k :: C, h => by
    have ih := sum_le (C := C) (fun x hx => h x (List.mem_cons_of_mem _ hx))
    have := h k (by simp)
    rw [List.map_cons, List.map_cons, List.sum_cons, List.length_cons, Nat.add_mul]
    omega
theorem lines_len (C : List Vl) : ∀ (l : List Vl), (∀ v ∈ l, ∃ h cs, VRep h v cs) → (l.flatMap (fun v => lineT (C.map (cellT v)))).length ≤ C.length * (26 * wt.wts l) + (3 * C.length + 1) * l.length
  | [], _ => by simp
  | v :: l, h => by
    have ih := lines_len C l (fun x hx => h x (List.mem_cons_of_mem _ hx))
    obtain ⟨hh, cs, hv⟩ := h v (by simp)
    have h1 := lineT_len (C.map (cellT v))
    have h2 := sum_le (C := C) (f := cellT v) (m := 26 * wt v) (fun k _ => cell_le hv)
    rw [List.length_map] at h1
    rw [List.flatMap_cons, List.length_append, wt.wts, List.length_cons, Nat.mul_add 26, Nat.mul_add, Nat.mul_add]
    omega
theorem keys_wt {l : List Vl} {k : Vl} (h : k ∈ keysOf l) : wt k ≤ wt.wts l ∧ ((∀ v ∈ l, ∃ h cs, VRep h v cs) → ∃ h cs, VRep h k cs) := by
  obtain ⟨v, hv, hk⟩ := List.mem_flatMap.1 h
  have hm := evens_mem hk
  obtain ⟨kk, n, s, lv⟩ := v
  have h1 := wts_mem hv
  have h2 := wts_mem (show k ∈ lv from hm)
  rw [wt] at h1
  refine ⟨by omega, fun H => ?_⟩
  obtain ⟨hh, cs, hr⟩ := H _ hv
  obtain ⟨x, rfl, _, _, _, r1⟩ := VRep.eq.1 hr
  obtain ⟨j, hj, rfl⟩ := List.getElem_of_mem (show k ∈ lv from hm)
  obtain ⟨a, c, _, _, _, hv'⟩ := r1.get hj
  exact ⟨hh, c, hv'⟩
theorem keys_len (l : List Vl) : (keysOf l).length ≤ wt.wts l := by
  induction l with
  | nil => simp [keysOf]
  | cons v l ih =>
    obtain ⟨kk, n, s, lv⟩ := v
    have : (evens lv).length ≤ wt.wts lv := by
      rw [evens_len]
      have := wts_len lv
      omega
    unfold keysOf at ih ⊢
    rw [List.flatMap_cons, List.length_append, wt.wts, wt]
    show (evens lv).length + _ ≤ _
    omega
theorem tab_len {C l : List Vl} (hr : ∀ v ∈ l, ∃ h cs, VRep h v cs) (hC : C.length ≤ wt.wts l) (hm : ∀ k ∈ C, k ∈ keysOf l) (hW : wt.wts l ≤ 1048576) : (tabT C l).length ≤ 70368744177664 := by
  have h1 := lineT_len (C.map txV)
  rw [List.length_map] at h1
  have h2 := sum_le (C := C) (f := txV) (m := 26 * wt.wts l) (fun k hk => by
    obtain ⟨a, b⟩ := keys_wt (hm k hk)
    obtain ⟨h, cs, hv⟩ := b hr
    have := txt_wt 8 k hv
    show (txt 8 k).length ≤ _
    omega)
  have h3 := lines_len C l hr
  have h4 := wts_len l
  unfold tabT
  rw [List.length_append]
  have m1 : C.length * (26 * wt.wts l) ≤ 1048576 * (26 * 1048576) := Nat.mul_le_mul (by omega) (by omega)
  have m2 : (3 * C.length + 1) * l.length ≤ 3145729 * 1048576 := Nat.mul_le_mul (by omega) (by omega)
  omega
theorem tab_pre {C l : List Vl} (i : Nat) : (lineT (C.map txV) ++ (l.take i).flatMap (fun v => lineT (C.map (cellT v)))).length ≤ (tabT C l).length := by
  unfold tabT
  rw [List.length_append, List.length_append]
  conv => rhs; rw [← List.take_append_drop i l, List.flatMap_append, List.length_append]
  omega
theorem keysOf_take {l : List Vl} {i : Nat} (hi : i < l.length) : keysOf (l.take (i + 1)) = keysOf (l.take i) ++ evens l[i].l := by
  unfold keysOf
  rw [List.take_succ_eq_append_getElem hi, List.flatMap_append]
  simp
theorem okTab_take {l : List Vl} {i : Nat} (hi : i < l.length) : okTab (l.take (i + 1)) = (okTab (l.take i) && (decide (l[i].k = 5) && (evens l[i].l).all (fun k => decide (k.k = 2)))) := by
  unfold okTab
  rw [List.take_succ_eq_append_getElem hi, List.all_append]
  simp
theorem okTab_bad {l : List Vl} {i : Nat} (hi : i < l.length) (h : (decide (l[i].k = 5) && (evens l[i].l).all (fun k => decide (k.k = 2))) = false) : okTab l = false := by
  unfold okTab
  rw [List.all_eq_false]
  exact ⟨l[i], List.getElem_mem hi, by rw [h]; simp⟩
theorem keysOf_pre (l : List Vl) (i : Nat) : (keysOf (l.take i)).length ≤ (keysOf l).length := by
  unfold keysOf
  conv => rhs; rw [← List.take_append_drop i l, List.flatMap_append, List.length_append]
  omega
theorem TE.upd {h0 h h' : Heap} {b2 b3 lp : Nat} {xm : List Nat} (T : TE h0 b2 b3 xm h) (u : Upd lp h h') (h1 : h0.size ≤ lp) (h2 : b2 ≠ lp) (h3 : b3 ≠ lp) (hx : lp ∉ xm) : TE h0 b2 b3 xm h' :=
  ⟨T.ext.upd u h1, (u.ne _ h2).trans T.c2, (u.ne _ h3).trans T.c3, fun b hb => (u.ne b (fun e => hx (e ▸ hb))).trans (T.df b hb)⟩
theorem Slv_inj {r r' : Sl} (h : r.v = r'.v) : r = r' := by
  cases r; cases r'
  simp only [Sl.v, Value.slice.injEq] at h
  obtain ⟨rfl, rfl, rfl⟩ := h
  rfl
end Gx
namespace Gx
open Go
set_option linter.unusedVariables false
set_option linter.unusedSimpArgs false
/-! ### result.Table: one map's keys -/
/-- what a round does -/
def tabYb (c2_45 : Addr) (c3_46 : Addr) (c5_47 : Addr) : (Sl) → M Nat := fun x => match x with
  | x30_48 => do
    let x32_51 ← ixL x30_48 0 4
    let x34_52 ← ldI .i64 ((x32_51).add 0)
    M.ite (x34_52 != 2) (do
      stV c2_45 (.string ByteArray.empty)
      stV c3_46 (.int .i64 21)
      M.pure 1
      ) (do
      let x38_56 ← ixL x30_48 0 4
      let x36_57 ← ldL c5_47
      let x39_58 ← ldG 4 x38_56
      let y_60 ← fillL 4 1 (#[.int .i64 0, .int .i64 0, .string ByteArray.empty, .slice none 0 0] : Array Value) [(0, .agg (#[.int .i64 0, .int .i64 0, .string ByteArray.empty, .slice none 0 0] : Array Value))]
      let x41_59 ← bdL ty_api_Value 1 y_60
      chk (fun h : Heap => (hcell h c5_47 = some ((x36_57 : Sl).v)) ∧ (x39_58.size = 4 ∧ ∀ i, i < 4 → hcell h (Addr.add x38_56 i) = x39_58[i]?))
      let x42_61 ← apL ty_api_Value 4 56 (#[.int .i64 0, .int .i64 0, .string ByteArray.empty, .slice none 0 0] : Array Value) x36_57 x41_59
      let x43_62 ← ixL x42_61 (x36_57.len : Int) 4
      let y_67 ← do
        M.both (do
          M.need (x39_58.size = 4)
          stG x43_62 x39_58
          stV c5_47 ((x42_61 : Sl).v)
          M.pure ()
          ) (do
          stV c5_47 ((x42_61 : Sl).v)
          M.need (x39_58.size = 4)
          stG x43_62 x39_58
          M.pure ()
          )
      M.pure 0
      )
theorem tabYb_eq (b2 b3 b5 : Addr) (l : Nat) (x : Sl) : result_Table_y2 b2 b3 b5 l x = (beg l >>= fun _ => tabYb b2 b3 b5 x) := rfl
/-- a key's turn -/
theorem pair_b {h0 h : Heap} {b2 b3 b5 : Nat} {L : Nat → Prop} {xm : List Nat} {K : List Vl} {x : Sl} {lv : List Vl} {i : Nat} {Q : Nat → Heap → Prop} (B : Blks h0 b2 b3 b5) (T : TJ h0 b2 b3 b5 xm L K h) (hL : ∀ i, L i → i < h.size) (hK : K.length ≤ 1048576) (hx : VsRepS (· < h0.size) h x lv) (hi : 2 * i < lv.length)
    (H1 : ∀ h', (lv[2 * i]).k = 2 → TJ h0 b2 b3 b5 xm L (K ++ [lv[2 * i]]) h' → h.size ≤ h'.size → (∀ i, L i → i ≠ b5 → h'[i]? = h[i]?) → Q 0 h')
    (H2 : ∀ h', ¬ (lv[2 * i]).k = 2 → TE h0 b2 b3 xm h' → (∀ i, i ≠ b2 → i ≠ b3 → h'[i]? = h[i]?) → Q 1 h') :
    (tabYb ⟨b2, 0, none⟩ ⟨b3, 0, none⟩ ⟨b5, 0, none⟩ (piece x i)).wp h Q := by
  unfold tabYb
  have hp := piece_rep hx hi
  have hl0 : 0 < (pairAt lv i).length := by simp [pairAt]; omega
  have he0 : (pairAt lv i)[0] = lv[2 * i] := by simp [pairAt]
  obtain ⟨a, cs, ha, hS, hs, hc, hv⟩ := hp.get hl0
  rw [he0] at hv
  have hlen : (piece x i).len = min 2 (lv.length - 2 * i) := by show min 2 (x.len - 2 * i) = _; rw [hx.len]
  have ha0 : ∀ {β : Type} {Q' : β → Heap → Prop} {f : Addr → M β}, (f (a.add 0)).wp h Q' → (ixL (piece x i) 0 4 >>= f).wp h Q' := fun hq => by
    refine ixL_b (by decide) (by rw [hlen]; omega) ha ?_
    exact hq
  have hc0 : ∀ j, j < 4 → hcell h ((a.add 0).add j) = cs[j]? := fun j hj => by
    rw [Addr.add_add, Nat.zero_add]
    have := hc j hj
    rw [Nat.zero_mul, Nat.zero_add] at this
    exact this
  obtain ⟨kv, hkv⟩ : ∃ kv, kv = lv[2 * i] := ⟨_, rfl⟩
  rw [← hkv] at hv H1 H2
  obtain ⟨kk, n, s, l2⟩ := kv
  obtain ⟨xs, hcs, k1, n1, s1, r1⟩ := VRepS.eq.1 hv
  refine ha0 (ldI_b (n := kk) (by rw [hc0 0 (by decide), hcs]; rfl) (ite_w (fun hk => ?_) (fun hk => ?_)))
  · have hk : ¬ kk = 2 := by simpa using hk
    exact refuse_b B T (fun h' TEh hne => pure_w (H2 h' hk TEh hne))
  · have hk : kk = 2 := by simpa using hk
    refine ha0 ?_
    exact key_b B T hL hK hv ⟨by rw [add_block]; exact hS, hc0⟩ (fun h' T' hz hkeep => H1 h' hk T' hz hkeep)
end Gx
namespace Gx
open Go
set_option linter.unusedVariables false
set_option linter.unusedSimpArgs false
theorem all_take {p : Vl → Bool} {l : List Vl} {i : Nat} (hi : i < l.length) : (l.take (i + 1)).all p = ((l.take i).all p && p l[i]) := by
  rw [List.take_succ_eq_append_getElem hi, List.all_append]; simp
theorem all_bad {p : Vl → Bool} {l : List Vl} {i : Nat} (hi : i < l.length) (h : p l[i] = false) : l.all p = false := by
  rw [List.all_eq_false]
  exact ⟨l[i], List.getElem_mem hi, by rw [h]; simp⟩
/-- the pairs of one map -/
theorem mapkeys_b {h0 h : Heap} {b2 b3 b5 a b : Nat} {xm : List Nat} {K : List Vl} {x : Sl} {lv : List Vl} {ta tb : TypeId} {Q : Nat × Nat → Heap → Prop} (B : Blks h0 b2 b3 b5) (T : TJ h0 b2 b3 b5 xm (fun i => i = a ∨ i = b) K h) (hx : VsRepS (· < h0.size) h x lv) (hb : lv.length ≤ 1048576) (hK : K.length + (evens lv).length ≤ 1048576)
    (ha : h[a]? = some (.cells #[x.v] ta (0, 0))) (hb' : h[b]? = some (.cells #[.int .i64 2] tb (0, 0))) (la : b5 < a) (lb : b5 < b)
    (H0 : ∀ h', (evens lv).all (fun k => decide (k.k = 2)) = true → h.size < h'.size → TJ h0 b2 b3 b5 (h.size :: xm) (fun _ => False) (K ++ evens lv) h' → Q (0, h.size) h')
    (H1 : ∀ h', (evens lv).all (fun k => decide (k.k = 2)) = false → TE h0 b2 b3 (h.size :: xm) h' → Q (1, h.size) h') :
    (rgF Go.Proofs.Tryd.prog (fun x : Sl => [x.v]) [.ret] (result_Table_y2 ⟨b2, 0, none⟩ ⟨b3, 0, none⟩ ⟨b5, 0, none⟩) (.func (.func fn_slices_Chunk_slapi_Value_api_Value_1) #[] #[.pointer (some ⟨a, 0, none⟩), .pointer (some ⟨b, 0, none⟩)])).wp h Q := by
  have hB := B.l2; have hB3 := B.l3; have hB5 := B.l5
  have sa := blk_lt ha
  have sb := blk_lt hb'
  have hxl := hx.len
  have hxc := hx.cap
  obtain ⟨_, _, c5, _, _⟩ := T.c5
  have s5 := blk_lt c5
  have hmem : ∀ y ∈ h.size :: xm, y < h.size + 1 := fun y hy => by
    rcases List.mem_cons.1 hy with rfl | hy
    · omega
    · have := blk_lt (T.df y hy); omega
  have hnot : (h.size + 1) ∉ h.size :: xm := fun hm => by have := hmem _ hm; omega
  refine rgF_w (Yb := tabYb ⟨b2, 0, none⟩ ⟨b3, 0, none⟩ ⟨b5, 0, none⟩) (fun l x => rfl) (c := .ret) rfl (fun l hh => by cases hh) (xs := pieces x)
    (fun i h1 => TJ h0 b2 b3 b5 (h.size :: xm) (fun j => j = h.size + 1 ∨ j = a ∨ j = b) (K ++ (evens lv).take i) h1 ∧ h1[a]? = some (.cells #[x.v] ta (0, 0)) ∧ h1[b]? = some (.cells #[.int .i64 2] tb (0, 0)) ∧ ((evens lv).take i).all (fun k => decide (k.k = 2)) = true ∧ VsRepS (· < h0.size) h1 x lv ∧ h.size + 1 < h1.size)
    (fun h1 => TE h0 b2 b3 (h.size :: xm) h1 ∧ (evens lv).all (fun k => decide (k.k = 2)) = false) ?_ ?_ ?_ ?_ ?_ ?_ ?_
  · rintro i h1 h2 ⟨j1, j2, j3, j4, j5, j6⟩ u
    exact ⟨j1.upd B u (.inl rfl) (by omega) hnot, (u.ne _ (by omega)).trans j2, (u.ne _ (by omega)).trans j3, j4, j5.same (fun y hy => u.ne y (by have := T.ext.size; omega)) (fun _ h => h), by rw [u.size]; exact j6⟩
  · rintro h1 h2 ⟨j1, j2⟩ u
    have := T.ext.size
    exact ⟨j1.upd u (by omega) (by omega) (by omega) hnot, j2⟩
  · exact chunk_seq hxc (by omega) (fun i h1 hj => ⟨one_cell hj.2.1, one_cell hj.2.2.1⟩)
  · intro r
    have e1 : Ext h ((h.push (.deferred (some []))).push (recAt r .ready none)) := (Ext.push _ _).pushed _
    have T1 := T.more e1
    refine ⟨?_, e1.blk ha, e1.blk hb', by simp, hx.same (fun y hy => e1.same y (Nat.lt_of_lt_of_le hy T.ext.size)) (fun _ h => h), by simp⟩
    simp only [List.take_zero, List.append_nil]
    have T2 : TJ h0 b2 b3 b5 xm (fun j => j = h.size + 1 ∨ j = a ∨ j = b) K ((h.push (.deferred (some []))).push (recAt r .ready none)) := by
      obtain ⟨r0, css, d5, G, off⟩ := T.c5
      refine ⟨T1.ext, T1.c2, T1.c3, ⟨r0, css, e1.blk d5, G.same (fun y hy => e1.same y (G.gw.lt hy).1) (fun y hy => e1.same y (Nat.lt_of_lt_of_le hy T.ext.size)), fun i hi => ?_⟩, T1.df⟩
      rcases hi with rfl | hi
      · intro ho; have := (G.gw.lt ho).1; omega
      · exact off i hi
    refine T2.xs (fun y hy => ?_)
    rcases List.mem_cons.1 hy with rfl | hy
    · rw [get_push_lt (by simp)]; exact get_push_eq
    · exact e1.blk (T.df y hy)
  · rintro i hi h1 o ⟨j1, j2, j3, j4, j5, j6⟩ hrec
    rw [pieces_len] at hi
    have hi2 : 2 * i < lv.length := by omega
    have hie : i < (evens lv).length := by rw [evens_len]; omega
    have hev := evens_get lv i hi2 hie
    rw [pieces_get x (by rw [pieces_len]; exact hi)]
    have htk := all_take (p := fun k => decide (k.k = 2)) hie
    refine pair_b B j1 (fun j hj => by rcases hj with rfl | rfl | rfl <;> omega) ?_ j5 hi2 (fun h2 hk T2 hz hkeep => ?_) (fun h2 hk T2 hne => ?_)
    · rw [List.length_append, List.length_take]; omega
    · refine ⟨by rw [hkeep _ (.inl rfl) (by omega)]; exact hrec, .inl ⟨rfl, ?_, (hkeep _ (.inr (.inl rfl)) (by omega)).trans j2, (hkeep _ (.inr (.inr rfl)) (by omega)).trans j3, ?_, ?_, by omega⟩⟩
      · rw [List.take_succ_eq_append_getElem hie, ← List.append_assoc, hev]; exact T2
      · rw [htk, j4, hev, decide_eq_true hk]; rfl
      · exact (hx.same (fun y hy => (T2.ext.same y hy).trans (T.ext.same y hy).symm) (fun _ h => h))
    · refine ⟨by rw [hne _ (by omega) (by omega)]; exact hrec, .inr ⟨rfl, T2, ?_⟩⟩
      exact all_bad hie (by rw [hev]; exact decide_eq_false hk)
  · rintro h1 ⟨j1, j2, j3, j4, j5, j6⟩
    rw [pieces_len, show (x.len + 1) / 2 = (evens lv).length by rw [evens_len, hxl], List.take_length] at j4 j1
    exact H0 h1 j4 (by omega) (j1.lp (fun r css G off i hi => hi.elim))
  · rintro h1 ⟨j1, j2⟩
    exact H1 h1 j2 j1
end Gx
namespace Gx
open Go
set_option linter.unusedVariables false
set_option linter.unusedSimpArgs false
/-! ### result.Table -/
theorem text_call {h : Heap} {k : Vl} {cs : Array Value} {Q : ByteArray → Heap → Prop} (hk : VRep h k cs) (hp : PowTab h) (hd : DbTab h) (hm : (txV k).length ≤ 1099511627776) (H : ∀ h', Ext h h' → Q (bs (txV k)) h') : (callV Go.Proofs.Tryd.prog (fun r : ByteArray => .string r) (.func (.func fn_value_Text) #[] #[]) [.agg cs]).wp h Q :=
  callV_f cl_value_Text (S_value_Text cs) (vText_spec hk hp hd hm H)
/-- a cell of the table -/
theorem cell_call {h : Heap} {v k : Vl} {c cs : Array Value} {b : Nat} {t : TypeId} {z : Nat × Nat} {Q : ByteArray → Heap → Prop} (hb : h[b]? = some (.cells c t z)) (hv : VRep h v c) (hk : VRep h k cs) (h5 : v.k = 5) (hp : PowTab h) (hd : DbTab h) (hw : wt v ≤ 1048576) (H : ∀ h', Ext h h' → Q (bs (cellT v k)) h') :
    (callV Go.Proofs.Tryd.prog (fun r : ByteArray => .string r) (.func (.func fn_result_Table_2) #[] #[.pointer (some ⟨b, 0, none⟩)]) [.agg cs]).wp h Q := by
  refine callV_f cl_result_Table_2 (S_result_Table_2 cs ⟨b, 0, none⟩) ?_
  unfold result_Table_2
  have hcell := cell_le (k := k) hv
  refine mkV_b (fun h1 e1 z1 g1 => ldV_b (v := v) (e1.blk hb) hv.size (ldV_b (v := k) g1 hk.size (bind_w (vget_spec (hv.ext e1) (hk.ext e1) (by omega) (fun h2 c2 e2 hc2 => mkV_b (fun h3 e3 z3 g3 => ?_))))))
  dsimp only
  refine need_b hc2.size (stR (vs := c2) g3 (by rw [hc2.size]; decide) hc2.one (fun h4 u4 g4 => ?_))
  rw [lay_full (by rw [Array.length_toList, hc2.size]; rfl), Array.toArray_toList] at g4
  have E4 : Ext h2 h4 := e3.upd u4 (Nat.le_refl _)
  have E := (e1.trans e2).trans E4
  obtain ⟨kk, n, s, l⟩ := v
  have hk5 : kk = 5 := h5
  rw [getM_eq hk5] at hc2 ⊢
  have hct : cellT (.mk kk n s l) k = match getV k l with | some x => txV x | none => [45] := rfl
  rw [hct] at H hcell
  cases hg : getV k l with
  | none =>
    rw [hg] at H
    exact iteF rfl (pure_w (H _ E))
  | some y =>
    rw [hg] at H hcell hc2
    refine iteT rfl (ldV_b (v := y) g4 hc2.size (bind_w (vText_spec (hc2.ext E4) (hp.ext E) (hd.ext E) ?_ (fun h5 e5 => pure_w (H _ (E.trans e5))))))
    have h9 : (txt 8 y).length ≤ 26 * wt (.mk kk n s l) := hcell
    show (txt 8 y).length ≤ _
    omega
theorem vtable_spec {h : Heap} {Q : ByteArray × Int → Heap → Prop} {x : Sl} {l : List Vl} (hx : VsRep h x l) (hp : PowTab h) (hd : DbTab h) (hW : wt.wts l ≤ 1048576)
    (H1 : ∀ h', Ext h h' → checkVs l ≠ 0 → Q (ByteArray.empty, checkVs l) h')
    (H2 : ∀ h', Ext h h' → checkVs l = 0 → okTab l = false → Q (ByteArray.empty, 21) h')
    (H3 : ∀ h' C, Ext h h' → checkVs l = 0 → okTab l = true → Cols l C → Q (bs (tabT C l), 0) h') : (result_Table x).wp h Q := by
  have hwl := wts_len l
  have hkl := keys_len l
  have hxl := hx.len
  unfold result_Table
  refine mkV_b (fun h1 e1 z1 g1 => mkV_b (fun h2 e2 z2 g2 => ?_))
  refine bind_w (vfirst_spec ((hx.ext e1).ext e2) (fun h3 e3 => ?_))
  have E3 := (e1.trans e2).trans e3
  have g1' := (e2.trans e3).blk g1
  have g2' := e3.blk g2
  have hs3 := e3.size
  refine ite_w (fun hc => ?_) (fun hc => ?_)
  · have hc : checkVs l ≠ 0 := by simpa using hc
    refine stV_b (one_cell g1') (hfrozen_blk g1') rfl ?_
    have u1 := Upd.hset h3 h.size 0 (.string ByteArray.empty)
    have d1 := set_one (u := .string ByteArray.empty) g1'
    generalize hset h3 ⟨h.size, 0, none⟩ (.string ByteArray.empty) = h4 at u1 d1 ⊢
    have g2'' : h4[h1.size]? = _ := (u1.ne _ (by omega)).trans g2'
    refine stV_b (one_cell g2'') (hfrozen_blk g2'') rfl ?_
    have u2 := Upd.hset h4 h1.size 0 (.int .i64 (checkVs l))
    have d2 := set_one (u := .int .i64 (checkVs l)) g2''
    generalize hset h4 ⟨h1.size, 0, none⟩ (.int .i64 (checkVs l)) = h5 at u2 d2 ⊢
    have d1' : h5[h.size]? = _ := (u2.ne _ (by omega)).trans d1
    refine bind_w (pure_w (ldS_b (n := ByteArray.empty) (one_cell d1') (ldI_b (n := checkVs l) (one_cell d2) (pure_w (H1 _ ?_ hc)))))
    exact (E3.upd u1 (Nat.le_refl _)).upd u2 (by omega)
  have hc : checkVs l = 0 := by simpa using hc
  refine mkV_b (fun h4 e4 z4 g4 => ?_)
  have B : Blks h h.size h1.size h3.size := ⟨Nat.le_refl _, by omega, by omega⟩
  have T0 : TJ h h.size h1.size h3.size [] (fun _ => False) [] h4 := ⟨E3.trans e4, ⟨_, e4.blk g1'⟩, ⟨_, e4.blk g2'⟩, ⟨Sl.nil, [], g4, VGw.nil _ _ _, fun _ h => h.elim⟩, fun b hb => by cases hb⟩
  have hvr : ∀ v ∈ l, ∃ h cs, VRep h v cs := fun v hv => by
    obtain ⟨j, hj, rfl⟩ := List.getElem_of_mem hv
    obtain ⟨a, c, _, _, _, hv'⟩ := hx.get hj
    exact ⟨h, c, hv'⟩
  refine M.loop_inv (fun (s : List Nat × Int) hh => ∃ i : Nat, s.2 = (i : Int) ∧ i ≤ l.length ∧ TJ h h.size h1.size h3.size s.1 (fun _ => False) (keysOf (l.take i)) hh ∧ okTab (l.take i) = true ∧ s.1.Nodup ∧ ∀ b ∈ s.1, h.size ≤ b) (fun s _ => ((l.length : Int) - s.2).toNat) ?_ ⟨0, rfl, Nat.zero_le _, by simpa [keysOf] using T0, by simp [okTab], List.nodup_nil, fun b hb => by cases hb⟩
  rintro ⟨xm, t⟩ hh ⟨i, ht, hi, T, hok, hnd, hge0⟩ self hself
  have ht : t = (i : Int) := ht
  have T : TJ h h.size h1.size h3.size xm (fun _ => False) (keysOf (l.take i)) hh := T
  have hnd : xm.Nodup := hnd
  have hge0 : ∀ b ∈ xm, h.size ≤ b := hge0
  subst ht
  unfold result_Table_l1
  rw [hxl]
  -- the end of a refusal
  have refused : ∀ {ym : List Nat} {hz : Heap}, TE h h.size h1.size ym hz → ym.Nodup → (∀ b ∈ ym, h.size ≤ b) → okTab l = false → (shut ym >>= fun _ => ldS ⟨h.size, 0, none⟩ >>= fun r2 => ldI .i64 ⟨h1.size, 0, none⟩ >>= fun r3 => M.pure (r2, r3)).wp hz Q := fun {ym hz} TEz nd hge hbad => by
    refine bind_w (shut_spec nd TEz.df (fun h9 s9 n9 => ?_))
    have d2 : h9[h.size]? = _ := (n9 _ (fun hm => by have := TEz.df _ hm; rw [TEz.c2] at this; cases this)).trans TEz.c2
    have d3 : h9[h1.size]? = _ := (n9 _ (fun hm => by have := TEz.df _ hm; rw [TEz.c3] at this; cases this)).trans TEz.c3
    refine ldS_b (n := ByteArray.empty) (one_cell d2) (ldI_b (n := 21) (one_cell d3) (pure_w (H2 _ ⟨by rw [s9]; exact TEz.ext.size, fun j hj => ?_⟩ hc hbad)))
    exact (n9 j (fun hm => by have := hge j hm; omega)).trans (TEz.ext.same j hj)
  refine ite_w (fun hlt => ?_) (fun hend => ?_)
  · have hlt : i < l.length := by have := of_decide_eq_true hlt; omega
    have hxS : VsRepS (· < h.size) hh x l := hx.lt.same (fun b hb => T.ext.same b hb) (fun _ h => h)
    obtain ⟨a, cs, ha, hS, hs, hcs, hv⟩ := hxS.get hlt
    refine ixL_b (by omega) (by omega) ha (ldG_b hs (fun j hj => by rw [Addr.add_add, show (i : Int).toNat * 4 = i * 4 by omega]; exact hcs j hj) (mkV_b (fun hA eA zA gA => need_b hs (stR (vs := cs) gA (by rw [hs]; decide) hv.to.one (fun hB uB gB => ?_)))))
    rw [lay_full (by rw [Array.length_toList, hs]; rfl), Array.toArray_toList] at gB
    have EB : Ext hh hB := eA.upd uB (Nat.le_refl _)
    have TB := T.more EB
    have hvB : VRepS (· < h.size) hB l[i] cs := hv.same (fun b hb => EB.same b (Nat.lt_of_lt_of_le hb T.ext.size))
    have htk := okTab_take hlt
    rw [hok, Bool.true_and] at htk
    have hbad := okTab_bad hlt
    have hkt := keysOf_take hlt
    have hwi := wts_mem (List.getElem_mem hlt)
    have hkp := keysOf_pre l (i + 1)
    have hkp0 := keysOf_pre l i
    generalize hvi : l[i] = vi at *
    obtain ⟨k, n, s, lv⟩ := vi
    obtain ⟨xs, rfl, k1, n1, s1, r1⟩ := VRepS.eq.1 hvB
    have c0 : hcell hB ((⟨hh.size, 0, none⟩ : Addr).add 0) = some (.int .i64 k) := by rw [blk_cell gB]; rfl
    have c3 : hcell hB ((⟨hh.size, 0, none⟩ : Addr).add 3) = some xs.v := by rw [blk_cell gB]; rfl
    refine ldI_b c0 (ite_w (fun hk => ?_) (fun hk => ?_))
    · have hk : ¬ k = 5 := by simpa using hk
      refine refuse_b B TB (fun hC TC hne => ?_)
      exact refused TC hnd hge0 (hbad (by rw [show (Vl.mk k n s lv).k = k from rfl, decide_eq_false hk]; rfl))
    · have hk : k = 5 := by simpa using hk
      refine ldL_b c3 (bind_w ?_)
      unfold slices_Chunk_slapi_Value_api_Value
      refine mkV_b (fun hC eC zC gC => mkV_b (fun hD eD zD gD => ?_))
      refine ldI_b (n := 2) (one_cell gD) (iteF (by decide) (pure_w (bind_w ?_)))
      have ED := eC.trans eD
      have TD := TB.more ED
      have hsT := T.ext.size
      have hsB := EB.size
      have hwt : wt (.mk k n s lv) = 1 + s.length + wt.wts lv := by rw [wt]
      have hlv := wts_len lv
      have hevl := evens_len lv
      rw [hkt] at hkp
      have hkl2 : ((keysOf (l.take i)) ++ evens lv).length ≤ (keysOf l).length := hkp
      rw [List.length_append] at hkl2
      obtain ⟨_, _, cD5, _, _⟩ := TB.c5
      have s5 := blk_lt cD5
      have TD' : TJ h h.size h1.size h3.size xm (fun j => j = hB.size ∨ j = hC.size) (keysOf (l.take i)) hD := by
        obtain ⟨r0, css, d5, G, off⟩ := TB.c5
        refine ⟨TD.ext, TD.c2, TD.c3, ⟨r0, css, ED.blk d5, G.same (fun y hy => ED.same y (G.gw.lt hy).1) (fun y hy => ED.same y (by omega)), fun j hj ho => ?_⟩, TD.df⟩
        have := (G.gw.lt ho).1
        rcases hj with rfl | rfl
        · omega
        · have := eC.size; omega
      refine mapkeys_b (a := hB.size) (b := hC.size) (lv := lv) B TD' (r1.same (fun y hy => ED.same y (by omega)) (fun _ h => h)) (by omega) (by omega) (eD.blk gC) gD (by omega) (by have := eC.size; omega) (fun hE hall hsz TE' => ?_) (fun hE hall TE' => ?_)
      · refine iteF rfl ?_
        rw [w64 (by omega) (by omega)]
        have hsD := ED.size
        refine hself (_, _) _ ⟨i + 1, by simp, by omega, ?_, ?_, ?_, ?_⟩ (by dsimp only; omega)
        · dsimp only
          rw [hkt]; exact TE'
        · rw [htk]
          show (decide (k = 5) && (evens lv).all _) = true
          rw [decide_eq_true hk, hall]; rfl
        · refine List.nodup_cons.2 ⟨fun hm => ?_, hnd⟩
          have := blk_lt (T.df _ hm); omega
        · intro b hb
          rcases List.mem_cons.1 hb with rfl | hb
          · omega
          · exact hge0 b hb
      · refine iteT rfl ?_
        have hsD := ED.size
        refine refused TE' (List.nodup_cons.2 ⟨fun hm => ?_, hnd⟩) (fun b hb => ?_) (hbad (by
          show (decide (k = 5) && (evens lv).all _) = false
          rw [hall, Bool.and_false]))
        · have := blk_lt (T.df _ hm); omega
        · rcases List.mem_cons.1 hb with rfl | hb
          · omega
          · exact hge0 b hb
  · have hge : i = l.length := by have := of_decide_eq_false hend; omega
    subst hge
    rw [List.take_length] at T hok
    obtain ⟨r, css, c5, G, _⟩ := T.c5
    have s5 := blk_lt c5
    have hsT := T.ext.size
    have hnr : ∀ b, b ≤ h3.size → ¬ Sl.on r b := fun b hb ho => by have := (G.gw.lt ho).2; omega
    refine ldL_b (one_cell c5) (bind_w (vsort_spec G (fun b hb => ⟨by omega, hnr b (by omega)⟩) (by omega) (fun hA css1 l1 G1 hperm hpw szA sameA => ?_)))
    have c5A : hA[h3.size]? = _ := (sameA _ s5 (hnr _ (Nat.le_refl _))).trans c5
    have hlen1 : l1.length = (keysOf l).length := hperm.length_eq
    refine ldL_b (one_cell c5A) (bind_w (compact_spec G1 (fun b hb => ⟨by omega, hnr b (by omega)⟩) (by omega) (fun hB r2 css2 G2 szB sameB onB => ?_)))
    have c5B : hB[h3.size]? = _ := (sameB _ (by omega) (hnr _ (Nat.le_refl _))).trans c5A
    have hnr2 : ∀ b, b ≤ h3.size → ¬ Sl.on r2 b := fun b hb ho => hnr b hb (onB b ho)
    refine stV_b (one_cell c5B) (hfrozen_blk c5B) (one_v _) ?_
    have uC := Upd.hset hB h3.size 0 r2.v
    have c5C := set_one (u := r2.v) c5B
    generalize hset hB ⟨h3.size, 0, none⟩ r2.v = hC at uC c5C ⊢
    have G3 : VGw (h3.size + 1) (· < h.size) hC r2 css2 (cpt l1) := G2.same (fun b hb => uC.ne b (fun e => hnr2 h3.size (Nat.le_refl _) (e ▸ hb))) (fun b hb => uC.ne b (by omega))
    have keep : ∀ b, b < hh.size → b ≠ h3.size → ¬ Sl.on r b → hC[b]? = hh[b]? := fun b hb hne hno => by
      rw [uC.ne b hne, sameB b (by omega) hno, sameA b hb hno]
    have EC : Ext h hC := ⟨by have := uC.size; omega, fun b hb => (keep b (by omega) (by omega) (hnr b (by omega))).trans (T.ext.same b hb)⟩
    obtain ⟨sx, c2⟩ := T.c2
    obtain ⟨nx, c3⟩ := T.c3
    have c2C : hC[h.size]? = _ := (keep _ (by omega) (by omega) (hnr _ (by omega))).trans c2
    have c3C : hC[h1.size]? = _ := (keep _ (by omega) (by omega) (hnr _ (by omega))).trans c3
    have dfC : ∀ b ∈ xm, hC[b]? = some (.deferred (some [])) := fun b hb => by
      have hd := T.df b hb
      refine (keep b (blk_lt hd) (fun e => by rw [e, c5] at hd; cases hd) (fun ho => ?_)).trans hd
      rcases G.gw with ⟨hn, _⟩ | ⟨g, ty, cells, R⟩
      · rw [hn] at ho; obtain ⟨a1, ha1, _⟩ := ho; cases ha1
      · obtain ⟨a1, ha1, ha2⟩ := ho
        rw [R.base] at ha1; cases ha1
        have : b = g := ha2.symm
        rw [this, R.blk] at hd; cases hd
    have hcols : Cols l (cpt l1) := ⟨(cpt_inc l1 hpw).1, fun y => ((cpt_inc l1 hpw).2 y).trans hperm.mem_iff⟩
    have hCl : (cpt l1).length ≤ wt.wts l := by have := cpt_len l1; omega
    have htab := tab_len hvr hCl (fun k hk => (hcols.2 k).1 hk) hW
    have hCr : VsRep hC r2 (cpt l1) := (G3.rep_ (by omega)).to
    have hpC := hp.ext EC
    have hdC := hd.ext EC
    refine mkV_b (fun hD eD zD gD => ?_)
    have W0 : BW hC hC.size h3.size _ hD Sl.nil [] := ⟨Bld.new (Nat.le_refl _) gD, eD, eD.blk c5C, fun ⟨a1, ha1, _⟩ => (by cases ha1), by have := blk_lt c5C; omega⟩
    have hpre := tab_pre (C := cpt l1) (l := l) 0
    simp only [List.take_zero, List.flatMap_nil, List.append_nil] at hpre
    refine bind_w (callV_f cl_result_Table_1 (S_result_Table_1 (.func (.func fn_value_Text) #[] #[]) ⟨h3.size, 0, none⟩ ⟨hC.size, 0, none⟩) (line_spec (T := (cpt l1).map txV) W0 (one_cell c5C) hCr (by simp) (fun j hj hj' hx1 cs Q1 ex1 bx1 hk hq => ?_) (by rw [List.nil_append]; omega) (by omega) (fun hE rrE WE => ?_)))
    · rw [List.getElem_map] at hq
      refine text_call hk (hpC.ext ex1) (hdC.ext ex1) ?_ hq
      obtain ⟨a1, b1⟩ := keys_wt ((hcols.2 (cpt l1)[j]).1 (List.getElem_mem hj))
      have := txt_wt 8 _ hk
      show (txt 8 _).length ≤ _
      omega
    rw [List.nil_append] at WE
    refine M.loop_inv (fun (s : Int) hz => ∃ m : Nat, s = (m : Int) ∧ m ≤ l.length ∧ ∃ rr, BW hC hC.size h3.size (.cells #[r2.v] ty_sl_api_Value (0, 0)) hz rr (lineT ((cpt l1).map txV) ++ (l.take m).flatMap (fun v => lineT ((cpt l1).map (cellT v))))) (fun s _ => ((l.length : Int) - s).toNat) ?_ ⟨0, rfl, Nat.zero_le _, rrE, by simpa using WE⟩
    rintro s hz ⟨m, rfl, hm, rr, W⟩ self3 hself3
    unfold result_Table_l3
    dsimp only
    have hpm := tab_pre (C := cpt l1) (l := l) m
    refine ite_w (fun hlt => ?_) (fun hend => ?_)
    · have hlt : m < l.length := by have := of_decide_eq_true hlt; omega
      have hpm1 := tab_pre (C := cpt l1) (l := l) (m + 1)
      have htk : (l.take (m + 1)).flatMap (fun v => lineT ((cpt l1).map (cellT v))) = (l.take m).flatMap (fun v => lineT ((cpt l1).map (cellT v))) ++ lineT ((cpt l1).map (cellT l[m])) := by
        rw [List.take_succ_eq_append_getElem hlt, List.flatMap_append]; simp
      rw [htk, ← List.append_assoc] at hpm1
      have Ez : Ext h hz := EC.trans W.ext
      have hxS : VsRepS (· < h.size) hz x l := hx.lt.same (fun b hb => Ez.same b hb) (fun _ h => h)
      obtain ⟨a, cs, ha, hS, hs, hcs, hv⟩ := hxS.get hlt
      refine ixL_b (by omega) (by omega) ha (ldG_b hs (fun j hj => by rw [Addr.add_add, show (m : Int).toNat * 4 = m * 4 by omega]; exact hcs j hj) (mkV_b (fun hF eF zF gF => need_b hs (stR (vs := cs) gF (by rw [hs]; decide) hv.to.one (fun hG uG gG => ?_)))))
      rw [lay_full (by rw [Array.length_toList, hs]; rfl), Array.toArray_toList] at gG
      have EG : Ext hz hG := eF.upd uG (Nat.le_refl _)
      have WG := W.more EG
      have hbz := W.bld.lt
      have WG' : BW hC hC.size hz.size (.cells cs ty_api_Value (0, 0)) hG rr (lineT ((cpt l1).map txV) ++ (l.take m).flatMap (fun v => lineT ((cpt l1).map (cellT v)))) := ⟨WG.bld, WG.ext, gG, fun ho => by have := (W.bld.row.lt ho).1; omega, by omega⟩
      have h5k : l[m].k = 5 := by
        have := hok
        unfold okTab at this
        rw [List.all_eq_true] at this
        have := this l[m] (List.getElem_mem hlt)
        rw [Bool.and_eq_true] at this
        exact of_decide_eq_true this.1
      have hwm := wts_mem (List.getElem_mem hlt)
      refine bind_w (callV_f cl_result_Table_1 (S_result_Table_1 (.func (.func fn_result_Table_2) #[] #[.pointer (some ⟨hz.size, 0, none⟩)]) ⟨h3.size, 0, none⟩ ⟨hC.size, 0, none⟩) (line_spec (T := (cpt l1).map (cellT l[m])) WG' (one_cell c5C) hCr (by simp) (fun j hj hj' hx1 cs1 Q1 ex1 bx1 hk hq => ?_) (by omega) (by omega) (fun hH rrH WH => ?_)))
      · rw [List.getElem_map] at hq
        exact cell_call bx1 (hv.same (fun b hb => ((EC.trans ex1).same b hb).trans (Ez.same b hb).symm)).to hk h5k (hpC.ext ex1) (hdC.ext ex1) (by omega) hq
      · rw [w64 (by omega) (by omega)]
        refine hself3 _ _ ⟨m + 1, by simp, by omega, rrH, ?_⟩ (by omega)
        rw [htk, ← List.append_assoc]
        have hb5 := blk_lt c5C
        exact ⟨WH.bld, WH.ext, WH.ext.blk c5C, fun ho => by have := (WH.bld.row.lt ho).2; omega, by omega⟩
    · have hge : m = l.length := by have := of_decide_eq_false hend; omega
      subst hge
      rw [List.take_length] at W
      refine bind_w (bstr_spec W.bld (by unfold tabT at htab; omega) (fun hI KI szI => ?_))
      have EI := KI.ext W.ext W.bld (Nat.le_refl _)
      have c2I := EI.blk c2C
      refine stV_b (one_cell c2I) (hfrozen_blk c2I) rfl ?_
      have u1 := Upd.hset hI h.size 0 (.string (bs (lineT ((cpt l1).map txV) ++ l.flatMap (fun v => lineT ((cpt l1).map (cellT v))))))
      have d1 := set_one (u := .string (bs (lineT ((cpt l1).map txV) ++ l.flatMap (fun v => lineT ((cpt l1).map (cellT v)))))) c2I
      generalize hset hI ⟨h.size, 0, none⟩ (.string (bs (lineT ((cpt l1).map txV) ++ l.flatMap (fun v => lineT ((cpt l1).map (cellT v)))))) = hJ at u1 d1 ⊢
      have c3J : hJ[h1.size]? = _ := (u1.ne _ (by omega)).trans (EI.blk c3C)
      refine stV_b (one_cell c3J) (hfrozen_blk c3J) rfl ?_
      have u2 := Upd.hset hJ h1.size 0 (.int .i64 0)
      have d2 := set_one (u := .int .i64 0) c3J
      generalize hset hJ ⟨h1.size, 0, none⟩ (.int .i64 0) = hK at u2 d2 ⊢
      have d1' : hK[h.size]? = _ := (u2.ne _ (by omega)).trans d1
      have dfK : ∀ b ∈ xm, hK[b]? = some (.deferred (some [])) := fun b hb => by
        have hd := EI.blk (dfC b hb)
        rw [u2.ne b (fun e => by rw [e] at hd; rw [EI.blk c3C] at hd; cases hd), u1.ne b (fun e => by rw [e] at hd; rw [c2I] at hd; cases hd)]
        exact hd
      refine bind_w (shut_spec hnd dfK (fun hL sL nL => ?_))
      have f2 : hL[h.size]? = _ := (nL _ (fun hm => by have := dfK _ hm; rw [d1'] at this; cases this)).trans d1'
      have f3 : hL[h1.size]? = _ := (nL _ (fun hm => by have := dfK _ hm; rw [d2] at this; cases this)).trans d2
      refine ldS_b (one_cell f2) (ldI_b (n := 0) (one_cell f3) (pure_w (H3 hL (cpt l1) ?_ hc hok hcols)))
      have EK : Ext h hK := ((EC.trans EI).upd u1 (Nat.le_refl _)).upd u2 (by omega)
      exact ⟨by rw [sL]; exact EK.size, fun j hj => (nL j (fun hm => by have := hge0 j hm; omega)).trans (EK.same j hj)⟩
end Gx
namespace Gx
open Go
set_option linter.unusedVariables false
set_option linter.unusedSimpArgs false
/-! ### result.List, and what the law is begun with -/
def listT (l : List Vl) : List UInt8 := l.flatMap (fun v => txV v ++ [10])
theorem listT_len {l : List Vl} (hr : ∀ v ∈ l, ∃ h cs, VRep h v cs) : (listT l).length ≤ 26 * wt.wts l := by
  induction l with
  | nil => simp [listT]
  | cons v l ih =>
    have ih := ih (fun x hx => hr x (List.mem_cons_of_mem _ hx))
    obtain ⟨h, cs, hv⟩ := hr v (by simp)
    have := txt_wt 8 v hv
    unfold listT at ih ⊢
    rw [List.flatMap_cons, List.length_append, List.length_append, wt.wts]
    show (txt 8 v).length + _ + _ ≤ _
    simp only [List.length_cons, List.length_nil]
    omega
theorem vlist_spec {h : Heap} {Q : ByteArray × Int → Heap → Prop} {x : Sl} {l : List Vl} (hx : VsRep h x l) (hp : PowTab h) (hd : DbTab h) (hW : wt.wts l ≤ 1099511627)
    (H1 : ∀ h', Ext h h' → checkVs l ≠ 0 → Q (ByteArray.empty, checkVs l) h')
    (H3 : ∀ h', Ext h h' → checkVs l = 0 → Q (bs (listT l), 0) h') : (result_List x).wp h Q := by
  unfold result_List
  have hxl := hx.len
  have hwl := wts_len l
  have hvr : ∀ v ∈ l, ∃ h cs, VRep h v cs := fun v hv => by
    obtain ⟨j, hj, rfl⟩ := List.getElem_of_mem hv
    obtain ⟨a, c, _, _, _, hv'⟩ := hx.get hj
    exact ⟨h, c, hv'⟩
  refine bind_w (vfirst_spec hx (fun h1 e1 => ?_))
  refine ite_w (fun hc => pure_w (H1 _ e1 (by simpa using hc))) (fun hc => ?_)
  have hc : checkVs l = 0 := by simpa using hc
  refine mkV_b (fun h2 e2 z2 g2 => ?_)
  have E2 := e1.trans e2
  have hT := listT_len hvr
  have hpre : ∀ i, (listT (l.take i)).length ≤ (listT l).length := fun i => by
    unfold listT
    conv => rhs; rw [← List.take_append_drop i l, List.flatMap_append, List.length_append]
    omega
  refine M.loop_inv (fun (s : Int) hh => ∃ (i : Nat) (r : Sl), s = (i : Int) ∧ i ≤ l.length ∧ Ext h1 hh ∧ Bld h1.size hh h1.size r (listT (l.take i))) (fun s _ => ((l.length : Int) - s).toNat) ?_ ⟨0, Sl.nil, rfl, Nat.zero_le _, e2, by simpa [listT] using Bld.new (Nat.le_refl _) g2⟩
  rintro s hh ⟨i, r, rfl, hi, E, B⟩ self hself
  unfold result_List_l1
  rw [hxl]
  have hpi := hpre i
  refine ite_w (fun hlt => ?_) (fun hend => ?_)
  · have hlt : i < l.length := by have := of_decide_eq_true hlt; omega
    have hpi1 := hpre (i + 1)
    have htk : listT (l.take (i + 1)) = listT (l.take i) ++ txV l[i] ++ [10] := by
      unfold listT
      rw [List.take_succ_eq_append_getElem hlt, List.flatMap_append]; simp
    rw [htk, List.length_append, List.length_append] at hpi1
    have E0 := e1.trans E
    refine ixV_b (hx.ext E0) hlt rfl (fun a cs hs hcs hv => ldG_b hs hcs (mkV_b (fun h3 e3 z3 g3 => need_b hs (stR (vs := cs) g3 (by rw [hs]; decide) hv.one (fun h4 u4 g4 => ?_)))))
    rw [lay_full (by rw [Array.length_toList, hs]; rfl), Array.toArray_toList] at g4
    have E4 : Ext hh h4 := e3.upd u4 (Nat.le_refl _)
    have hw := wts_mem (List.getElem_mem hlt)
    refine ldV_b (v := l[i]) g4 hs (bind_w (vText_spec (hv.ext E4) (hp.ext (E0.trans E4)) (hd.ext (E0.trans E4)) ?_ (fun h5 e5 => ?_)))
    · have := txt_wt 8 _ hv
      show (txt 8 l[i]).length ≤ _
      omega
    · have B5 := (B.ext E4).ext e5
      have E5 := (E.trans E4).trans e5
      simp only [List.length_cons, List.length_nil] at hpi1
      refine bind_w (wstr_spec B5 E5.size (by omega) (fun h6 r6 n6 B6 K6 => ?_))
      have E6 := K6.ext E5 B5 (Nat.le_refl _)
      refine bind_w (wbyte_spec (c := 10) B6 E6.size (by rw [List.length_append]; omega) rfl (fun h7 r7 B7 K7 => ?_))
      rw [w64 (by omega) (by omega)]
      exact hself _ _ ⟨i + 1, r7, by simp, by omega, K7.ext E6 B6 (Nat.le_refl _), by rw [htk]; exact B7⟩ (by omega)
  · have hge : i = l.length := by have := of_decide_eq_false hend; omega
    subst hge
    rw [List.take_length] at B
    exact bind_w (bstr_spec B (by omega) (fun h3 K3 _ => pure_w (H3 _ (e1.trans (K3.ext E B (Nat.le_refl _))) hc)))
theorem cells_one4 (k n : Int) (s : ByteArray) : ∀ v ∈ (#[.int .i64 k, .int .i64 n, .string s, .slice none 0 0] : Array Value).toList, one v = true := fun v hv => by
  simp at hv; rcases hv with rfl | rfl | rfl | rfl <;> rfl
theorem rstr_spec {s : List UInt8} {h : Heap} {Q : Array Value → Heap → Prop} (hs : s.length ≤ 1048576) (H : ∀ h' c, Ext h h' → (∀ S h2, VRepS S h2 (.mk 2 0 s []) c) → Q c h') : (rambleref02_Str (bs s)).wp h Q := by
  unfold rambleref02_Str
  refine mkV_b (fun h1 e1 z1 g1 => need_b rfl (stR (vs := (#[.int .i64 2, .int .i64 0, .string (bs s), .slice none 0 0] : Array Value)) (off := 0) g1 (Nat.le_refl 4) (cells_one4 _ _ _) (fun h2 u2 g2 => ?_)))
  rw [lay_full (by rfl)] at g2
  refine ldR g2 rfl (pure_w (H _ _ (e1.upd u2 (Nat.le_refl _)) (fun S h3 => VRepS.eq.2 ⟨Sl.nil, rfl, ⟨by decide, by decide⟩, ⟨by decide, by decide⟩, by omega, rfl, Nat.le_refl _, by decide, by rw [VsAtS]; trivial⟩)))
theorem rint_spec {n : Int} {h : Heap} {Q : Array Value → Heap → Prop} (hn : I64 n) (H : ∀ h' c, Ext h h' → (∀ S h2, VRepS S h2 (.mk 1 n [] []) c) → Q c h') : (rambleref02_Int n).wp h Q := by
  unfold rambleref02_Int
  refine mkV_b (fun h1 e1 z1 g1 => need_b rfl (stR (vs := (#[.int .i64 1, .int .i64 n, .string ByteArray.empty, .slice none 0 0] : Array Value)) (off := 0) g1 (Nat.le_refl 4) (cells_one4 _ _ _) (fun h2 u2 g2 => ?_)))
  rw [lay_full (by rfl)] at g2
  refine ldR g2 rfl (pure_w (H _ _ (e1.upd u2 (Nat.le_refl _)) (fun S h3 => VRepS.eq.2 ⟨Sl.nil, rfl, ⟨by decide, by decide⟩, hn, by decide, rfl, Nat.le_refl _, by decide, by rw [VsAtS]; trivial⟩)))
theorem fillL2_b {β : Type} {h : Heap} {Q : β → Heap → Prop} {z a b : Array Value} {f : Array Value → M β} (ha : a.size = 4) (hb : b.size = 4) (H : (f (a ++ b)).wp h Q) : (fillL 4 2 z [(0, .agg a), (1, .agg b)] >>= f).wp h Q := by
  refine ⟨a ++ b, ?_, H⟩
  have hz : (zRow z (2 * 4)).size = 8 := by simp [zRow]
  show Instr.fill (fun i => some (i * 4, 4)) (zRow z (2 * 4)) [(0, Value.agg a), (1, Value.agg b)] = some (a ++ b)
  rw [fill_cons (off := 0) (size := 4) (v := Value.agg a) (by simp) ha (by omega), fill_cons (off := 4) (size := 4) (v := Value.agg b) (by simp) hb (by rw [lay_size]; omega)]
  show some _ = some _
  rw [show (Value.agg a).cells = a from rfl, show (Value.agg b).cells = b from rfl]
  congr 1
  apply Array.ext'
  rw [lay_toList _ _ _ (by rw [lay_size, Array.length_toList]; omega), lay_toList _ _ _ (by rw [Array.length_toList]; omega)]
  have h1 : a.toList.length = 4 := by rw [Array.length_toList]; exact ha
  have h2 : b.toList.length = 4 := by rw [Array.length_toList]; exact hb
  have h3 : (zRow z (2 * 4)).toList.length = 8 := by rw [Array.length_toList]; exact hz
  rw [List.take_zero, List.nil_append, Array.toList_append, List.take_append_of_le_length (by omega), List.take_of_length_le (by omega), h1, h2]
  rw [List.drop_eq_nil_iff.2 (by rw [List.length_append, List.length_drop]; omega), List.append_nil]
theorem two_rep {S : Nat → Prop} {h : Heap} {b : Nat} {va vb : Vl} {a c : Array Value} {t : TypeId} (hb : h[b]? = some (.cells (a ++ c) t (0, 0))) (ha : VRepS S h va a) (hc : VRepS S h vb c) : VsRepS (fun i => S i ∨ i = b) h ⟨some ⟨b, 0, none⟩, 2, 2⟩ [va, vb] := by
  refine ⟨rfl, Nat.le_refl _, by show (2 : Nat) ≤ 9223372036854775807; decide, ?_⟩
  rw [VsAtS, VsAtS, VsAtS]
  have h1 := ha.size
  have h2 := hc.size
  refine ⟨⟨_, a, rfl, .inr rfl, h1, fun j hj => ?_, ha.mono (fun i hi => .inl hi)⟩, ⟨_, c, rfl, .inr rfl, h2, fun j hj => ?_, hc.mono (fun i hi => .inl hi)⟩, trivial⟩
  · rw [add_mk, Nat.zero_add, hcell_blk hb, Array.getElem?_append_left (by omega)]
    congr 1; omega
  · rw [add_mk, Nat.zero_add, hcell_blk hb, Array.getElem?_append_right (by omega)]
    congr 1; omega
end Gx
namespace Gx
open Go
set_option linter.unusedVariables false
set_option linter.unusedSimpArgs false
/-! ### ramblelaw23.begun -/
def vS (s : List UInt8) : Vl := .mk 2 0 s []
def vI (n : Int) : Vl := .mk 1 n [] []
def vM (l : List Vl) : Vl := .mk 5 0 [] l
def bm1 : Vl := vM [vS [120], vI 1]
def bm2 : Vl := vM [vS [121], vI 2]
theorem bg_check : checkVs [bm1, bm2] = 0 := by
  simp [checkVs, checkV, bm1, bm2, vM, vS, vI, mayV, bareV, risesL]
theorem bg_ok : okTab [bm1, bm2] = true := by
  simp [okTab, bm1, bm2, vM, vS, vI, evens, Vl.k, Vl.l]
theorem bg_keys : keysOf [bm1, bm2] = [vS [120], vS [121]] := by
  simp [keysOf, bm1, bm2, vM, vS, vI, evens, Vl.l]
theorem bg_lt : cmpV (vS [120]) (vS [121]) = -1 := by
  unfold vS
  rw [cmpV_mk]
  rfl
theorem bg_cols : Cols [bm1, bm2] [vS [120], vS [121]] := by
  refine ⟨?_, fun x => by rw [bg_keys]⟩
  unfold Inc
  rw [List.pairwise_cons]
  refine ⟨fun y hy => ?_, List.pairwise_singleton _ _⟩
  simp at hy
  subst hy
  rw [bg_lt]; decide
theorem vS_eq (s t : List UInt8) : cmpV (vS s) (vS t) = 0 ↔ s = t := by
  rw [cmpV_eq]; simp [vS]
theorem itoa_small : Lib.itoa 1 = [49] ∧ Lib.itoa 2 = [50] := by
  constructor <;> simp [Lib.itoa, Lib.decDigits]
theorem txV_S (s : List UInt8) : txV (vS s) = quoteB s := by simp [txt, vS]
theorem txV_I (n : Int) : txV (vI n) = Lib.itoa n := by simp [txt, vI]
theorem bg_tab : tabT [vS [120], vS [121]] [bm1, bm2] = [39, 120, 39, 32, 124, 32, 39, 121, 39, 10, 49, 32, 124, 32, 45, 10, 45, 32, 124, 32, 50, 10] := by
  have h1 : cellT bm1 (vS [120]) = [49] := by
    show (match getV (vS [120]) [vS [120], vI 1] with | some x => txV x | none => [45]) = _
    rw [getV, if_pos ((vS_eq _ _).2 rfl)]
    show txV (vI 1) = _
    rw [txV_I, itoa_small.1]
  have h2 : cellT bm1 (vS [121]) = [45] := by
    show (match getV (vS [121]) [vS [120], vI 1] with | some x => txV x | none => [45]) = _
    rw [getV, if_neg (fun h => by have := (vS_eq _ _).1 h; simp at this)]
    rfl
  have h3 : cellT bm2 (vS [120]) = [45] := by
    show (match getV (vS [120]) [vS [121], vI 2] with | some x => txV x | none => [45]) = _
    rw [getV, if_neg (fun h => by have := (vS_eq _ _).1 h; simp at this)]
    rfl
  have h4 : cellT bm2 (vS [121]) = [50] := by
    show (match getV (vS [121]) [vS [121], vI 2] with | some x => txV x | none => [45]) = _
    rw [getV, if_pos ((vS_eq _ _).2 rfl)]
    show txV (vI 2) = _
    rw [txV_I, itoa_small.2]
  have q1 : quoteB [120] = [39, 120, 39] := by decide
  have q2 : quoteB [121] = [39, 121, 39] := by decide
  simp only [tabT, List.map_cons, List.map_nil, List.flatMap_cons, List.flatMap_nil, lineT, jn, txV_S, h1, h2, h3, h4, q1, q2]
  decide
theorem bg_list : checkVs [vI 1, vS [97]] = 0 ∧ listT [vI 1, vS [97]] = [49, 10, 39, 97, 39, 10] := by
  refine ⟨by simp [checkVs, checkV, vS, vI, mayV, bareV], ?_⟩
  have q : quoteB [97] = [39, 97, 39] := by decide
  simp only [listT, List.flatMap_cons, List.flatMap_nil, txV_S, txV_I, itoa_small.1, q]
  decide
end Gx
namespace Gx
open Go
set_option linter.unusedVariables false
set_option linter.unusedSimpArgs false
theorem begun23_spec {h : Heap} {Q : Bool → Heap → Prop} (hp : PowTab h) (hd : DbTab h) (H : ∀ h', Ext h h' → Q true h') : (ramblelaw23_begun).wp h Q := by
  unfold ramblelaw23_begun
  have vm : ∀ {S : Nat → Prop} {hh : Heap} {x : Sl} {l : List Vl}, VsRepS S hh x l → VRepS S hh (vM l) (#[.int .i64 5, .int .i64 0, .string ByteArray.empty, x.v] : Array Value) := fun {S hh x l} hx =>
    VRepS.eq.2 ⟨x, rfl, ⟨by decide, by decide⟩, ⟨by decide, by decide⟩, by decide, hx⟩
  have mone : ∀ (x : Sl), ∀ v ∈ (#[.int .i64 5, .int .i64 0, .string ByteArray.empty, x.v] : Array Value).toList, one v = true := fun x v hv => by
    simp only [List.mem_cons, List.not_mem_nil, or_false] at hv
    rcases hv with rfl | rfl | rfl | rfl <;> first | rfl | exact one_v _
  refine bind_w (rstr_spec (s := [120]) (by decide) (fun h1 c1 e1 r1 => bind_w (rint_spec (n := 1) ⟨by decide, by decide⟩ (fun h2 c2 e2 r2 => ?_))))
  have R1 := r1 (fun _ => True) h2
  have R2 := r2 (fun _ => True) h2
  refine fillL2_b R1.size R2.size (bdL_b ?_)
  have e3 := Ext.push h2 (.cells (c1 ++ c2) ty_api_Value)
  have g3 : (h2.push (.cells (c1 ++ c2) ty_api_Value))[h2.size]? = some (.cells (c1 ++ c2) ty_api_Value (0, 0)) := get_push_eq
  generalize h2.push (.cells (c1 ++ c2) ty_api_Value) = h3 at e3 g3 ⊢
  refine mkV_b (fun h4 e4 z4 g4 => need_b rfl (stR (vs := (#[.int .i64 5, .int .i64 0, .string ByteArray.empty, (⟨some ⟨h2.size, 0, none⟩, 2, 2⟩ : Sl).v] : Array Value)) (off := 0) g4 (Nat.le_refl 4) (mone _) (fun h5 u5 g5 => ?_)))
  rw [lay_full (by rfl)] at g5
  have E5 : Ext h3 h5 := e4.upd u5 (Nat.le_refl _)
  refine bind_w (rstr_spec (s := [121]) (by decide) (fun h6 c6 e6 r6 => bind_w (rint_spec (n := 2) ⟨by decide, by decide⟩ (fun h7 c7 e7 r7 => ?_))))
  have R6 := r6 (fun _ => True) h7
  have R7 := r7 (fun _ => True) h7
  refine fillL2_b R6.size R7.size (bdL_b ?_)
  have e8 := Ext.push h7 (.cells (c6 ++ c7) ty_api_Value)
  have g8 : (h7.push (.cells (c6 ++ c7) ty_api_Value))[h7.size]? = some (.cells (c6 ++ c7) ty_api_Value (0, 0)) := get_push_eq
  generalize h7.push (.cells (c6 ++ c7) ty_api_Value) = h8 at e8 g8 ⊢
  refine mkV_b (fun h9 e9 z9 g9 => need_b rfl (stR (vs := (#[.int .i64 5, .int .i64 0, .string ByteArray.empty, (⟨some ⟨h7.size, 0, none⟩, 2, 2⟩ : Sl).v] : Array Value)) (off := 0) g9 (Nat.le_refl 4) (mone _) (fun h10 u10 g10 => ?_)))
  rw [lay_full (by rfl)] at g10
  have E10 : Ext h8 h10 := e9.upd u10 (Nat.le_refl _)
  have E510 : Ext h5 h10 := ((e6.trans e7).trans e8).trans E10
  have g5' := E510.blk g5
  refine ldG_b (cs := (#[.int .i64 5, .int .i64 0, .string ByteArray.empty, (⟨some ⟨h2.size, 0, none⟩, 2, 2⟩ : Sl).v] : Array Value)) rfl (fun j hj => by rw [blk_cell g5']) (ldG_b (cs := (#[.int .i64 5, .int .i64 0, .string ByteArray.empty, (⟨some ⟨h7.size, 0, none⟩, 2, 2⟩ : Sl).v] : Array Value)) rfl (fun j hj => by rw [blk_cell g10]) ?_)
  have M1 : VRepS (fun _ => True) h10 bm1 (#[.int .i64 5, .int .i64 0, .string ByteArray.empty, (⟨some ⟨h2.size, 0, none⟩, 2, 2⟩ : Sl).v] : Array Value) := vm ((two_rep (va := vS [120]) (vb := vI 1) ((E5.trans E510).blk g3) (r1 (fun _ => True) h10) (r2 (fun _ => True) h10)).same (fun _ _ => rfl) (fun _ _ => trivial))
  have M2 : VRepS (fun _ => True) h10 bm2 (#[.int .i64 5, .int .i64 0, .string ByteArray.empty, (⟨some ⟨h7.size, 0, none⟩, 2, 2⟩ : Sl).v] : Array Value) := vm ((two_rep (va := vS [121]) (vb := vI 2) (E10.blk g8) (r6 (fun _ => True) h10) (r7 (fun _ => True) h10)).same (fun _ _ => rfl) (fun _ _ => trivial))
  refine fillL2_b rfl rfl (bdL_b ?_)
  have e11 := Ext.push h10 (.cells ((#[.int .i64 5, .int .i64 0, .string ByteArray.empty, (⟨some ⟨h2.size, 0, none⟩, 2, 2⟩ : Sl).v] : Array Value) ++ (#[.int .i64 5, .int .i64 0, .string ByteArray.empty, (⟨some ⟨h7.size, 0, none⟩, 2, 2⟩ : Sl).v] : Array Value)) ty_api_Value)
  have g11 : (h10.push (.cells ((#[.int .i64 5, .int .i64 0, .string ByteArray.empty, (⟨some ⟨h2.size, 0, none⟩, 2, 2⟩ : Sl).v] : Array Value) ++ (#[.int .i64 5, .int .i64 0, .string ByteArray.empty, (⟨some ⟨h7.size, 0, none⟩, 2, 2⟩ : Sl).v] : Array Value)) ty_api_Value))[h10.size]? = some (.cells ((#[.int .i64 5, .int .i64 0, .string ByteArray.empty, (⟨some ⟨h2.size, 0, none⟩, 2, 2⟩ : Sl).v] : Array Value) ++ (#[.int .i64 5, .int .i64 0, .string ByteArray.empty, (⟨some ⟨h7.size, 0, none⟩, 2, 2⟩ : Sl).v] : Array Value)) ty_api_Value (0, 0)) := get_push_eq
  generalize h10.push (.cells ((#[.int .i64 5, .int .i64 0, .string ByteArray.empty, (⟨some ⟨h2.size, 0, none⟩, 2, 2⟩ : Sl).v] : Array Value) ++ (#[.int .i64 5, .int .i64 0, .string ByteArray.empty, (⟨some ⟨h7.size, 0, none⟩, 2, 2⟩ : Sl).v] : Array Value)) ty_api_Value) = h11 at e11 g11 ⊢
  have L11 : VsRep h11 ⟨some ⟨h10.size, 0, none⟩, 2, 2⟩ [bm1, bm2] := (two_rep (S := fun i => i < h10.size) g11 ((M1.to.lt).same (fun b hb => e11.same b hb)) ((M2.to.lt).same (fun b hb => e11.same b hb))).to
  have E11 : Ext h h11 := ((((e1.trans e2).trans e3).trans E5).trans E510).trans e11
  have hW : wt.wts [bm1, bm2] ≤ 1048576 := by simp [wt.wts, wt, bm1, bm2, vM, vS, vI]
  have rest : ∀ {h12 : Heap}, Ext h11 h12 → (do
      let x23_23 ← rambleref02_Int 1
      let x24_24 ← rambleref02_Str (⟨#[97]⟩ : ByteArray)
      let y_26 ← fillL 4 2 (#[.int .i64 0, .int .i64 0, .string ByteArray.empty, .slice none 0 0] : Array Value) [(0, .agg x23_23), (1, .agg x24_24)]
      let x25_25 ← bdL ty_api_Value 2 y_26
      let x26_27 ← result_List x25_25
      let x34_29 ← M.ite (sEq (bs (tabT [vS [120], vS [121]] [bm1, bm2]), (0 : Int)).1 (⟨#[39, 120, 39, 32, 124, 32, 39, 121, 39, 10, 49, 32, 124, 32, 45, 10, 45, 32, 124, 32, 50, 10]⟩ : ByteArray)) (do
        M.pure ((bs (tabT [vS [120], vS [121]] [bm1, bm2]), (0 : Int)).2 == 0)
        ) (do
        M.pure false
        )
      let x38_30 ← M.ite x34_29 (do
        M.pure (sEq x26_27.1 (⟨#[49, 10, 39, 97, 39, 10]⟩ : ByteArray))
        ) (do
        M.pure false
        )
      let x42_31 ← M.ite x38_30 (do
        M.pure (x26_27.2 == 0)
        ) (do
        M.pure false
        )
      M.pure x42_31 : M Bool).wp h12 Q := fun {h12} e12 => by
    have E12 := E11.trans e12
    refine bind_w (rint_spec (n := 1) ⟨by decide, by decide⟩ (fun h13 c13 e13 r13 => bind_w (rstr_spec (s := [97]) (by decide) (fun h14 c14 e14 r14 => ?_))))
    have R13 := r13 (fun i => i < h14.size) h14
    have R14 := r14 (fun i => i < h14.size) h14
    refine fillL2_b R13.size R14.size (bdL_b ?_)
    have e15 := Ext.push h14 (.cells (c13 ++ c14) ty_api_Value)
    have g15 : (h14.push (.cells (c13 ++ c14) ty_api_Value))[h14.size]? = some (.cells (c13 ++ c14) ty_api_Value (0, 0)) := get_push_eq
    generalize h14.push (.cells (c13 ++ c14) ty_api_Value) = h15 at e15 g15 ⊢
    have E15 := ((E12.trans e13).trans e14).trans e15
    have L15 : VsRep h15 ⟨some ⟨h14.size, 0, none⟩, 2, 2⟩ [vI 1, vS [97]] := (two_rep (S := fun i => i < h14.size) g15 (r13 _ h15) (r14 _ h15)).to
    refine bind_w (vlist_spec L15 (hp.ext E15) (hd.ext E15) (by simp [wt.wts, wt, vS, vI]) (fun h16 e16 hne => absurd bg_list.1 hne) (fun h16 e16 _ => ?_))
    rw [bg_list.2, bg_tab]
    have s1 : sEq (bs [39, 120, 39, 32, 124, 32, 39, 121, 39, 10, 49, 32, 124, 32, 45, 10, 45, 32, 124, 32, 50, 10]) (⟨#[39, 120, 39, 32, 124, 32, 39, 121, 39, 10, 49, 32, 124, 32, 45, 10, 45, 32, 124, 32, 50, 10]⟩ : ByteArray) = true := by
      show sEq (bs _) (bs [39, 120, 39, 32, 124, 32, 39, 121, 39, 10, 49, 32, 124, 32, 45, 10, 45, 32, 124, 32, 50, 10]) = true
      rw [sEq_bs]; decide
    have s2 : sEq (bs [49, 10, 39, 97, 39, 10]) (⟨#[49, 10, 39, 97, 39, 10]⟩ : ByteArray) = true := by
      show sEq (bs _) (bs [49, 10, 39, 97, 39, 10]) = true
      rw [sEq_bs]; decide
    exact iteT_b s1 (pure_b (iteT_b rfl (pure_b (iteT_b s2 (pure_b (pure_w (H _ (E15.trans e16))))))))
  refine bind_w (vtable_spec L11 (hp.ext E11) (hd.ext E11) hW (fun h12 e12 hne => absurd bg_check hne) (fun h12 e12 _ hbad => ?_) (fun h12 C e12 _ _ hC => ?_))
  · rw [bg_ok] at hbad; cases hbad
  · rw [hC.uniq bg_cols]
    exact rest e12
end Gx
namespace Gx
open Go
set_option linter.unusedVariables false
set_option linter.unusedSimpArgs false
/-! ### Lines -/
/-- the first line, and what is behind its end -/
def cutL : List UInt8 → List UInt8 × List UInt8
  | [] => ([], [])
  | c :: r => if c = 10 then ([], r) else (c :: (cutL r).1, (cutL r).2)
theorem cutL_len : ∀ s : List UInt8, s ≠ [] → (cutL s).2.length < s.length
  | [], h => absurd rfl h
  | [c], _ => by unfold cutL; split <;> simp [cutL]
  | c :: d :: r, _ => by
    unfold cutL
    split
    · simp
    · have := cutL_len (d :: r) (by simp)
      simp only [List.length_cons] at this ⊢
      omega
def linesL (s : List UInt8) : List (List UInt8) := if h : s = [] then [] else (cutL s).1 :: linesL (cutL s).2
termination_by s.length
decreasing_by exact cutL_len s h
theorem linesL_nil : linesL [] = [] := by rw [linesL, dif_pos rfl]
theorem linesL_cons {s : List UInt8} (h : s ≠ []) : linesL s = (cutL s).1 :: linesL (cutL s).2 := by rw [linesL, dif_neg h]
theorem cutL_eq : ∀ s : List UInt8, Lib.indexByte s 10 = (if (10 : UInt8) ∈ s then ((cutL s).1.length : Int) else -1) ∧ (if (10 : UInt8) ∈ s then s = (cutL s).1 ++ 10 :: (cutL s).2 else cutL s = (s, []))
  | [] => by simp [Lib.indexByte, cutL]
  | c :: r => by
    obtain ⟨h1, h2⟩ := cutL_eq r
    rw [Lib.indexByte, cutL]
    by_cases hc : c = 10
    · subst hc; simp
    · have hb : (c == 10) = false := by simpa using hc
      have hm : ((10 : UInt8) ∈ c :: r) ↔ (10 : UInt8) ∈ r := by
        rw [List.mem_cons]
        exact ⟨fun h => h.elim (fun e => absurd e.symm hc) id, .inr⟩
      rw [hb, if_neg hc]
      by_cases hr : (10 : UInt8) ∈ r
      · rw [if_pos hr] at h1 h2
        rw [if_pos (hm.2 hr), if_pos (hm.2 hr), h1]
        refine ⟨?_, ?_⟩
        · have : ¬ (((cutL r).1.length : Int) == -1) = true := by simp
          simp only [Bool.false_eq_true, if_false]
          rw [if_neg this]; simp
        · rw [List.cons_append, ← h2]
      · rw [if_neg hr] at h1 h2
        rw [if_neg (fun h => hr (hm.1 h)), if_neg (fun h => hr (hm.1 h)), h1, h2]
        simp
theorem linesL_len : ∀ (m : Nat) (s : List UInt8), s.length ≤ m → (linesL s).length ≤ s.length
  | 0, s, h => by
    have : s = [] := List.length_eq_zero_iff.1 (by omega)
    rw [this, linesL_nil]; simp
  | m + 1, s, h => by
    by_cases hs : s = []
    · rw [hs, linesL_nil]; simp
    · have h1 := cutL_len s hs
      have := linesL_len m (cutL s).2 (by omega)
      rw [linesL_cons hs, List.length_cons]; omega
theorem ext_bs {s : List UInt8} {a b : Nat} : (bs s).extract a b = bs ((s.drop a).take (b - a)) := by
  apply ByteArray.ext
  simp [bs, ByteArray.extract, ByteArray.copySlice]

theorem cutL_app : ∀ {a b : List UInt8}, (10 : UInt8) ∉ a → cutL (a ++ 10 :: b) = (a, b)
  | [], b, _ => by simp [cutL]
  | c :: a, b, h => by
    rw [List.mem_cons, not_or] at h
    rw [List.cons_append, cutL, if_neg (fun e => h.1 e.symm), cutL_app h.2]
theorem cutL_none : ∀ {a : List UInt8}, (10 : UInt8) ∉ a → cutL a = (a, [])
  | [], _ => rfl
  | c :: a, h => by
    rw [List.mem_cons, not_or] at h
    rw [cutL, if_neg (fun e => h.1 e.symm), cutL_none h.2]
theorem slS_b {β : Type} {h : Heap} {Q : β → Heap → Prop} {s : List UInt8} {a b : Nat} {lo hi : Int} {f : ByteArray → M β} (hl : lo = (a : Int)) (hh : hi = (b : Int)) (h1 : a ≤ b) (h2 : b ≤ s.length) (H : (f (bs ((s.drop a).take (b - a)))).wp h Q) : (slS (bs s) lo hi >>= f).wp h Q := by
  subst hl; subst hh
  exact ⟨bs ((s.drop a).take (b - a)), ⟨by omega, by omega, by rw [bs_size]; omega, by rw [show ((a : Int)).toNat = a from rfl, show ((b : Int)).toNat = b from rfl, ext_bs]⟩, H⟩
/-- a string put behind one's own -/
theorem apStr_b {β : Type} {h0 h : Heap} {Q : β → Heap → Prop} {r : Sl} {ps : List (List UInt8)} {p : List UInt8} {f : Sl → M β} (G : Gw h0.size h r 1 (ps.map sv)) (e : Ext h0 h) (hm : ps.length ≤ 1099511627776)
    (H : ∀ h' r', Gw h0.size h' r' 1 ((ps ++ [p]).map sv) → Ext h0 h' → (f r').wp h' Q) : (bdL ty_string 1 #[.string (bs p)] >>= fun x => apL ty_string 1 16 (#[.string ByteArray.empty] : Array Value) r x >>= f).wp h Q := by
  refine bdL_b ?_
  have e6 := Ext.push h (.cells #[.string (bs p)] ty_string)
  have g6 : (h.push (.cells #[.string (bs p)] ty_string))[h.size]? = some (.cells #[.string (bs p)] ty_string (0, 0)) := get_push_eq
  generalize h.push (.cells #[.string (bs p)] ty_string) = h6 at e6 g6 ⊢
  have E6 := e.trans e6
  have G6 := G.ext e6
  have hrl := G6.len
  rw [List.length_map, Nat.mul_one] at hrl
  refine ap_grow (vs := ps.map sv) (news := [sv p]) rfl G6 rfl (.inr ⟨_, rfl, fun j v hj => ?_⟩) (fun v hv => by simp at hv; subst hv; rfl) (by dsimp only; omega) (by dsimp only; omega) E6.size (fun h7 r7 G7 hlen7 hs7 same7 on7 => ?_)
  · rw [add_mk, Nat.zero_add, hcell_blk g6]
    rw [show (#[.string (bs p)] : Array Value) = [sv p].toArray from rfl]
    simpa using hj
  · refine H h7 r7 (by rw [List.map_append]; exact G7) ⟨Nat.le_trans E6.size hs7, fun j hj => (same7 j (Nat.lt_of_lt_of_le hj E6.size) (fun ho => by have := (G6.lt ho).2; omega)).trans (E6.same j hj)⟩
theorem rlines_spec {s : List UInt8} {h : Heap} {Q : Sl → Heap → Prop} (hs : s.length ≤ 1048576) (H : ∀ h' r, Ext h h' → Gw h.size h' r 1 ((linesL s).map sv) → Q r h') : (rambleref23_Lines (bs s)).wp h Q := by
  unfold rambleref23_Lines
  refine M.loop_inv (fun (t : Sl × Int × Int) hh => ∃ (a i : Nat) (ps : List (List UInt8)), t.2 = ((a : Int), (i : Int)) ∧ a ≤ i ∧ i ≤ s.length ∧ Ext h hh ∧ Gw h.size hh t.1 1 (ps.map sv) ∧ ps ++ linesL (s.drop a) = linesL s ∧ (10 : UInt8) ∉ (s.drop a).take (i - a) ∧ ps.length ≤ i) (fun t _ => ((s.length : Int) - t.2.2).toNat) ?_ ⟨0, 0, [], rfl, Nat.le_refl _, Nat.zero_le _, Ext.refl _, Gw.nil _ _ _, by simp, by simp, Nat.le_refl _⟩
  rintro ⟨r, t⟩ hh ⟨a, i, ps, ht, hai, hi, E, G, hps, hno, hpl⟩ self hself
  have ht : t = ((a : Int), (i : Int)) := ht
  subst ht
  have G : Gw h.size hh r 1 (ps.map sv) := G
  unfold rambleref23_Lines_l1
  dsimp only
  rw [bs_size]
  refine ite_w (fun hlt => ?_) (fun hend => ?_)
  · have hlt : i < s.length := by have := of_decide_eq_true hlt; omega
    refine ixS_b rfl hlt ?_
    have c10 : ((s[i].toNat : Int) == 10) = decide (s[i] = 10) := by
      rw [Bool.eq_iff_iff]; simp only [beq_iff_eq, decide_eq_true_eq]
      exact ⟨fun e => UInt8.toNat_inj.1 (by simpa using (by omega : s[i].toNat = 10)), fun e => by rw [e]; rfl⟩
    rw [c10]
    have hw : IntKind.wrap .i64 ((i : Int) + 1) = ((i + 1 : Nat) : Int) := by rw [w64 (by omega) (by omega)]; simp
    have hsp : s.drop a = (s.drop a).take (i - a) ++ s[i] :: s.drop (i + 1) := by
      conv => lhs; rw [← List.take_append_drop (i - a) (s.drop a), List.drop_drop, show a + (i - a) = i by omega, List.drop_eq_getElem_cons hlt]
    refine ite_w (fun h10 => ?_) (fun h10 => ?_)
    · have h10 : s[i] = 10 := of_decide_eq_true h10
      rw [h10] at hsp
      refine slS_b rfl rfl hai hi (apStr_b G E (by omega) (fun h2 r2 G2 E2 => ?_))
      unfold rambleref23_Lines_j1
      rw [hw]
      refine hself (_, _, _) _ ⟨i + 1, i + 1, ps ++ [(s.drop a).take (i - a)], rfl, Nat.le_refl _, by omega, E2, G2, ?_, by simp, by simp; omega⟩ (by dsimp only; omega)
      rw [← hps]
      have hne : s.drop a ≠ [] := by rw [hsp]; simp
      have hcut : cutL (s.drop a) = ((s.drop a).take (i - a), s.drop (i + 1)) := (congrArg cutL hsp).trans (cutL_app hno)
      rw [linesL_cons hne, hcut]
      simp
    · have h10 : ¬ s[i] = 10 := of_decide_eq_false h10
      unfold rambleref23_Lines_j1
      rw [hw]
      refine hself (_, _, _) _ ⟨a, i + 1, ps, rfl, by omega, by omega, E, G, hps, ?_, by omega⟩ (by dsimp only; omega)
      have : (s.drop a).take (i + 1 - a) = (s.drop a).take (i - a) ++ [s[i]] := by
        rw [show i + 1 - a = (i - a) + 1 by omega, List.take_succ_eq_append_getElem (by rw [List.length_drop]; omega)]
        congr 2
        rw [List.getElem_drop]; congr 1; omega
      rw [this, List.mem_append, List.mem_singleton, not_or]
      exact ⟨hno, fun e => h10 e.symm⟩
  · have hge : i = s.length := by have := of_decide_eq_false hend; omega
    subst hge
    rw [List.take_of_length_le (by rw [List.length_drop]; omega)] at hno
    refine ite_w (fun hal => ?_) (fun hal => ?_)
    · have hal : a < s.length := by have := of_decide_eq_true hal; omega
      refine slS_b rfl rfl (by omega) (Nat.le_refl _) (apStr_b G E (by omega) (fun h2 r2 G2 E2 => ?_))
      unfold rambleref23_Lines_j2
      refine pure_w (H _ _ E2 ?_)
      have hne : s.drop a ≠ [] := by intro e; have := congrArg List.length e; rw [List.length_drop] at this; simp at this; omega
      rw [← hps, linesL_cons hne, cutL_none hno, linesL_nil]
      rw [List.take_of_length_le (by rw [List.length_drop]; omega)] at G2
      exact G2
    · have hal : a = s.length := by have := of_decide_eq_false hal; omega
      subst hal
      unfold rambleref23_Lines_j2
      rw [List.drop_length, linesL_nil, List.append_nil] at hps
      rw [hps] at G
      exact pure_w (H _ _ E G)
end Gx
namespace Gx
open Go
set_option linter.unusedVariables false
set_option linter.unusedSimpArgs false
/-! ### strings.Cut at the end of a line -/
theorem scut_spec {s : List UInt8} {h : Heap} {Q : ByteArray × ByteArray × Bool → Heap → Prop} (hs : s.length ≤ 1099511627776) (H : ∀ b, Q (bs (cutL s).1, bs (cutL s).2, b) h) : (strings_Cut (bs s) (⟨#[10]⟩ : ByteArray)).wp h Q := by
  unfold strings_Cut internal_stringslite_Cut
  obtain ⟨h1, h2⟩ := cutL_eq s
  have key : ∀ {Q : ByteArray × ByteArray × Bool → Heap → Prop}, (∀ b, Q (bs (cutL s).1, bs (cutL s).2, b) h) → (internal_stringslite_Cut (bs s) (⟨#[10]⟩ : ByteArray)).wp h Q := fun {Q} H => by
    unfold internal_stringslite_Cut
    refine bind_w ⟨10, rfl, ?_⟩
    rw [show (bs s).data.toList = s by simp [bs], h1]
    by_cases hm : (10 : UInt8) ∈ s
    · rw [if_pos hm] at h2 ⊢
      have hl : s.length = (cutL s).1.length + (1 + (cutL s).2.length) := by
        have := congrArg List.length h2
        rw [List.length_append, List.length_cons] at this
        omega
      refine iteT (decide_eq_true (by omega)) ?_
      have hw : IntKind.wrap .i64 (((cutL s).1.length : Int) + ((⟨#[10]⟩ : ByteArray).size : Int)) = (((cutL s).1.length + 1 : Nat) : Int) := by
        rw [show ((⟨#[10]⟩ : ByteArray).size : Int) = 1 from rfl, w64 (by omega) (by omega)]; simp
      rw [hw]
      refine slS_b (a := 0) (b := (cutL s).1.length) rfl rfl (Nat.zero_le _) (by omega) (slS_b (a := (cutL s).1.length + 1) (b := s.length) rfl (by rw [bs_size]) (by omega) (Nat.le_refl _) (pure_w ?_))
      have e1 : (s.drop 0).take ((cutL s).1.length - 0) = (cutL s).1 := by
        rw [List.drop_zero, Nat.sub_zero]
        exact (show ∀ p : List UInt8 × List UInt8, s = p.1 ++ 10 :: p.2 → s.take p.1.length = p.1 by rintro p rfl; simp) _ h2
      have e2 : (s.drop ((cutL s).1.length + 1)).take (s.length - ((cutL s).1.length + 1)) = (cutL s).2 := by
        rw [List.take_of_length_le (by rw [List.length_drop]; omega)]
        exact (show ∀ p : List UInt8 × List UInt8, s = p.1 ++ 10 :: p.2 → s.drop (p.1.length + 1) = p.2 by rintro p rfl; rw [List.drop_append, List.drop_eq_nil_iff.2 (by omega)]; simp) _ h2
      rw [e1, e2]
      exact H _
    · rw [if_neg hm] at h2 ⊢
      refine iteF (by decide) (pure_w ?_)
      have := H false
      rw [h2] at this
      exact this
  exact bind_w (key (fun b => pure_w (H b)))
/-- what an iterator does that keeps a cell of its own -/
def SeqC (P : Program) {α : Type} (enc : α → List Value) (xs : List α) (g : Value) (b : Nat) (o : Obj) : Prop :=
  ∀ (l : Nat) (Inv : Nat → Heap → Prop) (Stop : Heap → Prop) (h : Heap), (∀ i h1 h2, Inv i h1 → Upd b h1 h2 → Inv i h2) → h[b]? = some o → Inv 0 h →
    (∀ i (hi : i < xs.length) h1, Inv i h1 → (callV P (fun b : Bool => .bool b) (yV l) (enc xs[i])).wp h1 (fun r h2 => h2[b]? = h1[b]? ∧ (if r = true then Inv (i + 1) h2 else Stop h2))) →
    (callV P (fun _ : Unit => .tuple #[]) g [yV l]).wp h (fun _ h1 => Inv xs.length h1 ∨ Stop h1)
/-- 'for x := range g { .. }' over such -/
theorem rgC_w {P : Program} {α : Type} {enc : α → List Value} {js : List Code} {Y : Nat → α → M Nat} {Yb : α → M Nat} (hY : ∀ l x, Y l x = (beg l >>= fun _ => Yb x)) {c : Code} (hjs : js = [c]) {g : Value} (hg : ∀ l, g ≠ .func (.yield l) #[] #[]) {h : Heap} {Q : Nat × Nat → Heap → Prop} {xs : List α} {b : Nat} {o0 : Obj}
    (J : Nat → Heap → Prop) (E : Heap → Prop) (hJ : ∀ i h1 h2, J i h1 → Upd (h.size + 1) h1 h2 → J i h2) (hE : ∀ h1 h2, E h1 → Upd (h.size + 1) h1 h2 → E h2) (hJb : ∀ i h1 h2, J i h1 → Upd b h1 h2 → J i h2)
    (hb : h[b]? = some o0) (hseq : SeqC P enc xs g b o0) (h0 : ∀ r : Loop, J 0 ((h.push (.deferred (some []))).push (recAt r .ready none)))
    (hbody : ∀ i (hi : i < xs.length) h1 o, J i h1 → h1[h.size + 1]? = some o → (Yb xs[i]).wp h1 (fun j h2 => h2[h.size + 1]? = some o ∧ h2[b]? = h1[b]? ∧ (j = 0 ∧ J (i + 1) h2 ∨ j = 1 ∧ E h2)))
    (hq0 : ∀ h1, J xs.length h1 → Q (0, h.size) h1) (hq1 : ∀ h1, E h1 → Q (1, h.size) h1) : (rgF P enc js Y g).wp h Q := by
  refine ⟨hg, fun r hr => ?_⟩
  have hbl := blk_lt hb
  have hrec : ((h.push (.deferred (some []))).push (recAt r .ready none))[h.size + 1]? = some (recAt r .ready none) := by
    have : h.size + 1 = (h.push (.deferred (some []))).size := by simp
    rw [this]; exact get_push_eq
  refine (callV P _ _ _).mono ?_ (hseq (h.size + 1) (fun i h1 => J i h1 ∧ h1[h.size + 1]? = some (recAt r .ready none)) (fun h1 => E h1 ∧ h1[h.size + 1]? = some (recAt r .done (some c))) _ (fun i h1 h2 hh u => ⟨hJb i h1 h2 hh.1 u, (u.ne _ (by omega)).trans hh.2⟩)
    (by rw [get_push_lt (by simp; omega), get_push_lt hbl]; exact hb) ⟨h0 r, hrec⟩ (fun i hi h1 hh => ?_))
  · rintro _ h1 (⟨h2, h3⟩ | ⟨h2, h3⟩)
    · exact ⟨.ready, 0, by decide, h3, hq0 _ (hJ _ _ _ h2 (Upd.set_ _ _ _))⟩
    · subst hjs
      exact ⟨.done, 1, by decide, h3, hq1 _ (hE _ _ h2 (Upd.set_ _ _ _))⟩
  · refine (callV P _ _ _).mono ?_ (rounds_w (hY _) hr hjs (J := fun h2 => J i h2 ∧ h2[b]? = h1[b]?) (J' := fun h2 => J (i + 1) h2 ∧ h2[b]? = h1[b]?) (E := fun h2 => E h2 ∧ h2[b]? = h1[b]?) (fun h2 h3 hj u => ⟨hJ _ _ _ hj.1 u, (u.ne _ (by omega)).trans hj.2⟩) (fun h2 h3 hj u => ⟨hJ _ _ _ hj.1 u, (u.ne _ (by omega)).trans hj.2⟩) (fun h2 h3 hj u => ⟨hE _ _ hj.1 u, (u.ne _ (by omega)).trans hj.2⟩) (fun h2 o hj ho => ?_) ⟨hh.1, rfl⟩ hh.2)
    · rintro r' h2 hr'
      split at hr'
      · rename_i hT; subst hT; exact ⟨hr'.1.2, by rw [if_pos rfl]; exact ⟨hr'.1.1, hr'.2⟩⟩
      · rename_i hF; exact ⟨hr'.1.2, by rw [if_neg hF]; exact ⟨hr'.1.1, hr'.2⟩⟩
    · refine (Yb xs[i]).mono ?_ (hbody i hi h2 o hj.1 ho)
      rintro j h3 ⟨h4, h5, h6⟩
      refine ⟨h4, h6.imp (fun h6 => ⟨h6.1, h6.2, h5.trans hj.2⟩) (fun h6 => ⟨h6.1, h6.2, h5.trans hj.2⟩)⟩
/-- the lines, as they are told -/
def lnP (n : Nat) (ls : List (List UInt8)) : List (Int × ByteArray) := (ls.zipIdx n).map fun p => ((p.2 : Int), bs p.1)
theorem lnP_len (n : Nat) (ls : List (List UInt8)) : (lnP n ls).length = ls.length := by simp [lnP]
theorem lnP_get {n : Nat} {ls : List (List UInt8)} {i : Nat} (hi : i < (lnP n ls).length) : (lnP n ls)[i] = (((n + i : Nat) : Int), bs (ls[i]'(by rw [lnP_len] at hi; exact hi))) := by simp [lnP]
theorem one_set {h : Heap} {b : Nat} {v u : Value} {t : TypeId} (hb : h[b]? = some (.cells #[v] t (0, 0))) : (hset h ⟨b, 0, none⟩ u)[b]? = some (.cells #[u] t (0, 0)) := by
  rw [hset_at hb]; rfl
/-- the rest of the lines behind i of them -/
def behind (s : List UInt8) : Nat → List UInt8
  | 0 => s
  | i + 1 => (cutL (behind s i)).2
theorem behind_len (s : List UInt8) : ∀ i, (behind s i).length ≤ s.length
  | 0 => Nat.le_refl _
  | i + 1 => by
    have := behind_len s i
    unfold behind
    by_cases h : behind s i = []
    · rw [h]; simp [cutL]
    · have := cutL_len _ h; omega
theorem behind_lines (s : List UInt8) : ∀ i, linesL (behind s i) = (linesL s).drop i
  | 0 => rfl
  | i + 1 => by
    have ih := behind_lines s i
    unfold behind
    by_cases h : behind s i = []
    · rw [h, linesL_nil] at ih
      rw [h]
      show linesL (cutL []).2 = _
      rw [show (cutL []).2 = [] from rfl, linesL_nil, ← List.drop_drop, ← ih]; rfl
    · rw [linesL_cons h] at ih
      rw [← List.drop_drop, ← ih]; rfl
theorem rlines_seq {s : List UInt8} {b : Nat} {t : TypeId} (hs : s.length ≤ 1099511627776) : SeqC Go.Proofs.Tryd.prog (fun x : Int × ByteArray => [.int .i64 x.1, .string x.2]) (lnP 1 (linesL s)) (.func (.func fn_result_Lines_1) #[] #[.pointer (some ⟨b, 0, none⟩)]) b (.cells #[.string (bs s)] t (0, 0)) := by
  intro l Inv Stop h hU hb h0 hround
  refine callV_f cl_result_Lines_1 (S_result_Lines_1 (yV l) ⟨b, 0, none⟩) ?_
  unfold result_Lines_1
  have hll := linesL_len _ s (Nat.le_refl _)
  rw [lnP_len]
  refine M.loop_inv (fun (n : Int) h' => ∃ i : Nat, n = ((1 + i : Nat) : Int) ∧ i ≤ (linesL s).length ∧ Inv i h' ∧ h'[b]? = some (.cells #[.string (bs (behind s i))] t (0, 0))) (fun n _ => ((linesL s).length + 2 - n.toNat)) ?_ ⟨0, rfl, Nat.zero_le _, h0, hb⟩
  rintro n h' ⟨i, rfl, hi, hI, hc⟩ self hself
  unfold result_Lines_1_l1
  have hbl := behind_lines s i
  have hbn := behind_len s i
  refine ldS_b (one_cell hc) ?_
  have he : sEq (bs (behind s i)) ByteArray.empty = decide (behind s i = []) := by
    show sEq (bs (behind s i)) (bs []) = _
    rw [sEq_bs]
  rw [he]
  refine ite_w (fun hne => ?_) (fun hz => ?_)
  · have hne : behind s i ≠ [] := by simpa using hne
    rw [linesL_cons hne] at hbl
    have hlt : i < (linesL s).length := by
      rcases Nat.lt_or_ge i (linesL s).length with h | h
      · exact h
      · rw [List.drop_eq_nil_iff.2 h] at hbl; cases hbl
    rw [List.drop_eq_getElem_cons hlt] at hbl
    have hli : (linesL s)[i] = (cutL (behind s i)).1 := (List.cons.inj hbl).1.symm
    refine ldS_b (one_cell hc) (bind_w (scut_spec (by omega) (fun bb => ?_)))
    have hr := hround i (by rw [lnP_len]; exact hlt) h' hI
    rw [lnP_get (by rw [lnP_len]; exact hlt), hli] at hr
    refine bind_w ((callV _ _ _ _).mono ?_ hr)
    rintro r h2 ⟨hkb, hr2⟩
    cases r with
    | true =>
      rw [if_pos rfl] at hr2
      have hc2 := hkb.trans hc
      refine iteF rfl (stV_b (one_cell hc2) (hfrozen_blk hc2) rfl ?_)
      rw [w64 (by omega) (by omega)]
      refine hself _ _ ⟨i + 1, by omega, by omega, hU _ _ _ hr2 (Upd.hset _ _ _ _), one_set hc2⟩ (by omega)
    | false =>
      rw [if_neg (by simp)] at hr2
      exact iteT rfl (pure_w (.inr hr2))
  · have hz : behind s i = [] := by simpa using hz
    rw [hz, linesL_nil] at hbl
    have : (linesL s).length ≤ i := List.drop_eq_nil_iff.1 hbl.symm
    rw [show (linesL s).length = i by omega]
    exact pure_w (.inl hI)
end Gx
namespace Gx
open Go
set_option linter.unusedVariables false
set_option linter.unusedSimpArgs false
/-! ### Lines with their numbers -/
def lnV : Nat → List (List UInt8) → List Value
  | _, [] => []
  | n, s :: r => .int .i64 (n : Int) :: .string (bs s) :: lnV (n + 1) r
theorem lnV_len : ∀ (n : Nat) (ls : List (List UInt8)), (lnV n ls).length = ls.length * 2
  | _, [] => rfl
  | n, s :: r => by rw [lnV, List.length_cons, List.length_cons, lnV_len, List.length_cons]; omega
theorem lnV_app : ∀ (n : Nat) (a b : List (List UInt8)), lnV n (a ++ b) = lnV n a ++ lnV (n + a.length) b
  | _, [], _ => rfl
  | n, s :: r, b => by
    rw [List.cons_append, lnV, lnV, lnV_app, List.cons_append, List.cons_append, List.length_cons, show n + 1 + r.length = n + (r.length + 1) by omega]
theorem lnV_get : ∀ (n : Nat) (ls : List (List UInt8)) (i : Nat) (hi : i < ls.length), (lnV n ls)[i * 2]? = some (.int .i64 ((n + i : Nat) : Int)) ∧ (lnV n ls)[i * 2 + 1]? = some (.string (bs ls[i]))
  | _, [], _, h => absurd h (Nat.not_lt_zero _)
  | n, s :: r, 0, _ => ⟨rfl, rfl⟩
  | n, s :: r, i + 1, h => by
    obtain ⟨h1, h2⟩ := lnV_get (n + 1) r i (by simpa using h)
    rw [lnV, show (i + 1) * 2 = i * 2 + 1 + 1 by omega, List.getElem?_cons_succ, List.getElem?_cons_succ, List.getElem?_cons_succ, List.getElem?_cons_succ, h1, h2]
    exact ⟨by rw [show n + 1 + i = n + (i + 1) by omega], rfl⟩
/-- one line more, put behind one's own -/
theorem apLine_b {β : Type} {lo : Nat} {h : Heap} {Q : β → Heap → Prop} {r : Sl} {ps : List (List UInt8)} {p : List UInt8} {n : Int} {f : Sl → M β} (G : Gw lo h r 2 (lnV 1 ps)) (hlo : lo ≤ h.size) (hm : ps.length ≤ 1099511627776) (hn : n = ((1 + ps.length : Nat) : Int))
    (H : ∀ h' r', Gw lo h' r' 2 (lnV 1 (ps ++ [p])) → h.size ≤ h'.size → (∀ i, i < h.size → ¬ Sl.on r i → h'[i]? = h[i]?) → (f r').wp h' Q) : (fillL 2 1 (#[.int .i64 0, .string ByteArray.empty] : Array Value) [(0, .agg (#[.int .i64 n, .string (bs p)] : Array Value))] >>= fun y => bdL ty_ramblelaw23_line 1 y >>= fun x => apL ty_ramblelaw23_line 2 24 (#[.int .i64 0, .string ByteArray.empty] : Array Value) r x >>= f).wp h Q := by
  subst hn
  refine fillL1_b rfl (bdL_b ?_)
  have e6 := Ext.push h (.cells (#[.int .i64 ((1 + ps.length : Nat) : Int), .string (bs p)] : Array Value) ty_ramblelaw23_line)
  have g6 : (h.push (.cells (#[.int .i64 ((1 + ps.length : Nat) : Int), .string (bs p)] : Array Value) ty_ramblelaw23_line))[h.size]? = some (.cells #[.int .i64 ((1 + ps.length : Nat) : Int), .string (bs p)] ty_ramblelaw23_line (0, 0)) := get_push_eq
  generalize h.push (.cells (#[.int .i64 ((1 + ps.length : Nat) : Int), .string (bs p)] : Array Value) ty_ramblelaw23_line) = h6 at e6 g6 ⊢
  have G6 := G.ext e6
  have hrl := G6.len
  rw [lnV_len] at hrl
  have hs6 := e6.size
  refine ap_grow (vs := lnV 1 ps) (news := lnV (1 + ps.length) [p]) rfl G6 rfl (.inr ⟨_, rfl, fun j v hj => ?_⟩) (fun v hv => by simp [lnV] at hv; rcases hv with rfl | rfl <;> rfl) (by dsimp only; omega) (by dsimp only; omega) (by omega) (fun h7 r7 G7 hlen7 hs7 same7 on7 => ?_)
  · rw [add_mk, Nat.zero_add, hcell_blk g6]
    simpa [lnV] using hj
  · refine H h7 r7 (by rw [lnV_app]; exact G7) (by omega) (fun i hi ho => (same7 i (by omega) ho).trans (e6.same i hi))
/-- a slice of such lines -/
def LnR (h : Heap) (x : Sl) (ls : List (List UInt8)) : Prop := x.len = ls.length ∧ Reads h x.base (lnV 1 ls)
theorem LnR.ext {h h' : Heap} {x : Sl} {ls : List (List UInt8)} (H : LnR h x ls) (e : Ext h h') : LnR h' x ls := ⟨H.1, e.reads H.2⟩
theorem Gw.lnR {lo : Nat} {h : Heap} {r : Sl} {ls : List (List UInt8)} (G : Gw lo h r 2 (lnV 1 ls)) : LnR h r ls := ⟨by have := G.len; rw [lnV_len] at this; omega, G.reads⟩
theorem LnR.at {h : Heap} {x : Sl} {ls : List (List UInt8)} (H : LnR h x ls) {i : Nat} (hi : i < ls.length) : ∃ a, x.base = some a ∧ ∀ j, j < 2 → hcell h ((a.add (i * 2)).add j) = (#[.int .i64 ((1 + i : Nat) : Int), .string (bs ls[i])] : Array Value)[j]? := by
  obtain ⟨h1, h2⟩ := lnV_get 1 ls i hi
  rcases H.2 with h0 | ⟨a, ha, hr⟩
  · have := congrArg List.length h0
    rw [lnV_len] at this; simp at this; omega
  · refine ⟨a, ha, fun j hj => ?_⟩
    rw [Addr.add_add]
    match j, hj with
    | 0, _ => exact hr _ _ h1
    | 1, _ => exact hr _ _ h2
theorem leq_spec {h : Heap} {x y : Sl} {ls : List (List UInt8)} {Q : Bool → Heap → Prop} (hx : LnR h x ls) (hy : LnR h y ls) (hm : ls.length ≤ 1099511627776) (H : Q true h) : (slices_Equal_slramblelaw23_line_ramblelaw23_line x y).wp h Q := by
  unfold slices_Equal_slramblelaw23_line_ramblelaw23_line
  refine iteF (by rw [hx.1, hy.1]; simp) ?_
  rw [hx.1]
  refine M.loop_inv (fun (t : Int) hh => ∃ i : Nat, t = (i : Int) ∧ i ≤ ls.length ∧ hh = h) (fun t _ => ls.length + 1 - t.toNat) ?_ ⟨0, rfl, Nat.zero_le _, rfl⟩
  rintro t hh ⟨i, rfl, hi, rfl⟩ self hself
  unfold slices_Equal_slramblelaw23_line_ramblelaw23_line_l1
  refine ite_w (fun hlt => ?_) (fun hge => pure_w H)
  have hlt : i < ls.length := by have := of_decide_eq_true hlt; omega
  obtain ⟨a, ha, hca⟩ := hx.at hlt
  obtain ⟨b, hb, hcb⟩ := hy.at hlt
  refine ixL_b (by omega) (by rw [hx.1]; omega) ha (ixL_b (by omega) (by rw [hy.1]; omega) hb ?_)
  refine ldG_b rfl hca (ldG_b rfl hcb ?_)
  refine ⟨true, ⟨⟨⟨_, rfl, rfl⟩, ⟨_, rfl, rfl⟩, trivial⟩, ⟨⟨_, rfl, rfl⟩, ⟨_, rfl, rfl⟩, trivial⟩, by simp [cEq, vEq]⟩, iteF rfl ?_⟩
  rw [w64 (by omega) (by omega)]
  exact hself _ _ ⟨i + 1, by omega, by omega, rfl⟩ (by omega)
end Gx
namespace Gx
open Go
set_option linter.unusedVariables false
set_option linter.unusedSimpArgs false
/-- what stands while the lines are told -/
structure ToJ (hA : Heap) (b n3 n5 : Nat) (t3 t5 : TypeId) (most : Nat) (ps : List (List UInt8)) (h : Heap) : Prop where
  size : hA.size + 2 ≤ h.size
  same : ∀ i, i < hA.size → i ≠ b → i ≠ n5 → h[i]? = hA[i]?
  c3 : h[n3]? = some (.cells #[.int .i64 (most : Int)] t3 (0, 0))
  c5 : ∃ r, h[n5]? = some (.cells #[r.v] t5 (0, 0)) ∧ Gw (hA.size + 2) h r 2 (lnV 1 ps)
  df : h[hA.size]? = some (.deferred (some []))
theorem ToJ.upd {hA : Heap} {b n3 n5 : Nat} {t3 t5 : TypeId} {most : Nat} {ps : List (List UInt8)} {h h' : Heap} {k : Nat} (J : ToJ hA b n3 n5 t3 t5 most ps h) (u : Upd k h h') (hk : k = b ∨ k = hA.size + 1) (h3 : n3 < hA.size) (h5 : n5 < hA.size) (hb3 : b < n3) (hb5 : b < n5) : ToJ hA b n3 n5 t3 t5 most ps h' := by
  obtain ⟨r, c5, G⟩ := J.c5
  refine ⟨by rw [u.size]; exact J.size, fun i hi hb h5 => (u.ne i (by omega)).trans (J.same i hi hb h5), (u.ne _ (by omega)).trans J.c3, ⟨r, (u.ne _ (by omega)).trans c5, G.same (fun i hi => u.ne i (by have := (G.lt hi).2; omega))⟩, (u.ne _ (by omega)).trans J.df⟩
def toldYb (c3 c5 : Addr) : (Int × ByteArray) → M Nat := fun x => match x with
  | (x11, x12) => do
    let x13 ← ldL c5
    let x15 ← ldI .i64 c3
    M.ite (decide ((x13.len : Int) ≥ x15)) (do
      M.pure 1
      ) (do
      let x17 ← ldL c5
      let y ← fillL 2 1 (#[.int .i64 0, .string ByteArray.empty] : Array Value) [(0, .agg (#[.int .i64 x11, .string x12] : Array Value))]
      let x21 ← bdL ty_ramblelaw23_line 1 y
      let x22 ← apL ty_ramblelaw23_line 2 24 (#[.int .i64 0, .string ByteArray.empty] : Array Value) x17 x21
      stV c5 ((x22 : Sl).v)
      M.pure 0
      )
theorem told_spec {s : List UInt8} {b : Nat} {t : TypeId} {most : Nat} {h : Heap} {Q : Sl → Heap → Prop} (hs : s.length ≤ 1048576) (hb : h[b]? = some (.cells #[.string (bs s)] t (0, 0)))
    (H : ∀ h' r, h.size ≤ h'.size → (∀ i, i < h.size → i ≠ b → h'[i]? = h[i]?) → Gw h.size h' r 2 (lnV 1 ((linesL s).take most)) → Q r h') : (ramblelaw23_told (.func (.func fn_result_Lines_1) #[] #[.pointer (some ⟨b, 0, none⟩)]) (most : Int)).wp h Q := by
  unfold ramblelaw23_told
  have sb := blk_lt hb
  have hll := linesL_len _ s (Nat.le_refl _)
  refine mkB_b ?_
  have e1 := Ext.push h (.cells #[.int .i64 (most : Int)] ty_int)
  have g1 : (h.push (.cells #[.int .i64 (most : Int)] ty_int))[h.size]? = some (.cells #[.int .i64 (most : Int)] ty_int (0, 0)) := get_push_eq
  have z1 : (h.push (.cells #[.int .i64 (most : Int)] ty_int)).size = h.size + 1 := by simp
  generalize h.push (.cells #[.int .i64 (most : Int)] ty_int) = h1 at e1 g1 z1 ⊢
  refine ⟨false, .inr ⟨⟨_, _, _, rfl⟩, rfl⟩, iteF rfl (mkB_b ?_)⟩
  have e2 := Ext.push h1 (.cells (#[.slice none 0 0] : Array Value) ty_sl_ramblelaw23_line)
  have g2 : (h1.push (.cells (#[.slice none 0 0] : Array Value) ty_sl_ramblelaw23_line))[h1.size]? = some (.cells (#[.slice none 0 0] : Array Value) ty_sl_ramblelaw23_line (0, 0)) := get_push_eq
  have z2 : (h1.push (.cells (#[.slice none 0 0] : Array Value) ty_sl_ramblelaw23_line)).size = h1.size + 1 := by simp
  generalize h1.push (.cells (#[.slice none 0 0] : Array Value) ty_sl_ramblelaw23_line) = hA at e2 g2 z2 ⊢
  have E := e1.trans e2
  have g1' := e2.blk g1
  -- what is told, and how it ends
  have fin : ∀ {h4 : Heap}, ToJ hA b h.size h1.size ty_int ty_sl_ramblelaw23_line most ((linesL s).take most) h4 → (ramblelaw23_told_j1 ⟨h1.size, 0, none⟩ [hA.size]).wp h4 Q := fun {h4} J => by
    obtain ⟨r, c5, G⟩ := J.c5
    have u := Upd.set_ h4 hA.size (.deferred none)
    have hz := J.size
    refine ldL_b (one_cell c5) ⟨J.df, ?_⟩
    show Q _ _
    refine H _ r (by rw [u.size]; omega) (fun i hi hib => ?_) ((G.same (fun i hi => u.ne i (by have := (G.lt hi).2; omega))).weak (by omega))
    rw [u.ne i (by omega), J.same i (by omega) hib (by omega), E.same i hi]
  refine bind_w (rgC_w (Yb := toldYb ⟨h.size, 0, none⟩ ⟨h1.size, 0, none⟩) (fun l x => rfl) (c := .exit 0) rfl (fun l hh => by cases hh) (xs := lnP 1 (linesL s)) (b := b)
    (fun i h2 => i ≤ most ∧ ToJ hA b h.size h1.size ty_int ty_sl_ramblelaw23_line most ((linesL s).take i) h2)
    (fun h2 => ToJ hA b h.size h1.size ty_int ty_sl_ramblelaw23_line most ((linesL s).take most) h2) ?_ ?_ ?_ (E.blk hb) (rlines_seq (by omega)) ?_ ?_ ?_ ?_)
  · exact fun i h2 h3 hj u => ⟨hj.1, hj.2.upd u (.inr rfl) (by omega) (by omega) (by omega) (by omega)⟩
  · exact fun h2 h3 hj u => hj.upd u (.inr rfl) (by omega) (by omega) (by omega) (by omega)
  · exact fun i h2 h3 hj u => ⟨hj.1, hj.2.upd u (.inl rfl) (by omega) (by omega) (by omega) (by omega)⟩
  · intro r
    have e3 : Ext hA ((hA.push (.deferred (some []))).push (recAt r .ready none)) := (Ext.push _ _).pushed _
    refine ⟨Nat.zero_le _, by simp, fun i hi _ _ => e3.same i hi, e3.blk g1', ⟨Sl.nil, e3.blk g2, Gw.nil _ _ _⟩, ?_⟩
    rw [get_push_lt (by simp)]; exact get_push_eq
  · rintro i hi h2 o ⟨him, J⟩ ho
    rw [lnP_len] at hi
    rw [lnP_get (by rw [lnP_len]; exact hi)]
    obtain ⟨r, c5, G⟩ := J.c5
    have hrl := G.lnR.1
    rw [List.length_take, Nat.min_eq_left (by omega)] at hrl
    have hz := J.size
    unfold toldYb
    dsimp only
    refine ldL_b (one_cell c5) (ldI_b (one_cell J.c3) (ite_w (fun hc => ?_) (fun hc => ?_)))
    · have hc := of_decide_eq_true hc
      obtain rfl : i = most := by omega
      exact pure_w ⟨ho, rfl, .inr ⟨rfl, J⟩⟩
    · have hc := of_decide_eq_false hc
      refine ldL_b (one_cell c5) (apLine_b G (by omega) (by rw [List.length_take]; omega) (by rw [List.length_take, Nat.min_eq_left (by omega)]) (fun h3 r3 G3 hs3 same3 => ?_))
      have hG : ∀ {k : Nat}, Sl.on r k → k < h2.size ∧ hA.size + 2 ≤ k := fun ho => G.lt ho
      have n5 : ¬ Sl.on r h1.size := fun ho => by have := (hG ho).2; omega
      have c5' : h3[h1.size]? = some (.cells #[r.v] ty_sl_ramblelaw23_line (0, 0)) := (same3 _ (by omega) n5).trans c5
      refine stV_b (one_cell c5') (hfrozen_blk c5') (one_v _) (pure_w ?_)
      have u := Upd.hset h3 h1.size 0 r3.v
      have keep : ∀ k, k < hA.size + 2 → k ≠ h1.size → (hset h3 ⟨h1.size, 0, none⟩ r3.v)[k]? = h2[k]? := fun k hk hk5 => (u.ne k hk5).trans (same3 k (by omega) (fun ho => by have := (hG ho).2; omega))
      refine ⟨(keep _ (by omega) (by omega)).trans ho, keep _ (by omega) (by omega), .inl ⟨rfl, by omega, by rw [u.size]; omega, fun k hk hkb hk5 => (keep k (by omega) hk5).trans (J.same k hk hkb hk5), (keep _ (by omega) (by omega)).trans J.c3, ⟨r3, one_set c5', ?_⟩, (keep _ (by omega) (by omega)).trans J.df⟩⟩
      rw [List.take_succ_eq_append_getElem hi]
      exact G3.same (fun k hk => u.ne k (by have := (G3.lt hk).2; omega))
  · rintro h2 ⟨him, J⟩
    rw [lnP_len] at him J
    have : (linesL s).take (linesL s).length = (linesL s).take most := by rw [List.take_length, List.take_of_length_le him]
    rw [this] at J
    exact iteF rfl (fin J)
  · rintro h2 J
    exact iteT rfl (fin J)
/-- a text's lines told, no more than 'most' -/
theorem tell_b {β : Type} {s : List UInt8} {most : Nat} {h : Heap} {Q : β → Heap → Prop} {f : Sl → M β} (hs : s.length ≤ 1048576)
    (H : ∀ h' r, Ext h h' → LnR h' r ((linesL s).take most) → (f r).wp h' Q) : (result_Lines (bs s) >>= fun g => ramblelaw23_told g (most : Int) >>= f).wp h Q := by
  refine bind_w ?_
  unfold result_Lines
  refine mkB_b (pure_w (bind_w ?_))
  have e1 := Ext.push h (.cells #[.string (bs s)] ty_string)
  have g1 : (h.push (.cells #[.string (bs s)] ty_string))[h.size]? = some (.cells #[.string (bs s)] ty_string (0, 0)) := get_push_eq
  generalize h.push (.cells #[.string (bs s)] ty_string) = h1 at e1 g1 ⊢
  have hz := e1.size
  refine told_spec hs g1 (fun h2 r h3 h4 G => H h2 r ⟨by omega, fun i hi => (h4 i (by omega) (by omega)).trans (e1.same i hi)⟩ G.lnR)
/-- the law: the lines of any text, one by one, and no more than are asked for -/
theorem tells_law {h : Heap} {s : List UInt8} {most : Nat} (hp : PowTab h) (hd : DbTab h) (hs : s.length ≤ 1048576) (hm : most ≤ 1099511627776) {Q : Bool → Heap → Prop} (H : ∀ h', Ext h h' → Q true h') : (ramblelaw23_ResultTells (bs s) (most : Int)).wp h Q := by
  unfold ramblelaw23_ResultTells
  have hll := linesL_len _ s (Nat.le_refl _)
  refine bind_w (rlines_spec hs (fun h1 r e1 G => ?_))
  have hrl : r.len = (linesL s).length := by have := G.len; rw [List.length_map] at this; omega
  refine M.loop_inv (fun (x : Sl × Int) hh => ∃ i : Nat, x.2 = (i : Int) ∧ i ≤ (linesL s).length ∧ Ext h1 hh ∧ Gw h1.size hh x.1 2 (lnV 1 ((linesL s).take i))) (fun x _ => (linesL s).length + 1 - x.2.toNat) ?_ ⟨0, rfl, Nat.zero_le _, Ext.refl _, Gw.nil _ _ _⟩
  rintro ⟨w, i0⟩ hh ⟨i, hi0, hi, E, W⟩ self hself
  have hi0 : i0 = (i : Int) := hi0
  subst hi0
  have W : Gw h1.size hh w 2 (lnV 1 ((linesL s).take i)) := W
  have hwl := W.lnR.1
  rw [List.length_take, Nat.min_eq_left hi] at hwl
  unfold ramblelaw23_ResultTells_l1
  dsimp only
  rw [hrl]
  refine ite_w (fun hlt => ?_) (fun hge => ?_)
  · have hlt : i < (linesL s).length := by have := of_decide_eq_true hlt; omega
    have G1 := G.ext E
    obtain ⟨b, hb, hc⟩ := G1.cell (j := i) (v := sv (linesL s)[i]) (by rw [List.getElem?_map, List.getElem?_eq_getElem hlt]; rfl)
    refine ixL_b (by omega) (by omega) hb (ldS_b (n := bs (linesL s)[i]) ?_ ?_)
    · rw [add_mk, Nat.zero_add, show (i : Int).toNat * 1 = i by omega]; exact hc
    rw [w64 (by omega) (by omega)]
    refine apLine_b W E.size (by rw [List.length_take]; omega) (by rw [List.length_take, Nat.min_eq_left hi]; omega) (fun h3 r3 G3 hs3 same3 => ?_)
    refine hself (_, _) _ ⟨i + 1, by dsimp only; omega, by omega, ⟨by have := E.size; omega, fun k hk => (same3 k (by have := E.size; omega) (fun ho => by have := (W.lt ho).2; omega)).trans (E.same k hk)⟩, ?_⟩ (by dsimp only; omega)
    rw [List.take_succ_eq_append_getElem hlt]
    exact G3
  · obtain rfl : i = (linesL s).length := by have := of_decide_eq_false hge; omega
    rw [List.take_length] at W
    have E1 := e1.trans E
    refine bind_w (begun23_spec (hp.ext E1) (hd.ext E1) (fun h4 e4 => iteT rfl ?_))
    rw [show (1073741824 : Int) = ((1073741824 : Nat) : Int) from rfl]
    refine tell_b hs (fun h5 r5 e5 L5 => ?_)
    rw [List.take_of_length_le (by omega)] at L5
    have W5 := W.lnR.ext (e4.trans e5)
    refine bind_w (leq_spec L5 W5 (by omega) (iteT rfl ?_))
    have hmin : iMin (w.len : Int) (IntKind.wrap .i64 (most : Int)) = ((min w.len most : Nat) : Int) := by
      rw [w64 (by omega) (by omega)]
      unfold iMin
      split <;> omega
    have hcap := W.cap
    rw [hmin]
    refine slL_b (by omega) (by omega) (by omega) ?_
    rw [w64 (by omega) (by omega)]
    refine tell_b hs (fun h6 r6 e6 L6 => ?_)
    refine bind_w (leq_spec L6 ⟨?_, ?_⟩ (by rw [List.length_take]; omega) ?_)
    · show ((min w.len most : Nat) : Int).toNat - (0 : Int).toNat = _
      rw [List.length_take, hwl]; omega
    · have hbase : (if w.cap = (0 : Int).toNat then w.base else w.base.map (fun a => a.add ((0 : Int).toNat * 2))) = w.base := by
        have : w.base.map (fun a => a.add ((0 : Int).toNat * 2)) = w.base := by
          cases w.base with
          | none => rfl
          | some a => rfl
        rw [this]; simp
      show Reads h6 (if w.cap = (0 : Int).toNat then w.base else w.base.map (fun a => a.add ((0 : Int).toNat * 2))) _
      rw [hbase]
      have hR := (W5.ext e6).2
      rcases hR with h0 | ⟨a, ha, hr⟩
      · have : linesL s = [] := by have := congrArg List.length h0; rw [lnV_len, List.length_nil] at this; exact List.length_eq_zero_iff.1 (by omega)
        rw [this, List.take_nil]; exact .inl rfl
      · refine .inr ⟨a, ha, fun j v hj => hr j v ?_⟩
        rw [← List.take_append_drop most (linesL s), lnV_app]
        rw [List.getElem?_append_left (List.getElem?_eq_some_iff.1 hj).1]
        exact hj
    · unfold ramblelaw23_ResultTells_j1
      exact pure_w (H _ (((E1.trans e4).trans e5).trans e6))
end Gx
namespace Gx
open Go Go.RowKit Go.ChangeShapes Go.WideShapes Go.ChangeAt Go.Joins
set_option linter.unusedVariables false
section
variable {H : Type} {enc : TypeId × Value → H} {P : Program}
theorem ext_below {W W' : World} (he : Ext W.heap W'.heap) (hr : Rest W W') : ∀ k, k < W.heap.size → W'.heap[k]? = W.heap[k]? := he.same
theorem ext_same {W W' : World} (he : Ext W.heap W'.heap) {p : MemPlace} (hp : p.block < W.heap.size) : W.sameAt W' p := by
  cases p with
  | cell b o => exact World.cell?_of_block (w := W) (he.same b hp)
  | map b => exact he.same b hp
theorem ext_trod {t : TypeId} (hl : laidOutB P = true) (hr : P.readableRec t = true) (hrow : t < P.types.size) {W W' : World} {v : Value} {d : DataW H} {ps : List MemPlace}
    (h : DataW.Trod enc P W 0 (fun _ => true) true t v d ps) (he : Ext W.heap W'.heap) :
    DataW.Trod enc P W' 0 (fun b => decide (b < W.heap.size)) true t v d ps := by
  have hlt : ∀ x ∈ ps, x.block < W.heap.size := by
    obtain ⟨m, hm⟩ := h
    exact DataW.trod_lt m _ _ _ hm
  exact WideElems.Trod_stays hl hr hrow h (fun x hx => ext_same he (hlt x hx)) (fun x hx => by simpa using hlt x hx)
theorem ext_frame {W W' : World} (he : Ext W.heap W'.heap) (hr : Rest W W') (may : MemPlace → Prop) : W.keptBut W' may := by
  refine ⟨hr.os, hr.output, fun i hi => ?_⟩
  rw [he.same i hi]
  split <;> simp_all
/-- a byte slice, opened -/
theorem open_bytes {W : World} {t e : TypeId} {n : Nat} {v : Value} {x : DataW H × List MemPlace} {sp : Nat → Bool} {held : Bool} {base : Nat} (ht : P.underlying t = some (.slice e)) (he : P.underlying e = some (.int .u8)) (hc : P.cellsOf e = 1)
    (h : DataW.trod enc P W base sp held n t [v] = some x) : ∃ (s : Sl) (l : List UInt8), v = s.v ∧ Bys W.heap s l ∧ l.length ≤ 9223372036854775807 := by
  rcases open_ints ht he hc h with ⟨h1, _⟩ | ⟨a, len, cap, zs, h1, _, hle, hm, hz, _, hcell, hwf⟩
  · cases h1
    exact ⟨Sl.nil, [], rfl, Bys.nil _, by simp⟩
  · cases h1
    have hlz : len ≤ zs.length := by rw [hz]; split <;> omega
    have hmx : cap ≤ 9223372036854775807 := Nat.le_trans hm (by decide)
    refine ⟨⟨some a, len, cap⟩, (zs.take len).map u8, rfl, ⟨by simp; omega, .inr ⟨a, rfl, fun j w hj => ?_⟩⟩, by simp; omega⟩
    simp only [List.getElem?_map, List.getElem?_take] at hj
    split at hj
    · rename_i hjl
      have hj' : j < zs.length := by omega
      rw [List.getElem?_eq_getElem hj'] at hj
      simp only [Option.map_some, Option.some.injEq] at hj
      have h2 := hcell j hj'
      have h3 := hwf _ (List.getElem_mem hj')
      rw [List.getD_eq_getElem?_getD, List.getElem?_eq_getElem hj'] at h2
      have h4 : 0 ≤ zs[j] ∧ zs[j] ≤ 255 := by simpa [Lit.wf, IntKind.min, IntKind.max, IntKind.signed, IntKind.bits] using h3
      rw [← hj, bv, u8_toNat, show zs[j] % 256 = zs[j] by omega]
      exact h2
    · simp at hj
end
end Gx
