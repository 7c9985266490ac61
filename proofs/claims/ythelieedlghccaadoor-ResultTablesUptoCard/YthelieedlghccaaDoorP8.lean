/- Own proofs: what those Lean programs compute. No condition. -/
import Derived.Test.YthelieedlghccaaDoorP0
import Derived.Test.YthelieedlghccaaDoorP1
import Derived.Test.YthelieedlghccaaDoorP2
import Derived.Test.YthelieedlghccaaDoorP3
import Derived.Test.YthelieedlghccaaDoorP4
import Derived.Test.YthelieedlghccaaDoorP5
import Derived.Test.YthelieedlghccaaDoorP6
import Derived.Test.YthelieedlghccaaDoorP7
import Derived.Test.YthelieedlghccaaDoorTie
import Derived.KernelRfl
import Derived.ChangeArms
import Derived.DataReads
set_option linter.unusedVariables false
set_option linter.unusedSimpArgs false
namespace Gx
open Go
set_option linter.unusedVariables false
set_option linter.unusedSimpArgs false
/-! ### The reference's text of a number -/
def dgt (u : Nat) : List Nat := if h : u < 10 then [u] else dgt (u / 10) ++ [u % 10]
termination_by u
decreasing_by omega
theorem dgt_dec (u : Nat) : Lib.decDigits u = (dgt u).map fun d => UInt8.ofNat (48 + d) := by
  induction u using Nat.strongRecOn with
  | _ u ih =>
    unfold dgt Lib.decDigits
    split
    · rfl
    · rw [ih (u / 10) (by omega)]; simp
theorem dgt_lt (u : Nat) : ∀ d ∈ dgt u, d < 10 := by
  induction u using Nat.strongRecOn with
  | _ u ih =>
    unfold dgt
    split
    · intro d hd; simp at hd; omega
    · intro d hd
      rcases List.mem_append.1 hd with hd | hd
      · exact ih (u / 10) (by omega) d hd
      · simp at hd; omega
theorem dgt_len : ∀ (k u : Nat), u < 10 ^ k → 1 ≤ k → (dgt u).length ≤ k
  | 0, u, h, h1 => by omega
  | k + 1, u, h, h1 => by
    unfold dgt
    split
    · simp
    · rename_i hu
      rw [List.length_append]
      have : 1 ≤ k := by
        rcases Nat.eq_zero_or_pos k with h0 | h0
        · subst h0; omega
        · exact h0
      have := dgt_len k (u / 10) (by rw [Nat.pow_succ] at h; omega) this
      simp; omega
def dv (d : Nat) : Value := .int .i64 (d : Int)
theorem rdigits_spec {n : Int} {h : Heap} {Q : Sl → Heap → Prop} (hn : I64 n) (H : ∀ h' r, Ext h h' → Gw h.size h' r 1 ((dgt n.natAbs).map dv) → Q r h') : (rambleref01_Digits n).wp h Q := by
  unfold rambleref01_Digits
  obtain ⟨n1, n2⟩ := hn
  have hbare : (rambleref01_bare n).wp h (fun u h' => u = (n.natAbs : Int) ∧ h' = h) := by
    unfold rambleref01_bare
    refine ite_w (fun hc => ?_) (fun hc => ?_)
    · have := of_decide_eq_true hc
      exact pure_w ⟨by rw [IntKind.wrap_u64, IntKind.wrap_u64]; omega, rfl⟩
    · have := of_decide_eq_false hc
      exact pure_w ⟨by rw [IntKind.wrap_u64]; omega, rfl⟩
  refine bind_w ((rambleref01_bare n).mono ?_ hbare)
  rintro u h' ⟨rfl, rfl⟩
  have hu : n.natAbs ≤ 18446744073709551615 := by omega
  have hlen : (dgt n.natAbs).length ≤ 20 := dgt_len 20 _ (by omega) (by decide)
  generalize n.natAbs = u at *
  refine M.loop_inv (fun (t : Int × Sl) h1 => ∃ (x : Nat) (l : List Nat), t.1 = (x : Int) ∧ x ≤ 18446744073709551615 ∧ Ext h' h1 ∧ Gw h'.size h1 t.2 1 (l.map dv) ∧ (if 0 < x ∨ l = [] then dgt x else []) ++ l = dgt u) (fun t _ => t.1.toNat + (if t.2.len = 0 then 1 else 0)) ?_ ⟨u, [], rfl, hu, Ext.refl _, Gw.nil _ _ _, by simp⟩
  rintro ⟨t, r⟩ h1 ⟨x, l, ht, hx, E, G, hd⟩ self hself
  have ht : t = (x : Int) := ht
  subst ht
  have hrl := G.len
  simp at hrl
  unfold rambleref01_Digits_l1
  refine or_b (c := decide (l = [])) (fun _ Q' hq' => pure_w (by rw [show ((r.len : Int) == 0) = decide (l = []) by rw [← hrl, Bool.eq_iff_iff]; simp]; exact hq')) ?_
  refine ite_w (fun hc => ?_) (fun hc => ?_)
  · have hc' : 0 < x ∨ l = [] := by simpa using hc
    rw [if_pos hc'] at hd
    have hsl : (dgt x).length + l.length = (dgt u).length := by rw [← hd, List.length_append]
    have w1 : IntKind.wrap .i64 (Int.tmod (x : Int) 10) = ((x % 10 : Nat) : Int) := by
      rw [Int.tmod_eq_emod_of_nonneg (by omega), w64 (by omega) (by omega)]; omega
    have w2 : IntKind.wrap .u64 (Int.tdiv (x : Int) 10) = ((x / 10 : Nat) : Int) := by
      rw [Int.tdiv_eq_ediv_of_nonneg (by omega), IntKind.wrap_u64]; omega
    rw [w1, w2]
    refine bdL_b ?_
    have e2 := Ext.push h1 (.cells #[.int .i64 ((x % 10 : Nat) : Int)] ty_int)
    have g2 : (h1.push (.cells #[.int .i64 ((x % 10 : Nat) : Int)] ty_int))[h1.size]? = some (.cells #[.int .i64 ((x % 10 : Nat) : Int)] ty_int (0, 0)) := get_push_eq
    generalize h1.push (.cells #[.int .i64 ((x % 10 : Nat) : Int)] ty_int) = h2 at e2 g2 ⊢
    have G2 := G.ext e2
    have E2 := E.trans e2
    have Gn : Gw h'.size h2 ⟨some ⟨h1.size, 0, none⟩, 1, 1⟩ 1 [dv (x % 10)] := .inr ⟨h1.size, _, _, rfl, E.size, g2, rfl, Nat.le_refl _, rfl, fun j v hj => by rw [show (#[.int .i64 ((x % 10 : Nat) : Int)] : Array Value) = [dv (x % 10)].toArray from rfl]; simpa using hj⟩
    refine ap_grow (vs := [dv (x % 10)]) (news := l.map dv) rfl Gn (by simp; exact hrl) G2.reads (fun v hv => by obtain ⟨y, _, rfl⟩ := List.mem_map.1 hv; rfl) (by dsimp only; omega) (by dsimp only; omega) E2.size (fun h3 r3 G3 hlen3 hs same on_ => ?_)
    have E3 : Ext h' h3 := ⟨Nat.le_trans E2.size hs, fun i hi => (same i (Nat.lt_of_lt_of_le hi E2.size) (fun ho => by have := (Gn.lt ho).2; omega)).trans (E2.same i hi)⟩
    refine hself (_, _) _ ⟨x / 10, (x % 10) :: l, rfl, by omega, E3, by simpa using G3, ?_⟩ ?_
    · rw [← hd]
      conv => rhs; unfold dgt
      by_cases h10 : x < 10
      · have hz : x / 10 = 0 := by omega
        simp [h10, hz, Nat.mod_eq_of_lt h10]
      · have : 0 < x / 10 := by omega
        rw [if_pos (.inl this), dif_neg h10]; simp
    · dsimp only
      rw [hlen3]
      dsimp only
      rcases hc' with h0 | h0
      · rw [if_neg (by omega)]; split <;> omega
      · subst h0
        have : r.len = 0 := by rw [← hrl]; rfl
        rw [if_neg (by omega), if_pos this]; omega
  · have hc' : ¬ (0 < x ∨ l = []) := by simpa using hc
    rw [if_neg hc', List.nil_append] at hd
    subst hd
    exact pure_w (H _ _ E G)
theorem sCat_b {β : Type} {h : Heap} {Q : β → Heap → Prop} {x y : List UInt8} {f : ByteArray → M β} (hm : x.length + y.length ≤ 9223372036854775807) (H : (f (bs (x ++ y))).wp h Q) : (sCat (bs x) (bs y) >>= f).wp h Q :=
  ⟨bs (x ++ y), ⟨by rw [bs_size, bs_size]; omega, by apply ByteArray.ext; simp [bs]⟩, H⟩
theorem itoa_len {n : Int} (hn : I64 n) : (Lib.itoa n).length ≤ 21 := by
  obtain ⟨n1, n2⟩ := hn
  unfold Lib.itoa
  split
  · rw [List.length_cons, dgt_dec, List.length_map]
    have := dgt_len 20 n.natAbs (by omega) (by decide)
    omega
  · rw [dgt_dec, List.length_map]
    have := dgt_len 20 n.toNat (by omega) (by decide)
    omega
theorem rtext1_spec {n : Int} {h : Heap} {Q : ByteArray → Heap → Prop} (hn : I64 n) (H : ∀ h', Ext h h' → Q (bs (Lib.itoa n)) h') : (rambleref01_Text n).wp h Q := by
  unfold rambleref01_Text
  have key : ∀ (p : List UInt8), p.length ≤ 1 → p ++ Lib.decDigits n.natAbs = Lib.itoa n → (rambleref01_Text_j1 n (bs p)).wp h Q := fun p hp he => by
    unfold rambleref01_Text_j1
    refine bind_w (rdigits_spec hn (fun h1 r E G => ?_))
    have hrl := G.len
    simp at hrl
    have hlen : (dgt n.natAbs).length ≤ 20 := dgt_len 20 _ (by obtain ⟨_, _⟩ := hn; omega) (by decide)
    rw [dgt_dec] at he
    have hlt := dgt_lt n.natAbs
    generalize dgt n.natAbs = ds at *
    refine M.loop_inv (fun (t : ByteArray × Int) h2 => ∃ i : Nat, t.2 = (i : Int) ∧ i ≤ ds.length ∧ t.1 = bs (p ++ (ds.take i).map fun d => UInt8.ofNat (48 + d)) ∧ Ext h h2 ∧ Gw h.size h2 r 1 (ds.map dv)) (fun t _ => ((ds.length : Int) - t.2).toNat) ?_ ⟨0, rfl, Nat.zero_le _, by simp, E, G⟩
    rintro ⟨x, t⟩ h2 ⟨i, hti, hi, hx, E2, G2⟩ self hself
    have hti : t = (i : Int) := hti
    have hx : x = _ := hx
    subst hti; subst hx
    unfold rambleref01_Text_l1
    rw [← hrl]
    refine ite_w (fun hc => ?_) (fun hc => ?_)
    · have hlt' : i < ds.length := by have := of_decide_eq_true hc; omega
      obtain ⟨b, hb, hcell'⟩ := G2.cell (j := i) (v := dv ds[i]) (by simp [hlt'])
      have hd := hlt ds[i] (List.getElem_mem hlt')
      refine ixL_b (by omega) (by omega) hb (ldI_b (n := (ds[i] : Int)) (by rw [add_mk, show 0 + (i : Int).toNat * 1 = i by omega]; exact hcell') ?_)
      have hc8 : IntKind.wrap .u8 (IntKind.wrap .i64 (48 + (ds[i] : Int))) = ((UInt8.ofNat (48 + ds[i])).toNat : Int) := by
        rw [w64 (by omega) (by omega), IntKind.wrap_u8, UInt8.toNat_ofNat']
        omega
      rw [hc8]
      refine bdL_b ?_
      have g3 : (h2.push (.cells #[.int .u8 ((UInt8.ofNat (48 + ds[i])).toNat : Int)] ty_uint8))[h2.size]? = some (.cells (([UInt8.ofNat (48 + ds[i])] : List UInt8).map bv).toArray ty_uint8 (0, 0)) := get_push_eq
      have e3 := Ext.push h2 (.cells #[.int .u8 ((UInt8.ofNat (48 + ds[i])).toNat : Int)] ty_uint8)
      have Gb := gw_bd (h0 := h2) (c := [UInt8.ofNat (48 + ds[i])]) (Nat.le_refl _) g3
      refine b2s_b (ns := [UInt8.ofNat (48 + ds[i])]) rfl Gb.bys.at_ (sCat_b (y := [UInt8.ofNat (48 + ds[i])]) (by simp; omega) ?_)
      rw [w64 (by omega) (by omega)]
      refine hself (_, _) _ ⟨i + 1, by simp, by omega, ?_, E2.trans e3, G2.ext e3⟩ (by dsimp only; omega)
      dsimp only
      rw [List.take_succ_eq_append_getElem hlt', List.map_append, ← List.append_assoc]
      rfl
    · have hge : i = ds.length := by have := of_decide_eq_false hc; omega
      subst hge
      rw [List.take_length, he]
      exact pure_w (H _ E2)
  refine ite_w (fun hc => ?_) (fun hc => ?_)
  · have := of_decide_eq_true hc
    exact key [45] (by simp) (by unfold Lib.itoa; rw [if_pos this]; rfl)
  · have := of_decide_eq_false hc
    exact key [] (by simp) (by unfold Lib.itoa; rw [if_neg this, show n.natAbs = n.toNat by omega]; rfl)
end Gx
namespace Gx
open Go
set_option linter.unusedVariables false
set_option linter.unusedSimpArgs false
/-! ### strings.Join -/
def jn (sep : List UInt8) : List (List UInt8) → List UInt8
  | [] => []
  | [a] => a
  | a :: b :: r => a ++ (sep ++ jn sep (b :: r))
def sv (s : List UInt8) : Value := .string (bs s)
theorem jn_cons (sep a : List UInt8) (l : List (List UInt8)) : jn sep (a :: l) = a ++ l.flatMap (fun s => sep ++ s) := by
  induction l generalizing a with
  | nil => simp [jn]
  | cons b r ih => rw [jn, ih]; simp
theorem bgrow_spec {lo : Nat} {h : Heap} {b : Nat} {n : Int} {Q : Unit → Heap → Prop} (B : Bld lo h b Sl.nil []) (hlo : lo ≤ h.size) (h0 : 0 ≤ n) (hn : n ≤ 140737488355328)
    (H : ∀ h' r', Bld lo h' b r' [] → BKeep b Sl.nil r' h h' → Q () h') : (strings_Builder_Grow (some ⟨b, 0, none⟩) n).wp h Q := by
  unfold strings_Builder_Grow
  refine copyCheck_b B (fun h1 B1 u1 => iteF (by simp; omega) ?_)
  obtain ⟨p, q1, q2⟩ := B1.ptr
  have c1 : hcell h1 ((⟨b, 0, none⟩ : Addr).add 1) = some Sl.nil.v := by rw [add_mk, hcell_blk q1]; rfl
  refine nilP_b (nilP_b (ldL_b (n := Sl.nil) c1 (ldL_b (n := Sl.nil) c1 ?_)))
  have hK1 : BKeep b Sl.nil Sl.nil h h1 := ⟨by rw [u1.size]; exact Nat.le_refl _, fun i hi hne _ => u1.ne i hne, fun i hi => .inl hi⟩
  refine ite_w (fun hc => ?_) (fun hc => pure_w (H _ _ B1 hK1))
  have hpos : 0 < n := of_decide_eq_true hc
  refine bind_w ?_
  unfold strings_Builder_grow
  refine nilP_b (nilP_b (ldL_b (n := Sl.nil) c1 (ldL_b (n := Sl.nil) c1 ?_)))
  have hw : IntKind.wrap .i64 ((IntKind.wrap .i64 (2 * ((Sl.nil : Sl).cap : Int))) + n) = n := by
    rw [show IntKind.wrap .i64 (2 * ((Sl.nil : Sl).cap : Int)) = 0 by decide, w64 (by omega) (by omega)]; omega
  rw [hw]
  refine ⟨h0, by omega, fun cs hle hmax => ?_⟩
  have e2 := Ext.push h1 (.cells cs ty_uint8)
  have g2 : (h1.push (.cells cs ty_uint8))[h1.size]? = some (.cells cs ty_uint8 (0, 0)) := get_push_eq
  generalize h1.push (.cells cs ty_uint8) = h2 at e2 g2 ⊢
  have c2 := e2.cell c1
  refine chk_b ⟨c2, c2⟩ (slL_b (by decide) (by decide) (by dsimp only [Sl.nil]; omega) (nilP_b (ldL_b (n := Sl.nil) c2 ?_)))
  have hcs : cs.size ≠ 0 := by omega
  rw [if_neg (show ¬ cs.size = (0 : Int).toNat by simpa using hcs)]
  have hbz : (Option.map (fun x : Addr => x.add ((0 : Int).toNat * 1)) (some ⟨h1.size, 0, none⟩)) = some ⟨h1.size, 0, none⟩ := by simp [add_mk]
  have hr : (⟨Option.map (fun x : Addr => x.add ((0 : Int).toNat * 1)) (some ⟨h1.size, 0, none⟩), ((Sl.nil : Sl).len : Int).toNat - (0 : Int).toNat, cs.size - (0 : Int).toNat⟩ : Sl) = ⟨some ⟨h1.size, 0, none⟩, 0, cs.size⟩ := by
    rw [hbz]; simp [Sl.nil]
  dsimp only
  rw [hr]
  refine ⟨[], by simp [Sl.nil], .inl rfl, fun a ha j hj => by simp at hj, by simp, nilP_b ?_⟩
  rw [show hputL h2 (⟨some ⟨h1.size, 0, none⟩, 0, cs.size⟩ : Sl).base 0 [] = h2 from rfl]
  obtain ⟨p', q1', q2'⟩ := (B1.ext e2).ptr
  refine stV_b (x := Sl.nil.v) c2 (by rw [add_mk, hfrozen_blk q1']) (one_v _) (pure_w (pure_w ?_))
  rw [add_mk, Nat.zero_add]
  have hlt := B1.lt
  have R : Gw lo h2 ⟨some ⟨h1.size, 0, none⟩, 0, cs.size⟩ 1 (([] : List UInt8).map bv) := .inr ⟨h1.size, _, _, rfl, by have := u1.size; omega, g2, by simp, by simp, by simp, fun j v hj => by simp at hj⟩
  obtain ⟨B3, K3⟩ := bld_put (h := h1) (h' := h2) (l' := []) B1 (Upd.refl _ _) e2.size (fun i hi _ => e2.same i hi) (fun i hi => by obtain ⟨a, ha, rfl⟩ := hi; cases ha; exact .inr (Nat.le_refl _)) R (fun h => absurd h hcs) (fun g hg => by cases hg; exact ⟨_, _, g2⟩)
  exact H _ _ B3 (hK1.trans K3 B.lt)
def SsAt (h : Heap) (x : Sl) (ps : List (List UInt8)) : Prop := x.len = ps.length ∧ x.len ≤ x.cap ∧ Reads h x.base (ps.map sv)
theorem SsAt.ext {h h' : Heap} {x : Sl} {ps : List (List UInt8)} (S : SsAt h x ps) (e : Ext h h') : SsAt h' x ps := ⟨S.1, S.2.1, e.reads S.2.2⟩
theorem SsAt.get {h : Heap} {x : Sl} {ps : List (List UInt8)} (S : SsAt h x ps) {i : Nat} (hi : i < ps.length) : ∃ a, x.base = some a ∧ hcell h (a.add i) = some (.string (bs ps[i])) := by
  obtain ⟨_, _, R | ⟨a, ha, R⟩⟩ := S
  · have : ps = [] := by simpa using R
    subst this; simp at hi
  · exact ⟨a, ha, R i _ (by simp [hi, sv])⟩
theorem sum_take {ps : List (List UInt8)} {i : Nat} (hi : i < ps.length) : ((ps.take (i + 1)).map List.length).sum = ((ps.take i).map List.length).sum + ps[i].length := by
  rw [List.take_succ_eq_append_getElem hi, List.map_append, List.sum_append]; simp only [List.map_cons, List.map_nil, List.sum_cons, List.sum_nil, Nat.add_zero]
theorem sum_pre (ps : List (List UInt8)) (i : Nat) : ((ps.take i).map List.length).sum ≤ (ps.map List.length).sum := by
  conv => rhs; rw [← List.take_append_drop i ps, List.map_append, List.sum_append]
  omega
theorem jn_drop (sep : List UInt8) : ∀ (l : List (List UInt8)) (h : 0 < l.length), jn sep l = l[0] ++ (l.drop 1).flatMap (fun s => sep ++ s)
  | [], h => by simp at h
  | a :: r, h => by rw [jn_cons]; rfl
theorem jn_len (sep : List UInt8) : ∀ ps : List (List UInt8), ps ≠ [] → (jn sep ps).length = (ps.map List.length).sum + sep.length * (ps.length - 1)
  | [], h => absurd rfl h
  | [a], _ => by simp [jn]
  | a :: b :: r, _ => by
    rw [jn, List.length_append, List.length_append, jn_len sep (b :: r) (by simp)]
    simp only [List.map_cons, List.sum_cons, List.length_cons]
    rw [show r.length + 1 + 1 - 1 = (r.length + 1 - 1) + 1 by omega, Nat.mul_add]
    omega
theorem join_spec {h : Heap} {x : Sl} {ps : List (List UInt8)} {sep : List UInt8} {Q : ByteArray → Heap → Prop} (S : SsAt h x ps) (hs1 : 1 ≤ sep.length) (hs : sep.length ≤ 16) (hp : ps.length ≤ 1099511627776) (hm : (jn sep ps).length ≤ 70368744177664)
    (H : ∀ h', Ext h h' → Q (bs (jn sep ps)) h') : (strings_Join x (bs sep)).wp h Q := by
  unfold strings_Join
  rw [S.1]
  match hps : ps with
  | [] => exact iteT rfl (pure_w (H _ (Ext.refl _)))
  | [a] =>
    obtain ⟨b, hb, hcell'⟩ := S.get (i := 0) (by simp)
    exact iteF rfl (iteT rfl (ixL_b (by decide) (by rw [S.1]; simp) hb (ldS_b (n := bs a) hcell' (pure_w (H _ (Ext.refl _))))))
  | a :: b0 :: r0 =>
    rw [← hps] at S hp hm H ⊢
    have hne : ps ≠ [] := by rw [hps]; simp
    have hl2 : 2 ≤ ps.length := by rw [hps]; simp
    have hjl := jn_len sep ps hne
    rw [bs_size]
    refine iteF (by rw [beq_eq_false_iff_ne]; omega) (iteF (by rw [beq_eq_false_iff_ne]; omega) (iteT (by simp; omega) ?_))
    have hw1 : IntKind.wrap .i64 ((ps.length : Int) - 1) = ((ps.length - 1 : Nat) : Int) := by rw [w64 (by omega) (by omega)]; omega
    rw [hw1]
    refine ⟨IntKind.wrap .i64 ((9223372036854775807 : Int).tdiv ((ps.length - 1 : Nat) : Int)), ⟨by omega, rfl⟩, ?_⟩
    have hq : (sep.length : Int) < IntKind.wrap .i64 ((9223372036854775807 : Int).tdiv ((ps.length - 1 : Nat) : Int)) := by
      rw [Int.tdiv_eq_ediv_of_nonneg (by decide)]
      have h1 : (17 : Int) ≤ 9223372036854775807 / ((ps.length - 1 : Nat) : Int) := by
        rw [Int.le_ediv_iff_mul_le (by omega)]; omega
      have h2 : 9223372036854775807 / ((ps.length - 1 : Nat) : Int) ≤ 9223372036854775807 := Int.ediv_le_self _ (by decide)
      rw [w64 (by omega) (by omega)]; omega
    have hsm : sep.length * (ps.length - 1) ≤ 70368744177664 := by omega
    have hcast : (sep.length : Int) * ((ps.length - 1 : Nat) : Int) = ((sep.length * (ps.length - 1) : Nat) : Int) := by simp
    refine iteF (by simp; omega) ?_
    unfold strings_Join_j1
    rw [hcast, w64n (n := sep.length * (ps.length - 1)) (by omega), Int.zero_add, w64n (n := sep.length * (ps.length - 1)) (by omega)]
    refine M.loop_inv (fun (t : Int × Int) h' => h' = h ∧ ∃ i : Nat, t.2 = (i : Int) ∧ i ≤ ps.length ∧ t.1 = ((sep.length * (ps.length - 1) + ((ps.take i).map List.length).sum : Nat) : Int)) (fun t _ => ((ps.length : Int) - t.2).toNat) ?_ ⟨rfl, 0, rfl, Nat.zero_le _, by simp⟩
    rintro ⟨m, t⟩ h' ⟨rfl, i, ht, hi, hmm⟩ self hself
    have ht : t = (i : Int) := ht
    have hmm : m = _ := hmm
    subst ht; subst hmm
    unfold strings_Join_l1
    rw [S.1]
    have hpi := sum_pre ps i
    refine ite_w (fun hc => ?_) (fun hc => ?_)
    · have hlt : i < ps.length := by have := of_decide_eq_true hc; omega
      have hpj := sum_pre ps (i + 1)
      rw [sum_take hlt] at hpj
      obtain ⟨b, hb, hcell'⟩ := S.get hlt
      refine ixL_b (by omega) (by rw [S.1]; omega) hb (ldS_b (n := bs ps[i]) (by rw [show (i : Int).toNat * 1 = i by omega]; exact hcell') ?_)
      rw [bs_size]
      refine iteF (by rw [w64 (by omega) (by omega), decide_eq_false_iff_not]; omega) ?_
      refine hself (_, _) _ ⟨rfl, i + 1, by dsimp only; rw [w64 (by omega) (by omega)]; simp, by omega, ?_⟩ (by dsimp only; rw [w64 (by omega) (by omega)]; omega)
      dsimp only
      rw [w64 (by omega) (by omega), sum_take hlt]; omega
    · have hge : i = ps.length := by have := of_decide_eq_false hc; omega
      subst hge
      rw [List.take_length]
      refine mkV_b (fun h1 e1 z1 g1 => ?_)
      have B1 := Bld.new (Nat.le_refl _) g1
      refine bind_w (bgrow_spec B1 (by omega) (by omega) (by omega) (fun h2 r2 B2 K2 => ?_))
      have E2 := K2.ext e1 B1 (Nat.le_refl _)
      obtain ⟨b, hb, hcell'⟩ := (S.ext E2).get (i := 0) (by omega)
      have h0l := sum_pre ps 1
      rw [sum_take (i := 0) (by omega)] at h0l
      refine ixL_b (by decide) (by rw [S.1]; omega) hb (ldS_b (n := bs ps[0]) hcell' ?_)
      refine bind_w (wstr_spec B2 E2.size (by rw [List.length_nil]; omega) (fun h3 r3 n3 B3 K3 => ?_))
      have E3 := K3.ext E2 B2 (Nat.le_refl _)
      have hcap := S.2.1
      have hSl := S.1
      refine slL_b (by decide) (by omega) (by omega) ?_
      have hx : (⟨if x.cap = (1 : Int).toNat then x.base else x.base.map (fun a => a.add ((1 : Int).toNat * 1)), (ps.length : Int).toNat - (1 : Int).toNat, x.cap - (1 : Int).toNat⟩ : Sl) = ⟨some (b.add 1), ps.length - 1, x.cap - 1⟩ := by
        have hl := S.1
        rw [if_neg (show ¬ x.cap = (1 : Int).toNat by have : (1 : Int).toNat = 1 := rfl; omega), hb]
        rfl
      rw [hx]
      have hj0 : jn sep ps = ps[0] ++ (ps.drop 1).flatMap (fun s => sep ++ s) := jn_drop sep ps (by omega)
      have hpre : ∀ k, (ps[0] ++ ((ps.drop 1).take k).flatMap (fun s => sep ++ s)).length ≤ (jn sep ps).length := fun k => by
        rw [hj0, List.length_append, List.length_append]
        conv => rhs; rw [← List.take_append_drop k (ps.drop 1), List.flatMap_append, List.length_append]
        omega
      refine M.loop_inv (fun (t : Int) hx => ∃ k : Nat, t = (k : Int) ∧ k ≤ ps.length - 1 ∧ Ext h' hx ∧ ∃ r, Bld h'.size hx h'.size r (ps[0] ++ ((ps.drop 1).take k).flatMap (fun s => sep ++ s))) (fun t _ => ((ps.length : Int) - t).toNat) ?_ ⟨0, rfl, Nat.zero_le _, E3, r3, by simpa using B3⟩
      rintro t h4 ⟨k, rfl, hk, E4, r4, B4⟩ self2 hself2
      unfold strings_Join_l2
      dsimp only
      have hpk := hpre k
      refine ite_w (fun hc => ?_) (fun hc => ?_)
      · have hlt : k < ps.length - 1 := by have := of_decide_eq_true hc; omega
        have hlt' : 1 + k < ps.length := by omega
        have hpk1 := hpre (k + 1)
        have htk : ((ps.drop 1).take (k + 1)).flatMap (fun s => sep ++ s) = ((ps.drop 1).take k).flatMap (fun s => sep ++ s) ++ (sep ++ ps[1 + k]) := by
          rw [List.take_succ_eq_append_getElem (by simpa using hlt), List.flatMap_append]
          simp only [List.getElem_drop, List.flatMap_cons, List.flatMap_nil, List.append_nil]
        rw [htk, ← List.append_assoc, ← List.append_assoc, List.length_append, List.length_append] at hpk1
        obtain ⟨b', hb', hcell2⟩ := (S.ext E4).get hlt'
        rw [hb] at hb'
        cases hb'
        refine ixL_b (by omega) (by dsimp only; omega) rfl (ldS_b (n := bs ps[1 + k]) (by rw [Addr.add_add, show 1 + (k : Int).toNat * 1 = 1 + k by omega]; exact hcell2) ?_)
        refine bind_w (wstr_spec B4 E4.size (by omega) (fun h5 r5 n5 B5 K5 => ?_))
        have E5 := K5.ext E4 B4 (Nat.le_refl _)
        refine bind_w (wstr_spec B5 E5.size (by rw [List.length_append]; omega) (fun h6 r6 n6 B6 K6 => ?_))
        have E6 := K6.ext E5 B5 (Nat.le_refl _)
        rw [w64 (by omega) (by omega)]
        refine hself2 _ _ ⟨k + 1, by simp, by omega, E6, r6, ?_⟩ (by omega)
        rw [htk, ← List.append_assoc, ← List.append_assoc]
        exact B6
      · have hge : k = ps.length - 1 := by have := of_decide_eq_false hc; omega
        subst hge
        rw [List.take_of_length_le (by simp), ← hj0] at B4
        refine bind_w (bstr_spec B4 (by omega) (fun h5 K5 _ => pure_w (H _ (K5.ext E4 B4 (Nat.le_refl _)))))
end Gx
namespace Gx
open Go
set_option linter.unusedVariables false
set_option linter.unusedSimpArgs false
/-! ### The text of a value -/
def shw (ev od : List UInt8) : List (List UInt8) → List UInt8
  | [] => []
  | [a] => a
  | a :: b :: r => a ++ (ev ++ shw od ev (b :: r))
def prs : List (List UInt8) → List (List UInt8)
  | [] => []
  | [a] => [a]
  | a :: b :: r => (a ++ ([58, 32] ++ b)) :: prs r
theorem jn_shw (sep : List UInt8) : ∀ l, jn sep l = shw sep sep l
  | [] => rfl
  | [a] => rfl
  | a :: b :: r => by rw [jn, shw, jn_shw sep (b :: r)]
theorem jn_prs : ∀ l : List (List UInt8), jn [44, 32] (prs l) = shw [58, 32] [44, 32] l
  | [] => rfl
  | [a] => rfl
  | [a, b] => by simp [prs, jn, shw]
  | a :: b :: c :: r => by
    have ih := jn_prs (c :: r)
    rw [prs, jn_cons]
    rw [shw, shw, ← ih]
    match hp : prs (c :: r) with
    | [] => cases r <;> simp [prs] at hp
    | p :: ps => rw [jn_cons, List.flatMap_cons]; simp
theorem prs_even : ∀ (l : List (List UInt8)) (a : List UInt8), l.length % 2 = 0 → prs (l ++ [a]) = prs l ++ [a]
  | [], a, _ => rfl
  | [x], a, h => by simp at h
  | x :: y :: r, a, h => by
    rw [List.cons_append, List.cons_append, prs, prs, prs_even r a (by simp at h; omega)]; rfl
theorem prs_odd : ∀ (l : List (List UInt8)) (a b : List UInt8), l.length % 2 = 0 → prs (l ++ [a, b]) = prs l ++ [a ++ ([58, 32] ++ b)]
  | [], a, b, _ => rfl
  | [x], a, b, h => by simp at h
  | x :: y :: r, a, b, h => by
    rw [List.cons_append, List.cons_append, prs, prs, prs_odd r a b (by simp at h; omega)]; rfl
theorem prs_len : ∀ l : List (List UInt8), (prs l).length ≤ l.length
  | [] => by simp [prs]
  | [a] => by simp [prs]
  | a :: b :: r => by have := prs_len r; simp [prs]; omega
theorem shw_len : ∀ (ev od : List UInt8) (l : List (List UInt8)), (l.map List.length).sum ≤ (shw ev od l).length
  | _, _, [] => by simp [shw]
  | _, _, [a] => by simp [shw]
  | ev, od, a :: b :: r => by
    have := shw_len od ev (b :: r)
    rw [shw, List.length_append, List.length_append, List.map_cons, List.sum_cons]
    omega
theorem sum_mem {l : List (List UInt8)} {a : List UInt8} (h : a ∈ l) : a.length ≤ (l.map List.length).sum := by
  induction l with
  | nil => cases h
  | cons x l ih =>
    rw [List.map_cons, List.sum_cons]
    rcases List.mem_cons.1 h with rfl | h
    · omega
    · have := ih h; omega
theorem sum_pos {l : List (List UInt8)} (h : ∀ a ∈ l, 1 ≤ a.length) : l.length ≤ (l.map List.length).sum := by
  induction l with
  | nil => simp
  | cons x l ih =>
    rw [List.map_cons, List.sum_cons, List.length_cons]
    have := ih (fun a ha => h a (List.mem_cons_of_mem _ ha))
    have := h x (by simp)
    omega
def txt : Nat → Vl → List UInt8
  | 0, _ => [63]
  | d + 1, .mk k n s l =>
    if k = 1 then Lib.itoa n else if k = 2 then quoteB s else if k = 3 then (if n = 1 then [116, 114, 117, 101] else [102, 97, 108, 115, 101])
    else if k = 6 then [118, 91] ++ Lib.itoa n ++ [93] else if k = 7 then [101, 91] ++ Lib.itoa n ++ [93]
    else if k = 4 then [91] ++ shw [44, 32] [44, 32] (l.map (txt d)) ++ [93] else if k = 5 then [123] ++ shw [58, 32] [44, 32] (l.map (txt d)) ++ [125] else [63]
theorem itoa_pos (n : Int) : 1 ≤ (Lib.itoa n).length := by
  have : ∀ u, 1 ≤ (Lib.decDigits u).length := fun u => by unfold Lib.decDigits; split <;> simp
  unfold Lib.itoa
  split
  · simp
  · exact this _
theorem txt_pos : ∀ (d : Nat) (v : Vl), 1 ≤ (txt d v).length
  | 0, _ => by simp [txt]
  | d + 1, .mk k n s l => by
    unfold txt
    repeat' split
    all_goals first | exact itoa_pos n | (simp [quoteB]; done) | (simp; omega)
theorem Gw.set {lo : Nat} {h : Heap} {r : Sl} {vs : List Value} {b j : Nat} {v : Value} (H : Gw lo h r 1 vs) (hb : r.base = some ⟨b, 0, none⟩) (hj : j < vs.length) : Gw lo (hset h ⟨b, j, none⟩ v) r 1 (vs.set j v) := by
  rcases H with ⟨rfl, rfl⟩ | ⟨g, ty, cells, H⟩
  · cases hb
  · rw [H.base] at hb
    cases hb
    refine .inr ⟨b, ty, _, H.base, H.lo, hset_at H.blk, by rw [Array.size_setIfInBounds]; exact H.size, H.cap, by rw [List.length_set]; exact H.len, fun i x hx => ?_⟩
    rw [List.getElem?_set] at hx
    rw [Array.getElem?_setIfInBounds]
    split at hx
    · rename_i hi
      subst hi
      cases hx
      have hc := H.len
      have := H.size
      have hcap := H.cap
      rw [if_pos rfl, if_pos (by omega)]
    · rename_i hi
      rw [if_neg hi]
      exact H.get i x hx
theorem ixS2 {β : Type} {lo : Nat} {h : Heap} {Q : β → Heap → Prop} {r : Sl} {ps : List (List UInt8)} {i : Nat} {t : Int} {f : Addr → M β} (G : Gw lo h r 1 (ps.map sv)) (hi : i < ps.length) (ht : t = (i : Int))
    (H : ∀ b, r.base = some ⟨b, 0, none⟩ → hcell h ⟨b, i, none⟩ = some (.string (bs ps[i])) → hfrozen h ⟨b, i, none⟩ = false → (f ⟨b, i, none⟩).wp h Q) : (ixL r t 1 >>= f).wp h Q := by
  subst ht
  have hl := G.len
  simp at hl
  obtain ⟨b, hb, hc⟩ := G.cell (j := i) (v := sv ps[i]) (by simp [hi])
  refine ixL_b (by omega) (by omega) hb ?_
  rw [add_mk, show 0 + (i : Int).toNat * 1 = i by omega]
  refine H b hb hc ?_
  rcases G with ⟨rfl, _⟩ | ⟨g, ty, cells, R⟩
  · cases hb
  · rw [R.base] at hb; cases hb
    exact hfrozen_blk R.blk
theorem lit_b {β : Type} {h : Heap} {Q : β → Heap → Prop} {a c : List UInt8} {x : List UInt8} {f : ByteArray → M β} (hm : a.length + x.length + c.length ≤ 9223372036854775807) (H : (f (bs (a ++ x ++ c))).wp h Q) : (sCat (bs a) (bs x) >>= fun y => sCat y (bs c) >>= f).wp h Q :=
  sCat_b (by omega) (sCat_b (by simp only [List.length_append]; omega) H)
/-- what the parts of a value come to -/
def prt (k : Int) (l : List (List UInt8)) : List (List UInt8) := if k = 5 then prs l else l
theorem vtext_spec : ∀ (d : Nat) (v : Vl) {h : Heap} {Q : ByteArray → Heap → Prop} {x : Array Value}, d ≤ 8 → VRep h v x → PowTab h → DbTab h → (txt d v).length ≤ 1099511627776 → (∀ h', Ext h h' → Q (bs (txt d v)) h') → (value_text x ((9 - d : Nat) : Int)).wp h Q := by
  intro d
  induction d with
  | zero =>
    rintro v h Q x _ hx _ _ _ H
    unfold value_text
    exact mkV_b (fun h1 e1 z1 g1 => iteT rfl (pure_w (H _ e1)))
  | succ d ih =>
    rintro ⟨k, n, s, l⟩ h Q x hd hx hp hdb hm H
    obtain ⟨xs, rfl, k1, n1, s1, r1⟩ := VRep.eq.1 hx
    unfold value_text
    refine mkV_b (fun h1 E z1 g1 => ?_)
    have c0 : hcell h1 ((⟨h.size, 0, none⟩ : Addr).add 0) = some (.int .i64 k) := by rw [blk_cell g1]; rfl
    have c1 : hcell h1 ((⟨h.size, 0, none⟩ : Addr).add 1) = some (.int .i64 n) := by rw [blk_cell g1]; rfl
    have c2 : hcell h1 ((⟨h.size, 0, none⟩ : Addr).add 2) = some (.string (bs s)) := by rw [blk_cell g1]; rfl
    have c3 : hcell h1 ((⟨h.size, 0, none⟩ : Addr).add 3) = some xs.v := by rw [blk_cell g1]; rfl
    have hpE := hp.ext E
    have hdE := hdb.ext E
    have hil := itoa_len n1
    refine iteF (by simp; omega) (ldI_b c0 (ite_w (fun h1k => ?_) (fun h1k => ?_)))
    · have h1k : k = 1 := by simpa using h1k
      unfold txt at H
      rw [if_pos h1k] at H
      exact ldI_b c1 (bind_w (ntext_spec n1 hpE (fun h2 e2 => pure_w (H _ (E.trans e2)))))
    have h1k : ¬ k = 1 := by simpa using h1k
    unfold txt at H hm
    rw [if_neg h1k] at H hm
    refine ite_w (fun h2k => ?_) (fun h2k => ?_)
    · have h2k : k = 2 := by simpa using h2k
      rw [if_pos h2k] at H hm
      exact ldS_b c2 (bind_w (vquote_spec (by omega) hdE (fun h2 e2 => pure_w (H _ (E.trans e2)))))
    have h2k : ¬ k = 2 := by simpa using h2k
    rw [if_neg h2k] at H hm
    refine ite_w (fun h3k => ?_) (fun h3k => ?_)
    · have h3k : k = 3 := by simpa using h3k
      rw [if_pos h3k] at H
      refine ldI_b c1 (ite_w (fun hn => ?_) (fun hn => ?_))
      · have hn : n = 1 := by simpa using hn
        rw [if_pos hn] at H
        exact pure_w (H _ E)
      · have hn : ¬ n = 1 := by simpa using hn
        rw [if_neg hn] at H
        exact pure_w (H _ E)
    have h3k : ¬ k = 3 := by simpa using h3k
    rw [if_neg h3k] at H hm
    refine ite_w (fun h6k => ?_) (fun h6k => ?_)
    · have h6k : k = 6 := by simpa using h6k
      rw [if_pos h6k] at H
      exact ldI_b c1 (bind_w (ntext_spec n1 hpE (fun h2 e2 => lit_b (a := [118, 91]) (c := [93]) (by simp; omega) (pure_w (H _ (E.trans e2))))))
    have h6k : ¬ k = 6 := by simpa using h6k
    rw [if_neg h6k] at H hm
    refine ite_w (fun h7k => ?_) (fun h7k => ?_)
    · have h7k : k = 7 := by simpa using h7k
      rw [if_pos h7k] at H
      exact ldI_b c1 (bind_w (ntext_spec n1 hpE (fun h2 e2 => lit_b (a := [101, 91]) (c := [93]) (by simp; omega) (pure_w (H _ (E.trans e2))))))
    have h7k : ¬ k = 7 := by simpa using h7k
    rw [if_neg h7k] at H hm
    have j1 : (value_text_j1 ((9 - (d + 1) : Nat) : Int) ⟨h.size, 0, none⟩ (decide (k = 4 ∨ k = 5))).wp h1 Q := by
      unfold value_text_j1
      refine ite_w (fun h45 => ?_) (fun h45 => ?_)
      · have h45 : k = 4 ∨ k = 5 := by simpa using h45
        -- one form of what is told
        have hform : ∃ a c, (∀ h', Ext h h' → Q (bs (a ++ jn [44, 32] (prt k (l.map (txt d))) ++ c)) h') ∧ a.length = 1 ∧ c.length = 1 ∧ (jn [44, 32] (prt k (l.map (txt d)))).length ≤ 1099511627776 ∧ ((l.map (txt d)).map List.length).sum ≤ 1099511627776 ∧ (k = 5 → a = [123] ∧ c = [125]) ∧ (¬ k = 5 → a = [91] ∧ c = [93]) := by
          rcases h45 with h4 | h5
          · rw [if_pos h4] at H hm
            have h5 : ¬ k = 5 := by omega
            have hs := shw_len [44, 32] [44, 32] (l.map (txt d))
            simp only [List.length_append, List.length_cons, List.length_nil] at hm
            refine ⟨[91], [93], ?_, rfl, rfl, ?_, by omega, fun h => absurd h h5, fun _ => ⟨rfl, rfl⟩⟩
            · unfold prt; rw [if_neg h5, jn_shw]; exact H
            · unfold prt; rw [if_neg h5, jn_shw]; omega
          · have h4 : ¬ k = 4 := by omega
            rw [if_neg h4, if_pos h5] at H hm
            have hs := shw_len [58, 32] [44, 32] (l.map (txt d))
            simp only [List.length_append, List.length_cons, List.length_nil] at hm
            refine ⟨[123], [125], ?_, rfl, rfl, ?_, by omega, fun _ => ⟨rfl, rfl⟩, fun h => absurd h5 h⟩
            · unfold prt; rw [if_pos h5, jn_prs]; exact H
            · unfold prt; rw [if_pos h5, jn_prs]; omega
        obtain ⟨a, c, HQ, ha, hc, hjm, hsum, h5a, h5b⟩ := hform
        have hcnt : l.length ≤ 1099511627776 := by
          have := sum_pos (l := l.map (txt d)) (fun a ha => by obtain ⟨y, _, rfl⟩ := List.mem_map.1 ha; exact txt_pos d y)
          rw [List.length_map] at this
          omega
        have hel : ∀ i (hi : i < l.length), (txt d l[i]).length ≤ 1099511627776 := fun i hi => by
          have := sum_mem (l := l.map (txt d)) (a := txt d l[i]) (List.mem_map.2 ⟨_, List.getElem_mem hi, rfl⟩)
          omega
        refine ldL_b c3 ?_
        have hxl := r1.len
        refine M.loop_inv (fun (t : Sl × Int) h2 => ∃ i : Nat, t.2 = (i : Int) ∧ i ≤ l.length ∧ Ext h1 h2 ∧ Gw h1.size h2 t.1 1 ((prt k ((l.take i).map (txt d))).map sv)) (fun t _ => ((l.length : Int) - t.2).toNat) ?_ ⟨0, rfl, Nat.zero_le _, Ext.refl _, by rw [show prt k (((l.take 0).map (txt d))) = [] by unfold prt; split <;> simp [prs]]; exact Gw.nil _ _ _⟩
        rintro ⟨r, t⟩ h2 ⟨i, hti, hi, E2, G⟩ self hself
        have hti : t = (i : Int) := hti
        subst hti
        have G : Gw h1.size h2 r 1 ((prt k ((l.take i).map (txt d))).map sv) := G
        unfold value_text_l1
        rw [hxl]
        have hrl := G.len
        rw [List.length_map, Nat.mul_one] at hrl
        have hrl2 : r.len ≤ i := by
          have : (prt k ((l.take i).map (txt d))).length ≤ i := by
            unfold prt
            split
            · have := prs_len ((l.take i).map (txt d)); rw [List.length_map, List.length_take] at this; omega
            · rw [List.length_map, List.length_take]; omega
          omega
        refine ite_w (fun hlt => ?_) (fun hge => ?_)
        · have hlt : i < l.length := by have := of_decide_eq_true hlt; omega
          refine ixV_b (r1.ext (E.trans E2)) hlt rfl (fun b cs hs hcs hv => ldG_b hs hcs (mkV_b (fun h3 e3 z3 g3 => need_b hs (stR (vs := cs) g3 (by rw [hs]; decide) hv.one (fun h4 u4 g4 => ?_)))))
          rw [lay_full (by rw [Array.length_toList, hs]; rfl), Array.toArray_toList] at g4
          have E4 : Ext h2 h4 := e3.upd u4 (Nat.le_refl _)
          refine ldV_b (v := l[i]) g4 hs ?_
          rw [show IntKind.wrap .i64 (((9 - (d + 1) : Nat) : Int) + 1) = ((9 - d : Nat) : Int) by rw [w64 (by omega) (by omega)]; omega]
          have E24 := E2.trans E4
          refine bind_w (callF_w (S_value_text _ _) (ih l[i] (by omega) (hv.ext E4) (hpE.ext E24) (hdE.ext E24) (hel i hlt) (fun h5 e5 => ?_)))
          have E5 := E24.trans e5
          refine ldI_b (E5.cell c0) ?_
          have hr5 : IntKind.wrap .i64 ((i : Int) + 1) = ((i + 1 : Nat) : Int) := by rw [w64 (by omega) (by omega)]; simp
          have G5 := G.ext (E4.trans e5)
          have htk : (l.take (i + 1)).map (txt d) = (l.take i).map (txt d) ++ [txt d l[i]] := by
            rw [List.take_succ_eq_append_getElem hlt, List.map_append]; rfl
          refine and_b (c := decide (i % 2 = 1)) (fun _ Q' hq => pure_w (by rw [show ((Int.tmod (i : Int) 2) == 1) = decide (i % 2 = 1) by rw [Int.tmod_eq_emod_of_nonneg (by omega), Bool.eq_iff_iff]; simp; omega]; exact hq)) ?_
          refine ite_w (fun hodd => ?_) (fun heven => ?_)
          · obtain ⟨h5k, hodd⟩ : k = 5 ∧ i % 2 = 1 := by simpa using hodd
            obtain ⟨i', rfl⟩ : ∃ i', i = i' + 1 := ⟨i - 1, by omega⟩
            have hti' : (l.take (i' + 1)).map (txt d) = (l.take i').map (txt d) ++ [txt d l[i']] := by
              rw [List.take_succ_eq_append_getElem (by omega), List.map_append]; rfl
            have hlen' : ((l.take i').map (txt d)).length % 2 = 0 := by simp; omega
            have hp1 : prt k ((l.take (i' + 1)).map (txt d)) = prs ((l.take i').map (txt d)) ++ [txt d l[i']] := by
              unfold prt; rw [if_pos h5k, hti', prs_even _ _ hlen']
            have hp2 : prt k ((l.take (i' + 1 + 1)).map (txt d)) = prs ((l.take i').map (txt d)) ++ [txt d l[i'] ++ ([58, 32] ++ txt d l[i' + 1])] := by
              unfold prt; rw [if_pos h5k, htk, hti', List.append_assoc]; exact prs_odd _ _ _ hlen'
            rw [hp1] at G5 hrl
            have hlast : r.len = (prs ((l.take i').map (txt d))).length + 1 := by rw [← G5.len.trans (Nat.mul_one _)]; simp
            have hidx : IntKind.wrap .i64 ((r.len : Int) - 1) = (((prs ((l.take i').map (txt d))).length : Nat) : Int) := by rw [w64 (by omega) (by omega)]; omega
            rw [hidx]
            have hle0 := hel i' (by omega)
            have hle1 := hel (i' + 1) hlt
            refine ixS2 (i := (prs ((l.take i').map (txt d))).length) G5 (by simp) rfl (fun b' hb' hc' hf' => ldS_b hc' ?_)
            have hget : (prs ((l.take i').map (txt d)) ++ [txt d l[i']])[(prs ((l.take i').map (txt d))).length]'(by simp) = txt d l[i'] := by simp
            rw [hget] at hc' ⊢
            refine sCat_b (x := [58, 32]) (by simp; omega) (sCat_b (by simp; omega) ?_)
            refine ixS2 (i := (prs ((l.take i').map (txt d))).length) G5 (by simp) rfl (fun b2 hb2 hc2 hf2 => stV_b hc2 hf2 rfl ?_)
            rw [hb2] at hb'
            cases hb'
            unfold value_text_j2
            rw [hr5]
            refine hself (_, _) _ ⟨i' + 1 + 1, rfl, by omega, ?_, ?_⟩ (by dsimp only; omega)
            · have hb3 : h1.size ≤ b' := (G5.lt ⟨_, hb2, rfl⟩).2
              exact ⟨by rw [hset_size]; exact E5.size, fun j hj => by rw [hset_ne (by show j ≠ b'; omega)]; exact E5.same j hj⟩
            · have := G5.set (v := sv (txt d l[i'] ++ ([58, 32] ++ txt d l[i' + 1]))) (j := (prs ((l.take i').map (txt d))).length) hb2 (by simp)
              dsimp only
              rw [hp2]
              rw [List.map_append, List.set_append_right _ _ (by simp)] at this
              simpa [sv] using this
          · have heven : ¬ (k = 5 ∧ i % 2 = 1) := by simpa using heven
            have hp2 : prt k ((l.take (i + 1)).map (txt d)) = prt k ((l.take i).map (txt d)) ++ [txt d l[i]] := by
              unfold prt
              by_cases h5k : k = 5
              · rw [if_pos h5k, if_pos h5k, htk, prs_even _ _ (by simp; omega)]
              · rw [if_neg h5k, if_neg h5k, htk]
            refine bdL_b ?_
            have e6 := Ext.push h5 (.cells #[.string (bs (txt d l[i]))] ty_string)
            have g6 : (h5.push (.cells #[.string (bs (txt d l[i]))] ty_string))[h5.size]? = some (.cells #[.string (bs (txt d l[i]))] ty_string (0, 0)) := get_push_eq
            generalize h5.push (.cells #[.string (bs (txt d l[i]))] ty_string) = h6 at e6 g6 ⊢
            have E6 := E5.trans e6
            have G6 := G5.ext e6
            refine ap_grow (vs := (prt k ((l.take i).map (txt d))).map sv) (news := [sv (txt d l[i])]) rfl G6 rfl (.inr ⟨_, rfl, fun j v hj => ?_⟩) (fun v hv => by simp at hv; subst hv; rfl) (by dsimp only; omega) (by dsimp only; omega) E6.size (fun h7 r7 G7 hlen7 hs7 same7 on7 => ?_)
            · rw [add_mk, Nat.zero_add, hcell_blk g6]
              rw [show (#[.string (bs (txt d l[i]))] : Array Value) = [sv (txt d l[i])].toArray from rfl]
              simpa using hj
            · unfold value_text_j2
              rw [hr5]
              refine hself (_, _) _ ⟨i + 1, rfl, by omega, ?_, ?_⟩ (by dsimp only; omega)
              · exact ⟨Nat.le_trans E6.size hs7, fun j hj => (same7 j (Nat.lt_of_lt_of_le hj E6.size) (fun ho => by have := (G6.lt ho).2; omega)).trans (E6.same j hj)⟩
              · dsimp only
                rw [hp2, List.map_append]
                exact G7
        · have hge : i = l.length := by have := of_decide_eq_false hge; omega
          subst hge
          rw [List.take_length] at G
          have S : SsAt h2 r (prt k (l.map (txt d))) := ⟨by have := G.len; rw [List.length_map, Nat.mul_one] at this; exact this.symm, G.cap, G.reads⟩
          have hpl : (prt k (l.map (txt d))).length ≤ l.length := by
            unfold prt
            split
            · have := prs_len (l.map (txt d)); simp at this; exact this
            · simp
          refine bind_w (join_spec (sep := [44, 32]) S (by simp) (by simp) (by omega) (by omega) (fun h3 e3 => ?_))
          refine ldI_b ((E2.trans e3).cell c0) (ite_w (fun h5k => ?_) (fun h5k => ?_))
          · have h5k : k = 5 := by simpa using h5k
            obtain ⟨rfl, rfl⟩ := h5a h5k
            exact lit_b (a := [123]) (c := [125]) (by simp; omega) (pure_w (HQ _ ((E.trans E2).trans e3)))
          · have h5k : ¬ k = 5 := by simpa using h5k
            obtain ⟨rfl, rfl⟩ := h5b h5k
            exact lit_b (a := [91]) (c := [93]) (by simp; omega) (pure_w (HQ _ ((E.trans E2).trans e3)))
      · have h45 : ¬ (k = 4 ∨ k = 5) := by simpa using h45
        rw [if_neg (fun h => h45 (.inl h)), if_neg (fun h => h45 (.inr h))] at H
        exact pure_w (H _ E)
    refine ite_w (fun h4k => ?_) (fun h4k => ?_)
    · have h4k : k = 4 := by simpa using h4k
      have e : (k == 4) = decide (k = 4 ∨ k = 5) := by subst h4k; rfl
      rw [e]
      exact j1
    · have h4k : ¬ k = 4 := by simpa using h4k
      have e : (k == 5) = decide (k = 4 ∨ k = 5) := by rw [eqI, Bool.eq_iff_iff]; simp [h4k]
      rw [e]
      exact j1
end Gx
namespace Gx
open Go
set_option linter.unusedVariables false
set_option linter.unusedSimpArgs false
abbrev txV (v : Vl) : List UInt8 := txt 8 v
theorem vText_spec {v : Vl} {h : Heap} {Q : ByteArray → Heap → Prop} {x : Array Value} (hx : VRep h v x) (hp : PowTab h) (hd : DbTab h) (hm : (txV v).length ≤ 1099511627776) (H : ∀ h', Ext h h' → Q (bs (txV v)) h') : (value_Text x).wp h Q := by
  unfold value_Text
  exact mkV_b (fun h1 e1 z1 g1 => ldV_b (v := v) g1 hx.size (bind_w (vtext_spec 8 v (Nat.le_refl _) (hx.ext e1) (hp.ext e1) (hd.ext e1) hm (fun h2 e2 => pure_w (H _ (e1.trans e2))))))
def pick2 (i : Nat) (ev od : List UInt8) : List UInt8 := if i % 2 = 0 then ev else od
theorem shw_step (ev od a : List UInt8) (r : List (List UInt8)) : shw ev od (a :: r) = if r = [] then a else a ++ (ev ++ shw od ev r) := by
  cases r with
  | nil => rfl
  | cons b r => rw [if_neg (by simp)]; rfl
theorem rshows_spec {d : Nat} (hd : d ≤ 7) {l : List Vl} {h : Heap} {Q : ByteArray → Heap → Prop} {x : Sl} {ev od : List UInt8} (hx : VsRep h x l) (he : ev.length = 2) (ho : od.length = 2) (hm : (shw ev od (l.map (txt d))).length ≤ 1099511627776)
    (hg : ∀ j (hj : j < l.length) h1 c (Q1 : ByteArray → Heap → Prop), Ext h h1 → VRep h1 l[j] c → (∀ h2, Ext h1 h2 → Q1 (bs (txt d l[j])) h2) → (rambleref02_show c ((8 - d : Nat) : Int)).wp h1 Q1)
    (H : ∀ h', Ext h h' → Q (bs (shw ev od (l.map (txt d)))) h') : (rambleref02_shows x ((8 - (d + 1) : Nat) : Int) (bs ev) (bs od)).wp h Q := by
  unfold rambleref02_shows
  have hxl := hx.len
  have hxb := hx.big
  have hxc := hx.cap
  have hsum := shw_len ev od (l.map (txt d))
  have hcnt : l.length ≤ 1099511627776 := by
    have := sum_pos (l := l.map (txt d)) (fun a ha => by obtain ⟨y, _, rfl⟩ := List.mem_map.1 ha; exact txt_pos d y)
    rw [List.length_map] at this
    omega
  refine M.loop_inv (fun (t : ByteArray × Int) h' => Ext h h' ∧ ∃ (i : Nat) (s : List UInt8), t = (bs s, (i : Int)) ∧ i ≤ l.length ∧ s ++ shw (pick2 i ev od) (pick2 (i + 1) ev od) ((l.drop i).map (txt d)) = shw ev od (l.map (txt d))) (fun t _ => ((l.length : Int) - t.2).toNat) ?_ ⟨Ext.refl h, 0, [], rfl, Nat.zero_le _, by simp [pick2]⟩
  rintro t h' ⟨E, i, s, rfl, hi, hs⟩ self hself
  unfold rambleref02_shows_l1
  rw [hxl]
  have hls : s.length ≤ 1099511627776 := by rw [← hs, List.length_append] at hm; omega
  refine ite_w (fun hc => ?_) (fun hc => ?_)
  · have hlt : i < l.length := by have := of_decide_eq_true hc; omega
    have hti : (txt d l[i]).length ≤ 1099511627776 := by
      have := sum_mem (l := l.map (txt d)) (a := txt d l[i]) (List.mem_map.2 ⟨_, List.getElem_mem hlt, rfl⟩)
      omega
    rw [List.drop_eq_getElem_cons hlt, List.map_cons, shw_step] at hs
    refine ixV_b (hx.ext E) hlt rfl (fun a c hs' hcs hv => ldG_b hs' hcs ?_)
    rw [show IntKind.wrap .i64 (((8 - (d + 1) : Nat) : Int) + 1) = ((8 - d : Nat) : Int) by rw [w64 (by omega) (by omega)]; omega]
    refine bind_w (callF_w (S_rambleref02_show _ _) (hg i hlt h' c _ E hv (fun h2 e2 => ?_)))
    refine sCat_b (by omega) ?_
    rw [show IntKind.wrap .i64 ((i : Int) + 1) = ((i + 1 : Nat) : Int) by rw [w64 (by omega) (by omega)]; simp]
    have hnext : ∀ s', s' ++ shw (pick2 (i + 1) ev od) (pick2 (i + 1 + 1) ev od) ((l.drop (i + 1)).map (txt d)) = shw ev od (l.map (txt d)) → (rambleref02_shows_j1 self (i : Int) (bs s')).wp h2 Q := fun s' h' => by
      unfold rambleref02_shows_j1
      rw [show IntKind.wrap .i64 ((i : Int) + 1) = ((i + 1 : Nat) : Int) by rw [w64 (by omega) (by omega)]; simp]
      exact hself _ _ ⟨E.trans e2, i + 1, s', rfl, by omega, h'⟩ (by dsimp only; omega)
    have hpk : pick2 (i + 1 + 1) ev od = pick2 i ev od := by unfold pick2; rw [show (i + 1 + 1) % 2 = i % 2 by omega]
    rw [hpk] at hnext
    refine and_b (c := decide (i % 2 = 0)) (fun _ Q' hq => pure_w (by rw [show ((Int.tmod (i : Int) 2) == 0) = decide (i % 2 = 0) by rw [Int.tmod_eq_emod_of_nonneg (by omega), Bool.eq_iff_iff]; simp; omega]; exact hq)) ?_
    by_cases hmore : i + 1 < l.length
    · have hne : (l.drop (i + 1)).map (txt d) ≠ [] := by
        intro h0
        have : (l.drop (i + 1)).length = 0 := by simpa using congrArg List.length h0
        simp at this; omega
      rw [if_neg hne] at hs
      refine ite_w (fun hev => ?_) (fun hev => ?_)
      · have hev : i % 2 = 0 := by have := hev; simp at this; exact this.2
        refine sCat_b (by simp; omega) (hnext _ ?_)
        rw [← hs]
        have : pick2 i ev od = ev := by unfold pick2; rw [if_pos hev]
        rw [this]; simp
      · have hev : ¬ i % 2 = 0 := by
          intro h0
          have h1 : decide (((i + 1 : Nat) : Int) < (l.length : Int)) = true := by simp; omega
          rw [h1, decide_eq_true h0] at hev
          cases hev
        refine iteT (by simp; omega) (sCat_b (by simp; omega) (hnext _ ?_))
        rw [← hs]
        have : pick2 i ev od = od := by unfold pick2; rw [if_neg hev]
        rw [this]; simp
    · have h0 : (l.drop (i + 1)).map (txt d) = [] := by rw [List.drop_eq_nil_iff.2 (by omega)]; rfl
      rw [if_pos h0] at hs
      have hf : decide (((i + 1 : Nat) : Int) < (l.length : Int)) = false := by simp; omega
      rw [hf]
      refine iteF rfl (iteF rfl (hnext _ ?_))
      rw [h0, ← hs]; simp [shw]
  · have hge : i = l.length := by have := of_decide_eq_false hc; omega
    subst hge
    rw [List.drop_length] at hs
    have := H _ E
    rw [← hs] at this
    exact pure_w (by simpa [shw] using this)
theorem rshow_spec : ∀ (d : Nat) (v : Vl) {h : Heap} {Q : ByteArray → Heap → Prop} {x : Array Value}, d ≤ 8 → VRep h v x → (txt d v).length ≤ 1099511627776 → (∀ h', Ext h h' → Q (bs (txt d v)) h') → (rambleref02_show x ((8 - d : Nat) : Int)).wp h Q := by
  intro d
  induction d with
  | zero =>
    rintro v h Q x _ hx _ H
    unfold rambleref02_show
    exact mkV_b (fun h1 e1 z1 g1 => iteT rfl (pure_w (H _ e1)))
  | succ d ih =>
    rintro ⟨k, n, s, l⟩ h Q x hd hx hm H
    obtain ⟨xs, rfl, k1, n1, s1, r1⟩ := VRep.eq.1 hx
    unfold rambleref02_show
    refine mkV_b (fun h1 E z1 g1 => ?_)
    have c0 : hcell h1 ((⟨h.size, 0, none⟩ : Addr).add 0) = some (.int .i64 k) := by rw [blk_cell g1]; rfl
    have c1 : hcell h1 ((⟨h.size, 0, none⟩ : Addr).add 1) = some (.int .i64 n) := by rw [blk_cell g1]; rfl
    have c2 : hcell h1 ((⟨h.size, 0, none⟩ : Addr).add 2) = some (.string (bs s)) := by rw [blk_cell g1]; rfl
    have c3 : hcell h1 ((⟨h.size, 0, none⟩ : Addr).add 3) = some xs.v := by rw [blk_cell g1]; rfl
    have hil := itoa_len n1
    refine iteF (by simp; omega) (ldI_b c0 (ite_w (fun h1k => ?_) (fun h1k => ?_)))
    · have h1k : k = 1 := by simpa using h1k
      unfold txt at H
      rw [if_pos h1k] at H
      exact ldI_b c1 (bind_w (rtext1_spec n1 (fun h2 e2 => pure_w (H _ (E.trans e2)))))
    have h1k : ¬ k = 1 := by simpa using h1k
    unfold txt at H hm
    rw [if_neg h1k] at H hm
    refine ite_w (fun h2k => ?_) (fun h2k => ?_)
    · have h2k : k = 2 := by simpa using h2k
      rw [if_pos h2k] at H hm
      exact ldS_b c2 (bind_w (rquote_spec (by omega) (fun h2 e2 => pure_w (H _ (E.trans e2)))))
    have h2k : ¬ k = 2 := by simpa using h2k
    rw [if_neg h2k] at H hm
    refine ite_w (fun h3k => ?_) (fun h3k => ?_)
    · have h3k : k = 3 := by simpa using h3k
      rw [if_pos h3k] at H
      refine ldI_b c1 (ite_w (fun hn => ?_) (fun hn => ?_))
      · have hn : n = 1 := by simpa using hn
        rw [if_pos hn] at H
        exact pure_w (H _ E)
      · have hn : ¬ n = 1 := by simpa using hn
        rw [if_neg hn] at H
        exact pure_w (H _ E)
    have h3k : ¬ k = 3 := by simpa using h3k
    rw [if_neg h3k] at H hm
    refine ite_w (fun h6k => ?_) (fun h6k => ?_)
    · have h6k : k = 6 := by simpa using h6k
      rw [if_pos h6k] at H
      exact ldI_b c1 (bind_w (rtext1_spec n1 (fun h2 e2 => lit_b (a := [118, 91]) (c := [93]) (by simp; omega) (pure_w (H _ (E.trans e2))))))
    have h6k : ¬ k = 6 := by simpa using h6k
    rw [if_neg h6k] at H hm
    refine ite_w (fun h7k => ?_) (fun h7k => ?_)
    · have h7k : k = 7 := by simpa using h7k
      rw [if_pos h7k] at H
      exact ldI_b c1 (bind_w (rtext1_spec n1 (fun h2 e2 => lit_b (a := [101, 91]) (c := [93]) (by simp; omega) (pure_w (H _ (E.trans e2))))))
    have h7k : ¬ k = 7 := by simpa using h7k
    rw [if_neg h7k] at H hm
    refine ite_w (fun h4k => ?_) (fun h4k => ?_)
    · have h4k : k = 4 := by simpa using h4k
      rw [if_pos h4k] at H hm
      simp only [List.length_append, List.length_cons, List.length_nil] at hm
      exact ldL_b c3 (bind_w (callF_w (S_rambleref02_shows _ _ _ _) (rshows_spec (d := d) (by omega) (ev := [44, 32]) (od := [44, 32]) (r1.ext E) rfl rfl (by omega) (fun j hj h4 c Q1 e4 hv hq => ih _ (by omega) hv (by have := sum_mem (l := l.map (txt d)) (a := txt d l[j]) (List.mem_map.2 ⟨_, List.getElem_mem hj, rfl⟩); have := shw_len [44, 32] [44, 32] (l.map (txt d)); omega) hq) (fun h2 e2 => lit_b (a := [91]) (c := [93]) (by simp; omega) (pure_w (H _ (E.trans e2)))))))
    have h4k : ¬ k = 4 := by simpa using h4k
    rw [if_neg h4k] at H hm
    refine ite_w (fun h5k => ?_) (fun h5k => ?_)
    · have h5k : k = 5 := by simpa using h5k
      rw [if_pos h5k] at H hm
      simp only [List.length_append, List.length_cons, List.length_nil] at hm
      exact ldL_b c3 (bind_w (callF_w (S_rambleref02_shows _ _ _ _) (rshows_spec (d := d) (by omega) (ev := [58, 32]) (od := [44, 32]) (r1.ext E) rfl rfl (by omega) (fun j hj h4 c Q1 e4 hv hq => ih _ (by omega) hv (by have := sum_mem (l := l.map (txt d)) (a := txt d l[j]) (List.mem_map.2 ⟨_, List.getElem_mem hj, rfl⟩); have := shw_len [58, 32] [44, 32] (l.map (txt d)); omega) hq) (fun h2 e2 => lit_b (a := [123]) (c := [125]) (by simp; omega) (pure_w (H _ (E.trans e2)))))))
    · have h5k : ¬ k = 5 := by simpa using h5k
      rw [if_neg h5k] at H
      exact pure_w (H _ E)
theorem rText_spec {v : Vl} {h : Heap} {Q : ByteArray → Heap → Prop} {x : Array Value} (hx : VRep h v x) (hm : (txV v).length ≤ 1099511627776) (H : ∀ h', Ext h h' → Q (bs (txV v)) h') : (rambleref02_Text x).wp h Q := by
  unfold rambleref02_Text
  exact mkV_b (fun h1 e1 z1 g1 => ldV_b (v := v) g1 hx.size (bind_w (rshow_spec 8 v (Nat.le_refl _) (hx.ext e1) hm (fun h2 e2 => pure_w (H _ (e1.trans e2))))))
end Gx
namespace Gx
open Go
set_option linter.unusedVariables false
set_option linter.unusedSimpArgs false
/-! ### Columns: the keys, each once, rising -/
def evens : List Vl → List Vl
  | [] => []
  | [a] => [a]
  | a :: _ :: r => a :: evens r
theorem evens_len : ∀ l : List Vl, (evens l).length = (l.length + 1) / 2
  | [] => by simp [evens]
  | [a] => by simp [evens]
  | a :: b :: r => by rw [evens, List.length_cons, evens_len r, List.length_cons, List.length_cons]; omega
theorem evens_get : ∀ (l : List Vl) (i : Nat) (h : 2 * i < l.length) (h' : i < (evens l).length), (evens l)[i] = l[2 * i]
  | [], i, h, _ => by simp at h
  | [a], i, h, h' => by
    have : i = 0 := by simp at h; omega
    subst this; simp [evens]
  | a :: b :: r, 0, h, h' => by simp [evens]
  | a :: b :: r, i + 1, h, h' => by
    have h2 : 2 * i < r.length := by simp at h; omega
    have ih := evens_get r i h2 (by rw [evens_len]; omega)
    simp only [evens, List.getElem_cons_succ]
    rw [ih]
    simp only [show 2 * (i + 1) = 2 * i + 1 + 1 by omega, List.getElem_cons_succ]
theorem evens_mem {l : List Vl} {v : Vl} (h : v ∈ evens l) : v ∈ l := by
  obtain ⟨i, hi, rfl⟩ := List.getElem_of_mem h
  rw [evens_get l i (by rw [evens_len] at hi; omega) hi]
  exact List.getElem_mem _
def Inc (l : List Vl) : Prop := l.Pairwise (fun a b => cmpV a b < 0)
theorem cpt_inc : ∀ l : List Vl, l.Pairwise (fun a b => ¬ cmpV b a < 0) → Inc (cpt l) ∧ ∀ x, x ∈ cpt l ↔ x ∈ l
  | [], _ => ⟨List.Pairwise.nil, fun x => Iff.rfl⟩
  | [a], _ => ⟨List.pairwise_singleton _ _, fun x => Iff.rfl⟩
  | a :: b :: r, h => by
    rw [List.pairwise_cons] at h
    obtain ⟨i1, i2⟩ := cpt_inc (b :: r) h.2
    rw [cpt]
    by_cases hc : cmpV b a = 0
    · have := (cmpV_eq b a).1 hc
      subst this
      rw [if_pos hc]
      exact ⟨i1, fun x => by rw [i2]; simp⟩
    · rw [if_neg hc]
      refine ⟨List.pairwise_cons.2 ⟨fun x hx => ?_, i1⟩, fun x => by rw [List.mem_cons, i2, List.mem_cons (a := x) (b := a)]⟩
      have hx := (i2 x).1 hx
      have hb : cmpV a b < 0 := by
        have := h.1 b (by simp)
        have := cmpV_anti a b
        omega
      rcases List.mem_cons.1 hx with rfl | hx'
      · exact hb
      · have h2 := (List.pairwise_cons.1 h.2).1 x hx'
        have h3 := cmpV_anti b x
        by_cases h4 : cmpV b x = 0
        · rw [← (cmpV_eq b x).1 h4]; exact hb
        · exact cmpV_trans hb (by omega)
theorem Inc.head {a b : Vl} {l : List Vl} (h : Inc (a :: l)) (hb : b ∈ l) : cmpV a b < 0 := (List.pairwise_cons.1 h).1 b hb
theorem Inc.uniq : ∀ {a b : List Vl}, Inc a → Inc b → (∀ x, x ∈ a ↔ x ∈ b) → a = b
  | [], [], _, _, _ => rfl
  | [], y :: b, _, _, h => by have := (h y).2 (by simp); cases this
  | x :: a, [], _, _, h => by have := (h x).1 (by simp); cases this
  | x :: a, y :: b, ha, hb, h => by
    have hxy : x = y := by
      rcases List.mem_cons.1 ((h x).1 (by simp)) with e | e
      · exact e
      · rcases List.mem_cons.1 ((h y).2 (by simp)) with e' | e'
        · exact e'.symm
        · have h1 := hb.head e
          have h2 := ha.head e'
          have := cmpV_anti x y
          omega
    subst hxy
    have : a = b := Inc.uniq (List.pairwise_cons.1 ha).2 (List.pairwise_cons.1 hb).2 (fun z => by
      constructor
      · intro hz
        rcases List.mem_cons.1 ((h z).1 (List.mem_cons_of_mem _ hz)) with e | e
        · subst e
          have := ha.head hz
          rw [cmpV_self] at this; omega
        · exact e
      · intro hz
        rcases List.mem_cons.1 ((h z).2 (List.mem_cons_of_mem _ hz)) with e | e
        · subst e
          have := hb.head hz
          rw [cmpV_self] at this; omega
        · exact e)
    rw [this]
/-! ### The text of a table -/
def keysOf (l : List Vl) : List Vl := l.flatMap (fun v => evens v.l)
def okTab (l : List Vl) : Bool := l.all (fun v => decide (v.k = 5) && (evens v.l).all (fun k => decide (k.k = 2)))
def lineT (ps : List (List UInt8)) : List UInt8 := jn [32, 124, 32] ps ++ [10]
def cellT (v k : Vl) : List UInt8 := match getV k v.l with | some x => txV x | none => [45]
def tabT (C l : List Vl) : List UInt8 := lineT (C.map txV) ++ l.flatMap (fun v => lineT (C.map (cellT v)))
/-- the columns: there is one such list -/
def Cols (l C : List Vl) : Prop := Inc C ∧ ∀ x, x ∈ C ↔ x ∈ keysOf l
theorem Cols.uniq {l C C' : List Vl} (h : Cols l C) (h' : Cols l C') : C = C' := Inc.uniq h.1 h'.1 (fun x => (h.2 x).trans (h'.2 x).symm)
end Gx
namespace Gx
open Go
set_option linter.unusedVariables false
set_option linter.unusedSimpArgs false
/-! ### result.Table: the keys are gathered -/
theorem shut_spec : ∀ {xm : List Nat} {h : Heap} {Q : Unit → Heap → Prop}, xm.Nodup → (∀ b ∈ xm, h[b]? = some (.deferred (some []))) → (∀ h', h'.size = h.size → (∀ i, i ∉ xm → h'[i]? = h[i]?) → Q () h') → (shut xm).wp h Q
  | [], h, Q, _, _, H => H h rfl (fun i _ => rfl)
  | b :: r, h, Q, nd, hd, H => by
    rw [List.nodup_cons] at nd
    refine ⟨hd b (by simp), shut_spec nd.2 (fun c hc => ?_) (fun h' hs he => H h' (by rw [hs]; simp) (fun i hi => ?_))⟩
    · rw [Array.getElem?_setIfInBounds, if_neg (fun e => nd.1 (by rw [e]; exact hc))]
      exact hd c (List.mem_cons_of_mem _ hc)
    · rw [he i (fun h => hi (List.mem_cons_of_mem _ h)), Array.getElem?_setIfInBounds, if_neg (fun e => hi (by rw [e]; simp))]
/-- what stands while the keys are gathered -/
structure TJ (h0 : Heap) (b2 b3 b5 : Nat) (xm : List Nat) (L : Nat → Prop) (K : List Vl) (h : Heap) : Prop where
  ext : Ext h0 h
  c2 : ∃ s, h[b2]? = some (.cells #[.string s] ty_string (0, 0))
  c3 : ∃ n, h[b3]? = some (.cells #[.int .i64 n] ty_api_Errno (0, 0))
  c5 : ∃ r css, h[b5]? = some (.cells #[r.v] ty_sl_api_Value (0, 0)) ∧ VGw (b5 + 1) (· < h0.size) h r css K ∧ ∀ i, L i → ¬ Sl.on r i
  df : ∀ b ∈ xm, h[b]? = some (.deferred (some []))
structure Blks (h0 : Heap) (b2 b3 b5 : Nat) : Prop where
  l2 : h0.size ≤ b2
  l3 : b2 < b3
  l5 : b3 < b5
theorem TJ.more {h0 h h' : Heap} {b2 b3 b5 : Nat} {L : Nat → Prop} {xm : List Nat} {K : List Vl} (T : TJ h0 b2 b3 b5 xm L K h) (e : Ext h h') : TJ h0 b2 b3 b5 xm L K h' := by
  obtain ⟨s, c2⟩ := T.c2
  obtain ⟨n, c3⟩ := T.c3
  obtain ⟨r, css, c5, G, off⟩ := T.c5
  exact ⟨T.ext.trans e, ⟨s, e.blk c2⟩, ⟨n, e.blk c3⟩, ⟨r, css, e.blk c5, G.same (fun b hb => e.same b (G.gw.lt hb).1) (fun b hb => e.same b (Nat.lt_of_lt_of_le hb T.ext.size)), off⟩, fun b hb => e.blk (T.df b hb)⟩
theorem TJ.upd {h0 h h' : Heap} {b2 b3 b5 lp : Nat} {L : Nat → Prop} {xm : List Nat} {K : List Vl} (B : Blks h0 b2 b3 b5) (T : TJ h0 b2 b3 b5 xm L K h) (u : Upd lp h h') (hL : L lp) (hlp : b5 < lp) (hx : lp ∉ xm) : TJ h0 b2 b3 b5 xm L K h' := by
  obtain ⟨s, c2⟩ := T.c2
  obtain ⟨n, c3⟩ := T.c3
  obtain ⟨r, css, c5, G, off⟩ := T.c5
  have := B.l2; have := B.l3; have := B.l5
  exact ⟨T.ext.upd u (by omega), ⟨s, (u.ne _ (by omega)).trans c2⟩, ⟨n, (u.ne _ (by omega)).trans c3⟩, ⟨r, css, (u.ne _ (by omega)).trans c5, G.same (fun b hb => u.ne b (fun e => off lp hL (e ▸ hb))) (fun b hb => u.ne b (by omega)), off⟩, fun b hb => (u.ne b (fun e => hx (e ▸ hb))).trans (T.df b hb)⟩
/-- other blocks that are none of the row's -/
theorem TJ.lp {h0 h : Heap} {b2 b3 b5 : Nat} {L L' : Nat → Prop} {xm : List Nat} {K : List Vl} (T : TJ h0 b2 b3 b5 xm L K h) (h1 : ∀ r css, VGw (b5 + 1) (· < h0.size) h r css K → (∀ i, L i → ¬ Sl.on r i) → ∀ i, L' i → ¬ Sl.on r i) : TJ h0 b2 b3 b5 xm L' K h := by
  obtain ⟨r, css, c5, G, off⟩ := T.c5
  exact ⟨T.ext, T.c2, T.c3, ⟨r, css, c5, G, h1 r css G off⟩, T.df⟩
theorem TJ.xs {h0 h : Heap} {b2 b3 b5 : Nat} {L : Nat → Prop} {xm xm' : List Nat} {K : List Vl} (T : TJ h0 b2 b3 b5 xm L K h) (h1 : ∀ b ∈ xm', h[b]? = some (.deferred (some []))) : TJ h0 b2 b3 b5 xm' L K h :=
  ⟨T.ext, T.c2, T.c3, T.c5, h1⟩
theorem one_cell {h : Heap} {b : Nat} {v : Value} {t : TypeId} {z : Nat × Nat} (hb : h[b]? = some (.cells #[v] t z)) : hcell h ⟨b, 0, none⟩ = some v := by rw [hcell_blk hb]; rfl
theorem set_one {h : Heap} {b : Nat} {v u : Value} {t : TypeId} (hb : h[b]? = some (.cells #[v] t (0, 0))) : (hset h ⟨b, 0, none⟩ u)[b]? = some (.cells #[u] t (0, 0)) := by rw [hset_at hb]; rfl
/-- the table is refused -/
structure TE (h0 : Heap) (b2 b3 : Nat) (xm : List Nat) (h : Heap) : Prop where
  ext : Ext h0 h
  c2 : h[b2]? = some (.cells #[.string ByteArray.empty] ty_string (0, 0))
  c3 : h[b3]? = some (.cells #[.int .i64 21] ty_api_Errno (0, 0))
  df : ∀ b ∈ xm, h[b]? = some (.deferred (some []))
theorem refuse_b {β : Type} {h0 h : Heap} {b2 b3 b5 : Nat} {L : Nat → Prop} {xm : List Nat} {K : List Vl} {Q : β → Heap → Prop} {f : Unit → M β} (B : Blks h0 b2 b3 b5) (T : TJ h0 b2 b3 b5 xm L K h)
    (H : ∀ h', TE h0 b2 b3 xm h' → (∀ i, i ≠ b2 → i ≠ b3 → h'[i]? = h[i]?) → (f ()).wp h' Q) : (stV ⟨b2, 0, none⟩ (.string ByteArray.empty) >>= fun _ => stV ⟨b3, 0, none⟩ (.int .i64 21) >>= f).wp h Q := by
  obtain ⟨s, c2⟩ := T.c2
  obtain ⟨n, c3⟩ := T.c3
  have := B.l2; have := B.l3
  refine stV_b (one_cell c2) (hfrozen_blk c2) rfl ?_
  have u1 := Upd.hset h b2 0 (.string ByteArray.empty)
  have d2 := set_one (u := .string ByteArray.empty) c2
  generalize hset h ⟨b2, 0, none⟩ (.string ByteArray.empty) = h1 at u1 d2 ⊢
  have c3' : h1[b3]? = _ := (u1.ne _ (by omega)).trans c3
  refine stV_b (one_cell c3') (hfrozen_blk c3') rfl ?_
  have u2 := Upd.hset h1 b3 0 (.int .i64 21)
  have d3 := set_one (u := .int .i64 21) c3'
  generalize hset h1 ⟨b3, 0, none⟩ (.int .i64 21) = h2 at u2 d3 ⊢
  have hne : ∀ i, i ≠ b2 → i ≠ b3 → h2[i]? = h[i]? := fun i i2 i3 => (u2.ne i i3).trans (u1.ne i i2)
  refine H h2 ⟨(T.ext.upd u1 (by omega)).upd u2 (by omega), (u2.ne _ (by omega)).trans d2, d3, fun b hb => ?_⟩ hne
  have hd := T.df b hb
  rw [hne b (fun e => by rw [e, c2] at hd; cases hd) (fun e => by rw [e, c3] at hd; cases hd)]
  exact hd
/-- a value put into a row, at its address -/
theorem vst_b {β : Type} {lo : Nat} {h : Heap} {Q : β → Heap → Prop} {r : Sl} {css : List (Array Value)} {i b : Nat} {c : Array Value} {f : Unit → M β} (G : Gw lo h r 4 (flat4 css)) (hw : W4 css) (hi : i < css.length) (hb : r.base = some ⟨b, 0, none⟩) (hc : c.size = 4) (h1 : ∀ u ∈ c.toList, one u = true)
    (H : ∀ h', Upd b h h' → Gw lo h' r 4 (flat4 (css.set i c)) → (f ()).wp h' Q) : (stG ⟨b, i * 4, none⟩ c >>= f).wp h Q := by
  have hl := G.len4 hw
  have key : (stG ⟨b, i * 4, none⟩ c >>= f).wp h Q := by
    obtain ⟨b', hb', hon, _⟩ := G.row4 hw hi
    rw [hb] at hb'; cases hb'
    obtain ⟨a, ⟨h0, h2, b2, hb2, rfl⟩, H2⟩ := vset_b (Q := Q) (f := f) (t := (i : Int)) G hw hi rfl hc h1 (fun b3 h' hb3 u G' => by rw [hb] at hb3; cases hb3; exact H h' u G')
    rw [hb] at hb2; cases hb2
    rw [add_mk, show 0 + (i : Int).toNat * 4 = i * 4 by omega] at H2
    exact H2.2
  exact key
theorem VGw.set {lo : Nat} {S : Nat → Prop} {h h' : Heap} {r : Sl} {css : List (Array Value)} {l : List Vl} {i : Nat} {c : Array Value} {k : Vl} (G : VGw lo S h r css l) (G' : Gw lo h' r 4 (flat4 (css.set i c))) (hc : VRepS S h' k c) (e : ∀ b, S b → h'[b]? = h[b]?) : VGw lo S h' r (css.set i c) (l.set i k) :=
  ⟨G', G.w4.set hc.size hc.to.one, by rw [List.length_set, List.length_set]; exact G.len, fun j h1 h2 => by
    by_cases hij : i = j
    · subst hij
      rw [List.getElem_set_self, List.getElem_set_self]; exact hc
    · rw [List.getElem_set_ne hij, List.getElem_set_ne hij]
      exact (G.rep j (by simpa using h1) (by simpa using h2)).same e⟩
/-- a key is put behind -/
theorem key_b {h0 h : Heap} {b2 b3 b5 : Nat} {L : Nat → Prop} {xm : List Nat} {K : List Vl} {k : Vl} {c : Array Value} {a : Addr} {Q : Nat → Heap → Prop} (B : Blks h0 b2 b3 b5) (T : TJ h0 b2 b3 b5 xm L K h) (hL : ∀ i, L i → i < h.size) (hK : K.length ≤ 1048576) (hc : VRepS (· < h0.size) h k c) (ha : a.block < h0.size ∧ ∀ j, j < 4 → hcell h (a.add j) = c[j]?)
    (H : ∀ h', TJ h0 b2 b3 b5 xm L (K ++ [k]) h' → h.size ≤ h'.size → (∀ i, L i → i ≠ b5 → h'[i]? = h[i]?) → Q 0 h') :
    ((do
      let x36_57 ← ldL ⟨b5, 0, none⟩
      let x39_58 ← ldG 4 a
      let y_60 ← fillL 4 1 (#[.int .i64 0, .int .i64 0, .string ByteArray.empty, .slice none 0 0] : Array Value) [(0, .agg (#[.int .i64 0, .int .i64 0, .string ByteArray.empty, .slice none 0 0] : Array Value))]
      let x41_59 ← bdL ty_api_Value 1 y_60
      chk (fun h : Heap => (hcell h ⟨b5, 0, none⟩ = some ((x36_57 : Sl).v)) ∧ (x39_58.size = 4 ∧ ∀ i, i < 4 → hcell h (Addr.add a i) = x39_58[i]?))
      let x42_61 ← apL ty_api_Value 4 56 (#[.int .i64 0, .int .i64 0, .string ByteArray.empty, .slice none 0 0] : Array Value) x36_57 x41_59
      let x43_62 ← ixL x42_61 (x36_57.len : Int) 4
      let y_67 ← do
        M.both (do
          M.need (x39_58.size = 4)
          stG x43_62 x39_58
          stV ⟨b5, 0, none⟩ ((x42_61 : Sl).v)
          M.pure ()
          ) (do
          stV ⟨b5, 0, none⟩ ((x42_61 : Sl).v)
          M.need (x39_58.size = 4)
          stG x43_62 x39_58
          M.pure ()
          )
      M.pure 0) : M Nat).wp h Q := by
  obtain ⟨r, css, c5, G, off⟩ := T.c5
  have hB := B.l2; have hB3 := B.l3; have hB5 := B.l5
  refine ldL_b (one_cell c5) (ldG_b hc.size ha.2 (fillL1_b rfl (bdL_b ?_)))
  have e1 := Ext.push h (.cells (#[.int .i64 0, .int .i64 0, .string ByteArray.empty, .slice none 0 0] : Array Value) ty_api_Value)
  have g1 : (h.push (.cells (#[.int .i64 0, .int .i64 0, .string ByteArray.empty, .slice none 0 0] : Array Value) ty_api_Value))[h.size]? = some (.cells (#[.int .i64 0, .int .i64 0, .string ByteArray.empty, .slice none 0 0] : Array Value) ty_api_Value (0, 0)) := get_push_eq
  have s1 : (h.push (.cells (#[.int .i64 0, .int .i64 0, .string ByteArray.empty, .slice none 0 0] : Array Value) ty_api_Value)).size = h.size + 1 := by simp
  generalize h.push (.cells (#[.int .i64 0, .int .i64 0, .string ByteArray.empty, .slice none 0 0] : Array Value) ty_api_Value) = h1 at e1 g1 s1 ⊢
  have c51 := e1.blk c5
  have hlt5 := blk_lt c5
  have hac : ∀ j, j < 4 → hcell h1 (a.add j) = c[j]? := fun j hj => by
    have h2 := ha.2 j hj
    have h3 : c[j]? = some (c[j]'(by rw [hc.size]; exact hj)) := Array.getElem?_eq_getElem _
    rw [h3] at h2 ⊢
    exact e1.cell h2
  refine chk_b ⟨one_cell c51, hc.size, hac⟩ ?_
  have hrl := G.gw.len4 G.w4
  have hgl := G.len
  have hons : ∀ b, Sl.on r b → b5 + 1 ≤ b ∧ b < h.size := fun b hb => ⟨(G.gw.lt hb).2, (G.gw.lt hb).1⟩
  have hES : ∀ b, b < h0.size → b < h.size := fun b hb => Nat.lt_of_lt_of_le hb T.ext.size
  have G1 : VGw (b5 + 1) (· < h0.size) h1 r css K := G.same (fun b hb => e1.same b (G.gw.lt hb).1) (fun b hb => e1.same b (hES b hb))
  refine bind_w (vap_grow (l' := [vl0]) (css' := [(#[.int .i64 0, .int .i64 0, .string ByteArray.empty, .slice none 0 0] : Array Value)]) G1 (by omega) (fun b hb => ⟨by have := hES b hb; omega, fun ho => by have := (hons b ho).1; omega⟩) (fun c' hc' => by simp at hc'; subst hc'; exact ⟨rfl, fun u hu => by simp at hu; rcases hu with rfl | rfl | rfl | rfl <;> rfl⟩) rfl rfl (.inr ⟨_, rfl, fun j v hj => ?_⟩) (fun j j1 j2 => by
      have : j = 0 := by simp at j1; exact j1
      subst this
      exact vl0_rep _ _) (by simp; omega) (fun h2 r2 G2 hs same on_ => ?_))
  · rw [add_mk, Nat.zero_add, hcell_blk g1]
    simpa [flat4] using hj
  have hrl2 := G2.gw.len4 G2.w4
  rw [List.length_append] at hrl2
  have hi2 : css.length < (css ++ [(#[.int .i64 0, .int .i64 0, .string ByteArray.empty, .slice none 0 0] : Array Value)]).length := by simp
  obtain ⟨b, hb, hon, _⟩ := G2.gw.row4 G2.w4 hi2
  refine ixL_b (by omega) (by rw [hrl2, hrl]; simp; omega) hb ?_
  rw [hrl, add_mk, show 0 + ((css.length : Nat) : Int).toNat * 4 = css.length * 4 by omega]
  have hbne : b ≠ b5 ∧ b5 + 1 ≤ b := by have := (G2.gw.lt hon).2; omega
  have hnlp : ∀ i, L i → ¬ Sl.on r2 i := fun i hi ho => (on_ i ho).elim (off i hi) (fun h => by have := hL i hi; omega)
  have E2 : Ext h0 h2 := ⟨by have := T.ext.size; omega, fun i hi => (same i (by have := hES i hi; omega) (fun ho => by have := (hons i ho).1; omega)).trans ((e1.same i (hES i hi)).trans (T.ext.same i hi))⟩
  have c52 : h2[b5]? = some (.cells #[r.v] ty_sl_api_Value (0, 0)) := by rw [same b5 (by omega) (fun ho => by have := (hons b5 ho).1; omega)]; exact c51
  -- whichever store is the first
  have fin : ∀ h' , h'.size = h2.size → (∀ i, i ≠ b → i ≠ b5 → h'[i]? = h2[i]?) → h'[b5]? = some (.cells #[r2.v] ty_sl_api_Value (0, 0)) → Gw (b5 + 1) h' r2 4 (flat4 ((css ++ [(#[.int .i64 0, .int .i64 0, .string ByteArray.empty, .slice none 0 0] : Array Value)]).set css.length c)) → Q 0 h' := fun h' z1 z2 z3 z4 => by
    have hcc : VRepS (· < h0.size) h' k c := hc.same (fun i hi => (z2 i (by have := hbne.2; omega) (by omega)).trans ((same i (by have := hES i hi; omega) (fun ho => by have := (hons i ho).1; omega)).trans (e1.same i (hES i hi))))
    have GG := G2.set (i := css.length) (k := k) z4 hcc (fun i hi => z2 i (by have := hbne.2; omega) (by omega))
    rw [List.set_append_right _ _ (Nat.le_refl _), Nat.sub_self, hgl, List.set_append_right _ _ (Nat.le_refl _), Nat.sub_self] at GG
    obtain ⟨sx, c2⟩ := T.c2
    obtain ⟨n, c3⟩ := T.c3
    have hkeep : ∀ i, i < h.size → i ≠ b5 → ¬ Sl.on r i → h'[i]? = h[i]? := fun i hi hi5 hno => by
      have : i ≠ b := fun e => (on_ i (e ▸ hon)).elim hno (fun h => by omega)
      rw [z2 i this hi5, same i (by omega) hno, e1.same i hi]
    have l2 := blk_lt c2
    have l3 := blk_lt c3
    refine H h' ⟨⟨by have := E2.size; omega, fun i hi => (z2 i (by have := hbne.2; omega) (by omega)).trans (E2.same i hi)⟩, ⟨sx, (hkeep b2 l2 (by omega) (fun ho => by have := (hons _ ho).1; omega)).trans c2⟩, ⟨n, (hkeep b3 l3 (by omega) (fun ho => by have := (hons _ ho).1; omega)).trans c3⟩, ⟨r2, _, z3, GG, hnlp⟩, fun x hx => ?_⟩ (by omega) (fun i hi hi5 => hkeep i (hL i hi) hi5 (off i hi))
    have hd := T.df x hx
    refine (hkeep x (blk_lt hd) (fun e => by rw [e, c5] at hd; cases hd) (fun ho => ?_)).trans hd
    rcases G.gw with ⟨hn, _⟩ | ⟨g, ty, cells, R⟩
    · rw [hn] at ho; obtain ⟨a1, ha1, _⟩ := ho; cases ha1
    · obtain ⟨a1, ha1, ha2⟩ := ho
      rw [R.base] at ha1; cases ha1
      have : x = g := ha2.symm
      rw [this, R.blk] at hd; cases hd
  refine bind_w (both_w ?_ ?_)
  · refine need_b hc.size (vst_b G2.gw G2.w4 hi2 hb hc.size hc.to.one (fun h3 u3 G3 => ?_))
    have c53 : h3[b5]? = _ := (u3.ne _ (fun e => hbne.1 e.symm)).trans c52
    refine stV_b (one_cell c53) (hfrozen_blk c53) (one_v _) (pure_w (pure_w ?_))
    refine fin _ (by rw [hset_size, u3.size]) (fun i i1 i2 => (hset_ne i2).trans (u3.ne i i1)) (set_one c53) (G3.same (fun i hi => hset_ne (fun e => ?_)))
    have e : i = b5 := e
    obtain ⟨a1, ha1, ha2⟩ := hi
    rw [hb] at ha1; cases ha1
    exact hbne.1 (by show b = b5; rw [← e]; exact ha2)
  · refine stV_b (one_cell c52) (hfrozen_blk c52) (one_v _) ?_
    have u3 := Upd.hset h2 b5 0 r2.v
    have c53 := set_one (u := r2.v) c52
    generalize hset h2 ⟨b5, 0, none⟩ r2.v = h3 at u3 c53 ⊢
    have G3 : Gw (b5 + 1) h3 r2 4 (flat4 (css ++ [(#[.int .i64 0, .int .i64 0, .string ByteArray.empty, .slice none 0 0] : Array Value)])) := G2.gw.same (fun i hi => u3.ne i (fun e => by
      obtain ⟨a1, ha1, ha2⟩ := hi
      rw [hb] at ha1; cases ha1
      exact hbne.1 (by show b = b5; rw [← e]; exact ha2)))
    refine need_b hc.size (vst_b G3 G2.w4 hi2 hb hc.size hc.to.one (fun h4 u4 G4 => pure_w (pure_w ?_)))
    exact fin _ (by rw [u4.size, u3.size]) (fun i i1 i2 => (u4.ne i i1).trans (u3.ne i i2)) ((u4.ne _ (fun e => hbne.1 e.symm)).trans c53) G4
end Gx
namespace Gx
open Go
set_option linter.unusedVariables false
set_option linter.unusedSimpArgs false
/-! ### result.Table: a line -/
theorem jn_snoc (sep a : List UInt8) : ∀ l : List (List UInt8), jn sep (l ++ [a]) = if l = [] then a else jn sep l ++ (sep ++ a)
  | [] => rfl
  | x :: l => by
    rw [if_neg (by simp), List.cons_append, jn_cons, jn_cons, List.flatMap_append]
    simp
theorem jn_take {sep : List UInt8} {T : List (List UInt8)} {i : Nat} (hi : i < T.length) : jn sep (T.take (i + 1)) = if i = 0 then T[i] else jn sep (T.take i) ++ (sep ++ T[i]) := by
  rw [List.take_succ_eq_append_getElem hi, jn_snoc]
  by_cases h0 : i = 0
  · subst h0; simp
  · rw [if_neg h0, if_neg]
    intro h
    have := congrArg List.length h
    rw [List.length_take, List.length_nil] at this
    omega
theorem jn_pre (sep : List UInt8) (T : List (List UInt8)) : ∀ i, i ≤ T.length → (jn sep (T.take i)).length ≤ (jn sep T).length := by
  intro i hi
  by_cases h0 : i = 0
  · subst h0; simp [jn]
  · have hne : 0 < T.length := by omega
    rw [jn_drop sep (T.take i) (by rw [List.length_take]; omega), jn_drop sep T hne]
    rw [List.length_append, List.length_append]
    have e1 : (T.take i)[0]'(by rw [List.length_take]; omega) = T[0] := by simp
    have e2 : (T.drop 1).flatMap (fun s => sep ++ s) = ((T.take i).drop 1).flatMap (fun s => sep ++ s) ++ ((T.drop i)).flatMap (fun s => sep ++ s) := by
      rw [← List.flatMap_append]
      congr 1
      rw [List.drop_take]
      conv => lhs; rw [← List.take_append_drop (i - 1) (T.drop 1)]
      rw [List.drop_drop]
      congr 2; omega
    rw [e1, e2, List.length_append]
    omega
/-- the texts of keys, one behind the other, and the line's end -/
theorem line_spec {hb0 h : Heap} {b c : Nat} {o : Obj} {rr : Sl} {t : List UInt8} {x : Sl} {x1 : Nat} {C : List Vl} {T : List (List UInt8)} {g : Value} {Q : Unit → Heap → Prop} (W : BW hb0 b c o h rr t) (cx : hcell hb0 ⟨x1, 0, none⟩ = some x.v) (hC : VsRep hb0 x C) (hT : T.length = C.length)
    (hg : ∀ j (hj : j < C.length) (hj' : j < T.length) h1 cs (Q1 : ByteArray → Heap → Prop), Ext hb0 h1 → h1[c]? = some o → VRep h1 C[j] cs → (∀ h2, Ext h1 h2 → Q1 (bs T[j]) h2) → (callV Go.Proofs.Tryd.prog (fun r : ByteArray => .string r) g [.agg cs]).wp h1 Q1)
    (hbd : (t ++ lineT T).length ≤ 140737488355328) (hcnt : C.length ≤ 1099511627776)
    (H : ∀ h' rr', BW hb0 b c o h' rr' (t ++ lineT T) → Q () h') : (result_Table_1 g ⟨x1, 0, none⟩ ⟨b, 0, none⟩).wp h Q := by
  unfold result_Table_1
  have hxl := hC.len
  have hlt2 : (lineT T).length = (jn [32, 124, 32] T).length + 1 := by simp [lineT]
  rw [List.length_append, hlt2] at hbd
  refine ldL_b (W.ext.cell cx) ?_
  rw [hxl]
  refine M.loop_inv (fun (s : Int) h' => ∃ i : Nat, s = (i : Int) ∧ i ≤ C.length ∧ ∃ r', BW hb0 b c o h' r' (t ++ jn [32, 124, 32] (T.take i))) (fun s _ => ((C.length : Int) - s).toNat) ?_ ⟨0, rfl, Nat.zero_le _, rr, by simpa [jn] using W⟩
  rintro s h' ⟨i, rfl, hi, r', W1⟩ self hself
  unfold result_Table_1_l1
  refine ite_w (fun hc => ?_) (fun hc => ?_)
  · have hlt : i < C.length := by have := of_decide_eq_true hc; omega
    have hltT : i < T.length := by omega
    have hjp := jn_pre [32, 124, 32] T i (by omega)
    have hjp1 := jn_pre [32, 124, 32] T (i + 1) (by omega)
    have hjt := jn_take (sep := [32, 124, 32]) hltT
    have hCS : VsRepS (· < hb0.size) h' x C := hC.lt.same (fun b hb => W1.ext.same b hb) (fun _ h => h)
    obtain ⟨a, cs, ha, hS, hs, hcs, hvS⟩ := hCS.get hlt
    have hv := hvS.to
    refine ixL_b (by omega) (by omega) ha (ldG_b hs (fun j hj => by rw [Addr.add_add, show (i : Int).toNat * 4 = i * 4 by omega]; exact hcs j hj) (mkV_b (fun h2 e2 z2 g2 => need_b hs (stR (vs := cs) g2 (by rw [hs]; decide) hv.one (fun h3 u3 g3 => ?_)))))
    rw [lay_full (by rw [Array.length_toList, hs]; rfl), Array.toArray_toList] at g3
    have E3 : Ext h' h3 := e2.upd u3 (Nat.le_refl _)
    have W3 := W1.more E3
    have hv3 := hv.ext E3
    -- behind the bar
    have tail : ∀ {h4 : Heap} {r4 : Sl} {pre : List UInt8}, BW hb0 b c o h4 r4 pre → pre ++ T[i] = t ++ jn [32, 124, 32] (T.take (i + 1)) → h4[h'.size]? = some (.cells cs ty_api_Value (0, 0)) → VRep h4 C[i] cs → (result_Table_1_j1 self g ⟨b, 0, none⟩ ⟨h'.size, 0, none⟩ (i : Int)).wp h4 Q := fun {h4 r4 pre} W4 he g4 hv4 => by
      unfold result_Table_1_j1
      refine ldV_b (v := C[i]) g4 hs (bind_w (hg i hlt hltT h4 cs _ W4.ext W4.blk hv4 (fun h5 e5 => ?_)))
      have W5 := W4.more e5
      have hlen := congrArg List.length he
      rw [List.length_append, List.length_append] at hlen
      refine bind_w (wstr_spec W5.bld W5.ext.size (by omega) (fun h6 r6 n6 B6 K6 => ?_))
      have W6 := W5.keep B6 K6
      rw [he] at W6
      rw [w64 (by omega) (by omega)]
      exact hself _ _ ⟨i + 1, by simp, by omega, r6, W6⟩ (by omega)
    refine ite_w (fun hp => ?_) (fun hp => ?_)
    · have hp : ¬ i = 0 := by have := of_decide_eq_true hp; omega
      rw [if_neg hp] at hjt
      have hl2 := congrArg List.length hjt
      rw [List.length_append, List.length_append] at hl2
      refine bind_w (wstr_spec (s := [32, 124, 32]) W3.bld W3.ext.size (by rw [List.length_append]; omega) (fun h4 r4 n4 B4 K4 => ?_))
      have W4 := W3.keep B4 K4
      have hlt3 := blk_lt g3
      have hold : ∀ i1, i1 < hb0.size → h4[i1]? = h3[i1]? := fun i1 hi1 => (W4.ext.same i1 hi1).trans (W3.ext.same i1 hi1).symm
      have hne : h'.size ≠ b := by have := W1.bld.lt; omega
      have hno : ¬ Sl.on r' h'.size := fun ho => by have := (W1.bld.row.lt ho).1; omega
      refine tail W4 (by rw [hjt]; simp) ((K4.same _ hlt3 hne hno).trans g3) ?_
      exact (hvS.same (fun b1 hb1 => (W4.ext.same b1 hb1).trans (W1.ext.same b1 hb1).symm)).to
    · have hp : i = 0 := by have := of_decide_eq_false hp; omega
      refine tail W3 (by rw [hjt, if_pos hp]; subst hp; simp [jn]) g3 hv3
  · have hge : i = T.length := by have := of_decide_eq_false hc; omega
    subst hge
    rw [List.take_length] at W1
    refine bind_w (wbyte_spec (c := 10) W1.bld W1.ext.size (by rw [List.length_append]; omega) rfl (fun h4 r4 B4 K4 => pure_w (H h4 r4 ?_)))
    have W4 := W1.keep B4 K4
    unfold lineT
    rw [← List.append_assoc]
    exact W4

/-- the texts that are no greater than the values -/
theorem txt_wt : ∀ (d : Nat) (v : Vl) {h : Heap} {cs : Array Value}, VRep h v cs → (txt d v).length + 2 ≤ 26 * wt v
  | 0, v, h, cs, _ => by have := wt_pos v; simp [txt]; omega
  | d + 1, .mk k n s l, h, cs, H => by
    obtain ⟨x, rfl, k1, n1, s1, r1⟩ := VRep.eq.1 H
    have hi := itoa_len n1
    have hq : (quoteB s).length ≤ 4 * s.length + 2 := by
      rw [quote_len]
      have : (s.flatMap qc).length ≤ 4 * s.length := by
        clear s1 H
        induction s with
        | nil => simp
        | cons a s ih => rw [List.flatMap_cons, List.length_append, List.length_cons]; have := qc_le a; omega
      omega
    have hs : ∀ (ev od : List UInt8), ev.length = 2 → od.length = 2 → (shw ev od (l.map (txt d))).length ≤ 26 * wt.wts l := by
      have hel : ∀ v ∈ l, (txt d v).length + 2 ≤ 26 * wt v := fun v hv => by
        obtain ⟨j, hj, rfl⟩ := List.getElem_of_mem hv
        obtain ⟨a, c, _, _, _, hv'⟩ := r1.get hj
        exact txt_wt d _ hv'
      clear r1 H
      induction l with
      | nil => intro ev od _ _; simp [shw]
      | cons a r ih =>
        intro ev od h1 h2
        have ha := hel a (by simp)
        have ihr := ih (fun v hv => hel v (List.mem_cons_of_mem _ hv)) od ev h2 h1
        rw [List.map_cons, shw_step, wt.wts]
        split
        · omega
        · rw [List.length_append, List.length_append]; omega
    have h4 := hs [44, 32] [44, 32] rfl rfl
    have h5 := hs [58, 32] [44, 32] rfl rfl
    rw [wt]
    unfold txt
    repeat' split
    all_goals (try simp only [List.length_append, List.length_cons, List.length_nil])
    all_goals omega
theorem getV_mem_aux (k : Vl) (l : List Vl) : ∀ (l' : List Vl), (∀ y ∈ l', y ∈ l) → ∀ x, getV k l' = some x → x ∈ l
  | [], _, x, hx => by cases hx
  | [_], _, x, hx => by cases hx
  | a :: b :: r, hm, x, hx => by
    rw [getV] at hx
    split at hx
    · cases hx; exact hm b (by simp)
    · exact getV_mem_aux k l r (fun y hy => hm y (by simp [hy])) x hx
theorem cell_le {v k : Vl} {h : Heap} {cs : Array Value} (H : VRep h v cs) : (cellT v k).length ≤ 26 * wt v := by
  obtain ⟨kk, n, s, l⟩ := v
  obtain ⟨x, rfl, k1, n1, s1, r1⟩ := VRep.eq.1 H
  have hw : 1 ≤ wt (.mk kk n s l) := wt_pos _
  unfold cellT
  split
  · rename_i y hy
    have hy' := getV_mem_aux k l l (fun y hy => hy) y hy
    obtain ⟨j, hj, rfl⟩ := List.getElem_of_mem hy'
    obtain ⟨a, c, _, _, _, hv'⟩ := r1.get hj
    have := txt_wt 8 _ hv'
    have := wts_mem hy'
    rw [wt]
    show (txt 8 l[j]).length ≤ _
    omega
  · simp; omega
end Gx
namespace Gx
open Go
set_option linter.unusedVariables false
set_option linter.unusedSimpArgs false
/-! ### How long a table is -/
theorem lineT_len (T : List (List UInt8)) : (lineT T).length ≤ (T.map List.length).sum + 3 * T.length + 1 := by
  unfold lineT
  rw [List.length_append]
  by_cases h : T = []
  · subst h; simp [jn]
  · rw [jn_len _ _ h]
    simp only [List.length_cons, List.length_nil]
    omega
theorem sum_le {α : Type} {f : α → List UInt8} {m : Nat} : ∀ {C : List α}, (∀ k ∈ C, (f k).length ≤ m) → ((C.map f).map List.length).sum ≤ C.length * m
  | [], _ => by simp
  | k :: C, h => by
    have ih := sum_le (C := C) (fun x hx => h x (List.mem_cons_of_mem _ hx))
    have := h k (by simp)
    rw [List.map_cons, List.map_cons, List.sum_cons, List.length_cons, Nat.add_mul]
    omega
theorem lines_len (C : List Vl) : ∀ (l : List Vl), (∀ v ∈ l, ∃ h cs, VRep h v cs) → (l.flatMap (fun v => lineT (C.map (cellT v)))).length ≤ C.length * (26 * wt.wts l) + (3 * C.length + 1) * l.length
  | [], _ => by simp
  | v :: l, h => by
    have ih := lines_len C l (fun x hx => h x (List.mem_cons_of_mem _ hx))
    obtain ⟨hh, cs, hv⟩ := h v (by simp)
    have h1 := lineT_len (C.map (cellT v))
    have h2 := sum_le (C := C) (f := cellT v) (m := 26 * wt v) (fun k _ => cell_le hv)
    rw [List.length_map] at h1
    rw [List.flatMap_cons, List.length_append, wt.wts, List.length_cons, Nat.mul_add 26, Nat.mul_add, Nat.mul_add]
    omega
theorem keys_wt {l : List Vl} {k : Vl} (h : k ∈ keysOf l) : wt k ≤ wt.wts l ∧ ((∀ v ∈ l, ∃ h cs, VRep h v cs) → ∃ h cs, VRep h k cs) := by
  obtain ⟨v, hv, hk⟩ := List.mem_flatMap.1 h
  have hm := evens_mem hk
  obtain ⟨kk, n, s, lv⟩ := v
  have h1 := wts_mem hv
  have h2 := wts_mem (show k ∈ lv from hm)
  rw [wt] at h1
  refine ⟨by omega, fun H => ?_⟩
  obtain ⟨hh, cs, hr⟩ := H _ hv
  obtain ⟨x, rfl, _, _, _, r1⟩ := VRep.eq.1 hr
  obtain ⟨j, hj, rfl⟩ := List.getElem_of_mem (show k ∈ lv from hm)
  obtain ⟨a, c, _, _, _, hv'⟩ := r1.get hj
  exact ⟨hh, c, hv'⟩
theorem keys_len (l : List Vl) : (keysOf l).length ≤ wt.wts l := by
  induction l with
  | nil => simp [keysOf]
  | cons v l ih =>
    obtain ⟨kk, n, s, lv⟩ := v
    have : (evens lv).length ≤ wt.wts lv := by
      rw [evens_len]
      have := wts_len lv
      omega
    unfold keysOf at ih ⊢
    rw [List.flatMap_cons, List.length_append, wt.wts, wt]
    show (evens lv).length + _ ≤ _
    omega
theorem tab_len {C l : List Vl} (hr : ∀ v ∈ l, ∃ h cs, VRep h v cs) (hC : C.length ≤ wt.wts l) (hm : ∀ k ∈ C, k ∈ keysOf l) (hW : wt.wts l ≤ 1048576) : (tabT C l).length ≤ 70368744177664 := by
  have h1 := lineT_len (C.map txV)
  rw [List.length_map] at h1
  have h2 := sum_le (C := C) (f := txV) (m := 26 * wt.wts l) (fun k hk => by
    obtain ⟨a, b⟩ := keys_wt (hm k hk)
    obtain ⟨h, cs, hv⟩ := b hr
    have := txt_wt 8 k hv
    show (txt 8 k).length ≤ _
    omega)
  have h3 := lines_len C l hr
  have h4 := wts_len l
  unfold tabT
  rw [List.length_append]
  have m1 : C.length * (26 * wt.wts l) ≤ 1048576 * (26 * 1048576) := Nat.mul_le_mul (by omega) (by omega)
  have m2 : (3 * C.length + 1) * l.length ≤ 3145729 * 1048576 := Nat.mul_le_mul (by omega) (by omega)
  omega
theorem tab_pre {C l : List Vl} (i : Nat) : (lineT (C.map txV) ++ (l.take i).flatMap (fun v => lineT (C.map (cellT v)))).length ≤ (tabT C l).length := by
  unfold tabT
  rw [List.length_append, List.length_append]
  conv => rhs; rw [← List.take_append_drop i l, List.flatMap_append, List.length_append]
  omega
theorem keysOf_take {l : List Vl} {i : Nat} (hi : i < l.length) : keysOf (l.take (i + 1)) = keysOf (l.take i) ++ evens l[i].l := by
  unfold keysOf
  rw [List.take_succ_eq_append_getElem hi, List.flatMap_append]
  simp
theorem okTab_take {l : List Vl} {i : Nat} (hi : i < l.length) : okTab (l.take (i + 1)) = (okTab (l.take i) && (decide (l[i].k = 5) && (evens l[i].l).all (fun k => decide (k.k = 2)))) := by
  unfold okTab
  rw [List.take_succ_eq_append_getElem hi, List.all_append]
  simp
theorem okTab_bad {l : List Vl} {i : Nat} (hi : i < l.length) (h : (decide (l[i].k = 5) && (evens l[i].l).all (fun k => decide (k.k = 2))) = false) : okTab l = false := by
  unfold okTab
  rw [List.all_eq_false]
  exact ⟨l[i], List.getElem_mem hi, by rw [h]; simp⟩
theorem keysOf_pre (l : List Vl) (i : Nat) : (keysOf (l.take i)).length ≤ (keysOf l).length := by
  unfold keysOf
  conv => rhs; rw [← List.take_append_drop i l, List.flatMap_append, List.length_append]
  omega
theorem TE.upd {h0 h h' : Heap} {b2 b3 lp : Nat} {xm : List Nat} (T : TE h0 b2 b3 xm h) (u : Upd lp h h') (h1 : h0.size ≤ lp) (h2 : b2 ≠ lp) (h3 : b3 ≠ lp) (hx : lp ∉ xm) : TE h0 b2 b3 xm h' :=
  ⟨T.ext.upd u h1, (u.ne _ h2).trans T.c2, (u.ne _ h3).trans T.c3, fun b hb => (u.ne b (fun e => hx (e ▸ hb))).trans (T.df b hb)⟩
theorem Slv_inj {r r' : Sl} (h : r.v = r'.v) : r = r' := by
  cases r; cases r'
  simp only [Sl.v, Value.slice.injEq] at h
  obtain ⟨rfl, rfl, rfl⟩ := h
  rfl
end Gx
namespace Gx
open Go
set_option linter.unusedVariables false
set_option linter.unusedSimpArgs false
/-! ### result.Table: one map's keys -/
/-- what a round does -/
def tabYb (c2_45 : Addr) (c3_46 : Addr) (c5_47 : Addr) : (Sl) → M Nat := fun x => match x with
  | x30_48 => do
    let x32_51 ← ixL x30_48 0 4
    let x34_52 ← ldI .i64 ((x32_51).add 0)
    M.ite (x34_52 != 2) (do
      stV c2_45 (.string ByteArray.empty)
      stV c3_46 (.int .i64 21)
      M.pure 1
      ) (do
      let x38_56 ← ixL x30_48 0 4
      let x36_57 ← ldL c5_47
      let x39_58 ← ldG 4 x38_56
      let y_60 ← fillL 4 1 (#[.int .i64 0, .int .i64 0, .string ByteArray.empty, .slice none 0 0] : Array Value) [(0, .agg (#[.int .i64 0, .int .i64 0, .string ByteArray.empty, .slice none 0 0] : Array Value))]
      let x41_59 ← bdL ty_api_Value 1 y_60
      chk (fun h : Heap => (hcell h c5_47 = some ((x36_57 : Sl).v)) ∧ (x39_58.size = 4 ∧ ∀ i, i < 4 → hcell h (Addr.add x38_56 i) = x39_58[i]?))
      let x42_61 ← apL ty_api_Value 4 56 (#[.int .i64 0, .int .i64 0, .string ByteArray.empty, .slice none 0 0] : Array Value) x36_57 x41_59
      let x43_62 ← ixL x42_61 (x36_57.len : Int) 4
      let y_67 ← do
        M.both (do
          M.need (x39_58.size = 4)
          stG x43_62 x39_58
          stV c5_47 ((x42_61 : Sl).v)
          M.pure ()
          ) (do
          stV c5_47 ((x42_61 : Sl).v)
          M.need (x39_58.size = 4)
          stG x43_62 x39_58
          M.pure ()
          )
      M.pure 0
      )
theorem tabYb_eq (b2 b3 b5 : Addr) (l : Nat) (x : Sl) : result_Table_y2 b2 b3 b5 l x = (beg l >>= fun _ => tabYb b2 b3 b5 x) := rfl
/-- a key's turn -/
theorem pair_b {h0 h : Heap} {b2 b3 b5 : Nat} {L : Nat → Prop} {xm : List Nat} {K : List Vl} {x : Sl} {lv : List Vl} {i : Nat} {Q : Nat → Heap → Prop} (B : Blks h0 b2 b3 b5) (T : TJ h0 b2 b3 b5 xm L K h) (hL : ∀ i, L i → i < h.size) (hK : K.length ≤ 1048576) (hx : VsRepS (· < h0.size) h x lv) (hi : 2 * i < lv.length)
    (H1 : ∀ h', (lv[2 * i]).k = 2 → TJ h0 b2 b3 b5 xm L (K ++ [lv[2 * i]]) h' → h.size ≤ h'.size → (∀ i, L i → i ≠ b5 → h'[i]? = h[i]?) → Q 0 h')
    (H2 : ∀ h', ¬ (lv[2 * i]).k = 2 → TE h0 b2 b3 xm h' → (∀ i, i ≠ b2 → i ≠ b3 → h'[i]? = h[i]?) → Q 1 h') :
    (tabYb ⟨b2, 0, none⟩ ⟨b3, 0, none⟩ ⟨b5, 0, none⟩ (piece x i)).wp h Q := by
  unfold tabYb
  have hp := piece_rep hx hi
  have hl0 : 0 < (pairAt lv i).length := by simp [pairAt]; omega
  have he0 : (pairAt lv i)[0] = lv[2 * i] := by simp [pairAt]
  obtain ⟨a, cs, ha, hS, hs, hc, hv⟩ := hp.get hl0
  rw [he0] at hv
  have hlen : (piece x i).len = min 2 (lv.length - 2 * i) := by show min 2 (x.len - 2 * i) = _; rw [hx.len]
  have ha0 : ∀ {β : Type} {Q' : β → Heap → Prop} {f : Addr → M β}, (f (a.add 0)).wp h Q' → (ixL (piece x i) 0 4 >>= f).wp h Q' := fun hq => by
    refine ixL_b (by decide) (by rw [hlen]; omega) ha ?_
    exact hq
  have hc0 : ∀ j, j < 4 → hcell h ((a.add 0).add j) = cs[j]? := fun j hj => by
    rw [Addr.add_add, Nat.zero_add]
    have := hc j hj
    rw [Nat.zero_mul, Nat.zero_add] at this
    exact this
  obtain ⟨kv, hkv⟩ : ∃ kv, kv = lv[2 * i] := ⟨_, rfl⟩
  rw [← hkv] at hv H1 H2
  obtain ⟨kk, n, s, l2⟩ := kv
  obtain ⟨xs, hcs, k1, n1, s1, r1⟩ := VRepS.eq.1 hv
  refine ha0 (ldI_b (n := kk) (by rw [hc0 0 (by decide), hcs]; rfl) (ite_w (fun hk => ?_) (fun hk => ?_)))
  · have hk : ¬ kk = 2 := by simpa using hk
    exact refuse_b B T (fun h' TEh hne => pure_w (H2 h' hk TEh hne))
  · have hk : kk = 2 := by simpa using hk
    refine ha0 ?_
    exact key_b B T hL hK hv ⟨by rw [add_block]; exact hS, hc0⟩ (fun h' T' hz hkeep => H1 h' hk T' hz hkeep)
end Gx
namespace Gx
open Go
set_option linter.unusedVariables false
set_option linter.unusedSimpArgs false
theorem all_take {p : Vl → Bool} {l : List Vl} {i : Nat} (hi : i < l.length) : (l.take (i + 1)).all p = ((l.take i).all p && p l[i]) := by
  rw [List.take_succ_eq_append_getElem hi, List.all_append]; simp
theorem all_bad {p : Vl → Bool} {l : List Vl} {i : Nat} (hi : i < l.length) (h : p l[i] = false) : l.all p = false := by
  rw [List.all_eq_false]
  exact ⟨l[i], List.getElem_mem hi, by rw [h]; simp⟩
/-- the pairs of one map -/
theorem mapkeys_b {h0 h : Heap} {b2 b3 b5 a b : Nat} {xm : List Nat} {K : List Vl} {x : Sl} {lv : List Vl} {ta tb : TypeId} {Q : Nat × Nat → Heap → Prop} (B : Blks h0 b2 b3 b5) (T : TJ h0 b2 b3 b5 xm (fun i => i = a ∨ i = b) K h) (hx : VsRepS (· < h0.size) h x lv) (hb : lv.length ≤ 1048576) (hK : K.length + (evens lv).length ≤ 1048576)
    (ha : h[a]? = some (.cells #[x.v] ta (0, 0))) (hb' : h[b]? = some (.cells #[.int .i64 2] tb (0, 0))) (la : b5 < a) (lb : b5 < b)
    (H0 : ∀ h', (evens lv).all (fun k => decide (k.k = 2)) = true → h.size < h'.size → TJ h0 b2 b3 b5 (h.size :: xm) (fun _ => False) (K ++ evens lv) h' → Q (0, h.size) h')
    (H1 : ∀ h', (evens lv).all (fun k => decide (k.k = 2)) = false → TE h0 b2 b3 (h.size :: xm) h' → Q (1, h.size) h') :
    (rgF Go.Proofs.Tryd.prog (fun x : Sl => [x.v]) [.ret] (result_Table_y2 ⟨b2, 0, none⟩ ⟨b3, 0, none⟩ ⟨b5, 0, none⟩) (.func (.func fn_slices_Chunk_slapi_Value_api_Value_1) #[] #[.pointer (some ⟨a, 0, none⟩), .pointer (some ⟨b, 0, none⟩)])).wp h Q := by
  have hB := B.l2; have hB3 := B.l3; have hB5 := B.l5
  have sa := blk_lt ha
  have sb := blk_lt hb'
  have hxl := hx.len
  have hxc := hx.cap
  obtain ⟨_, _, c5, _, _⟩ := T.c5
  have s5 := blk_lt c5
  have hmem : ∀ y ∈ h.size :: xm, y < h.size + 1 := fun y hy => by
    rcases List.mem_cons.1 hy with rfl | hy
    · omega
    · have := blk_lt (T.df y hy); omega
  have hnot : (h.size + 1) ∉ h.size :: xm := fun hm => by have := hmem _ hm; omega
  refine rgF_w (Yb := tabYb ⟨b2, 0, none⟩ ⟨b3, 0, none⟩ ⟨b5, 0, none⟩) (fun l x => rfl) (c := .ret) rfl (fun l hh => by cases hh) (xs := pieces x)
    (fun i h1 => TJ h0 b2 b3 b5 (h.size :: xm) (fun j => j = h.size + 1 ∨ j = a ∨ j = b) (K ++ (evens lv).take i) h1 ∧ h1[a]? = some (.cells #[x.v] ta (0, 0)) ∧ h1[b]? = some (.cells #[.int .i64 2] tb (0, 0)) ∧ ((evens lv).take i).all (fun k => decide (k.k = 2)) = true ∧ VsRepS (· < h0.size) h1 x lv ∧ h.size + 1 < h1.size)
    (fun h1 => TE h0 b2 b3 (h.size :: xm) h1 ∧ (evens lv).all (fun k => decide (k.k = 2)) = false) ?_ ?_ ?_ ?_ ?_ ?_ ?_
  · rintro i h1 h2 ⟨j1, j2, j3, j4, j5, j6⟩ u
    exact ⟨j1.upd B u (.inl rfl) (by omega) hnot, (u.ne _ (by omega)).trans j2, (u.ne _ (by omega)).trans j3, j4, j5.same (fun y hy => u.ne y (by have := T.ext.size; omega)) (fun _ h => h), by rw [u.size]; exact j6⟩
  · rintro h1 h2 ⟨j1, j2⟩ u
    have := T.ext.size
    exact ⟨j1.upd u (by omega) (by omega) (by omega) hnot, j2⟩
  · exact chunk_seq hxc (by omega) (fun i h1 hj => ⟨one_cell hj.2.1, one_cell hj.2.2.1⟩)
  · intro r
    have e1 : Ext h ((h.push (.deferred (some []))).push (recAt r .ready none)) := (Ext.push _ _).pushed _
    have T1 := T.more e1
    refine ⟨?_, e1.blk ha, e1.blk hb', by simp, hx.same (fun y hy => e1.same y (Nat.lt_of_lt_of_le hy T.ext.size)) (fun _ h => h), by simp⟩
    simp only [List.take_zero, List.append_nil]
    have T2 : TJ h0 b2 b3 b5 xm (fun j => j = h.size + 1 ∨ j = a ∨ j = b) K ((h.push (.deferred (some []))).push (recAt r .ready none)) := by
      obtain ⟨r0, css, d5, G, off⟩ := T.c5
      refine ⟨T1.ext, T1.c2, T1.c3, ⟨r0, css, e1.blk d5, G.same (fun y hy => e1.same y (G.gw.lt hy).1) (fun y hy => e1.same y (Nat.lt_of_lt_of_le hy T.ext.size)), fun i hi => ?_⟩, T1.df⟩
      rcases hi with rfl | hi
      · intro ho; have := (G.gw.lt ho).1; omega
      · exact off i hi
    refine T2.xs (fun y hy => ?_)
    rcases List.mem_cons.1 hy with rfl | hy
    · rw [get_push_lt (by simp)]; exact get_push_eq
    · exact e1.blk (T.df y hy)
  · rintro i hi h1 o ⟨j1, j2, j3, j4, j5, j6⟩ hrec
    rw [pieces_len] at hi
    have hi2 : 2 * i < lv.length := by omega
    have hie : i < (evens lv).length := by rw [evens_len]; omega
    have hev := evens_get lv i hi2 hie
    rw [pieces_get x (by rw [pieces_len]; exact hi)]
    have htk := all_take (p := fun k => decide (k.k = 2)) hie
    refine pair_b B j1 (fun j hj => by rcases hj with rfl | rfl | rfl <;> omega) ?_ j5 hi2 (fun h2 hk T2 hz hkeep => ?_) (fun h2 hk T2 hne => ?_)
    · rw [List.length_append, List.length_take]; omega
    · refine ⟨by rw [hkeep _ (.inl rfl) (by omega)]; exact hrec, .inl ⟨rfl, ?_, (hkeep _ (.inr (.inl rfl)) (by omega)).trans j2, (hkeep _ (.inr (.inr rfl)) (by omega)).trans j3, ?_, ?_, by omega⟩⟩
      · rw [List.take_succ_eq_append_getElem hie, ← List.append_assoc, hev]; exact T2
      · rw [htk, j4, hev, decide_eq_true hk]; rfl
      · exact (hx.same (fun y hy => (T2.ext.same y hy).trans (T.ext.same y hy).symm) (fun _ h => h))
    · refine ⟨by rw [hne _ (by omega) (by omega)]; exact hrec, .inr ⟨rfl, T2, ?_⟩⟩
      exact all_bad hie (by rw [hev]; exact decide_eq_false hk)
  · rintro h1 ⟨j1, j2, j3, j4, j5, j6⟩
    rw [pieces_len, show (x.len + 1) / 2 = (evens lv).length by rw [evens_len, hxl], List.take_length] at j4 j1
    exact H0 h1 j4 (by omega) (j1.lp (fun r css G off i hi => hi.elim))
  · rintro h1 ⟨j1, j2⟩
    exact H1 h1 j2 j1
end Gx
namespace Gx
open Go
set_option linter.unusedVariables false
set_option linter.unusedSimpArgs false
/-! ### result.Table -/
theorem text_call {h : Heap} {k : Vl} {cs : Array Value} {Q : ByteArray → Heap → Prop} (hk : VRep h k cs) (hp : PowTab h) (hd : DbTab h) (hm : (txV k).length ≤ 1099511627776) (H : ∀ h', Ext h h' → Q (bs (txV k)) h') : (callV Go.Proofs.Tryd.prog (fun r : ByteArray => .string r) (.func (.func fn_value_Text) #[] #[]) [.agg cs]).wp h Q :=
  callV_f cl_value_Text (S_value_Text cs) (vText_spec hk hp hd hm H)
/-- a cell of the table -/
theorem cell_call {h : Heap} {v k : Vl} {c cs : Array Value} {b : Nat} {t : TypeId} {z : Nat × Nat} {Q : ByteArray → Heap → Prop} (hb : h[b]? = some (.cells c t z)) (hv : VRep h v c) (hk : VRep h k cs) (h5 : v.k = 5) (hp : PowTab h) (hd : DbTab h) (hw : wt v ≤ 1048576) (H : ∀ h', Ext h h' → Q (bs (cellT v k)) h') :
    (callV Go.Proofs.Tryd.prog (fun r : ByteArray => .string r) (.func (.func fn_result_Table_2) #[] #[.pointer (some ⟨b, 0, none⟩)]) [.agg cs]).wp h Q := by
  refine callV_f cl_result_Table_2 (S_result_Table_2 cs ⟨b, 0, none⟩) ?_
  unfold result_Table_2
  have hcell := cell_le (k := k) hv
  refine mkV_b (fun h1 e1 z1 g1 => ldV_b (v := v) (e1.blk hb) hv.size (ldV_b (v := k) g1 hk.size (bind_w (vget_spec (hv.ext e1) (hk.ext e1) (by omega) (fun h2 c2 e2 hc2 => mkV_b (fun h3 e3 z3 g3 => ?_))))))
  dsimp only
  refine need_b hc2.size (stR (vs := c2) g3 (by rw [hc2.size]; decide) hc2.one (fun h4 u4 g4 => ?_))
  rw [lay_full (by rw [Array.length_toList, hc2.size]; rfl), Array.toArray_toList] at g4
  have E4 : Ext h2 h4 := e3.upd u4 (Nat.le_refl _)
  have E := (e1.trans e2).trans E4
  obtain ⟨kk, n, s, l⟩ := v
  have hk5 : kk = 5 := h5
  rw [getM_eq hk5] at hc2 ⊢
  have hct : cellT (.mk kk n s l) k = match getV k l with | some x => txV x | none => [45] := rfl
  rw [hct] at H hcell
  cases hg : getV k l with
  | none =>
    rw [hg] at H
    exact iteF rfl (pure_w (H _ E))
  | some y =>
    rw [hg] at H hcell hc2
    refine iteT rfl (ldV_b (v := y) g4 hc2.size (bind_w (vText_spec (hc2.ext E4) (hp.ext E) (hd.ext E) ?_ (fun h5 e5 => pure_w (H _ (E.trans e5))))))
    have h9 : (txt 8 y).length ≤ 26 * wt (.mk kk n s l) := hcell
    show (txt 8 y).length ≤ _
    omega
theorem vtable_spec {h : Heap} {Q : ByteArray × Int → Heap → Prop} {x : Sl} {l : List Vl} (hx : VsRep h x l) (hp : PowTab h) (hd : DbTab h) (hW : wt.wts l ≤ 1048576)
    (H1 : ∀ h', Ext h h' → checkVs l ≠ 0 → Q (ByteArray.empty, checkVs l) h')
    (H2 : ∀ h', Ext h h' → checkVs l = 0 → okTab l = false → Q (ByteArray.empty, 21) h')
    (H3 : ∀ h' C, Ext h h' → checkVs l = 0 → okTab l = true → Cols l C → Q (bs (tabT C l), 0) h') : (result_Table x).wp h Q := by
  have hwl := wts_len l
  have hkl := keys_len l
  have hxl := hx.len
  unfold result_Table
  refine mkV_b (fun h1 e1 z1 g1 => mkV_b (fun h2 e2 z2 g2 => ?_))
  refine bind_w (vfirst_spec ((hx.ext e1).ext e2) (fun h3 e3 => ?_))
  have E3 := (e1.trans e2).trans e3
  have g1' := (e2.trans e3).blk g1
  have g2' := e3.blk g2
  have hs3 := e3.size
  refine ite_w (fun hc => ?_) (fun hc => ?_)
  · have hc : checkVs l ≠ 0 := by simpa using hc
    refine stV_b (one_cell g1') (hfrozen_blk g1') rfl ?_
    have u1 := Upd.hset h3 h.size 0 (.string ByteArray.empty)
    have d1 := set_one (u := .string ByteArray.empty) g1'
    generalize hset h3 ⟨h.size, 0, none⟩ (.string ByteArray.empty) = h4 at u1 d1 ⊢
    have g2'' : h4[h1.size]? = _ := (u1.ne _ (by omega)).trans g2'
    refine stV_b (one_cell g2'') (hfrozen_blk g2'') rfl ?_
    have u2 := Upd.hset h4 h1.size 0 (.int .i64 (checkVs l))
    have d2 := set_one (u := .int .i64 (checkVs l)) g2''
    generalize hset h4 ⟨h1.size, 0, none⟩ (.int .i64 (checkVs l)) = h5 at u2 d2 ⊢
    have d1' : h5[h.size]? = _ := (u2.ne _ (by omega)).trans d1
    refine bind_w (pure_w (ldS_b (n := ByteArray.empty) (one_cell d1') (ldI_b (n := checkVs l) (one_cell d2) (pure_w (H1 _ ?_ hc)))))
    exact (E3.upd u1 (Nat.le_refl _)).upd u2 (by omega)
  have hc : checkVs l = 0 := by simpa using hc
  refine mkV_b (fun h4 e4 z4 g4 => ?_)
  have B : Blks h h.size h1.size h3.size := ⟨Nat.le_refl _, by omega, by omega⟩
  have T0 : TJ h h.size h1.size h3.size [] (fun _ => False) [] h4 := ⟨E3.trans e4, ⟨_, e4.blk g1'⟩, ⟨_, e4.blk g2'⟩, ⟨Sl.nil, [], g4, VGw.nil _ _ _, fun _ h => h.elim⟩, fun b hb => by cases hb⟩
  have hvr : ∀ v ∈ l, ∃ h cs, VRep h v cs := fun v hv => by
    obtain ⟨j, hj, rfl⟩ := List.getElem_of_mem hv
    obtain ⟨a, c, _, _, _, hv'⟩ := hx.get hj
    exact ⟨h, c, hv'⟩
  refine M.loop_inv (fun (s : List Nat × Int) hh => ∃ i : Nat, s.2 = (i : Int) ∧ i ≤ l.length ∧ TJ h h.size h1.size h3.size s.1 (fun _ => False) (keysOf (l.take i)) hh ∧ okTab (l.take i) = true ∧ s.1.Nodup ∧ ∀ b ∈ s.1, h.size ≤ b) (fun s _ => ((l.length : Int) - s.2).toNat) ?_ ⟨0, rfl, Nat.zero_le _, by simpa [keysOf] using T0, by simp [okTab], List.nodup_nil, fun b hb => by cases hb⟩
  rintro ⟨xm, t⟩ hh ⟨i, ht, hi, T, hok, hnd, hge0⟩ self hself
  have ht : t = (i : Int) := ht
  have T : TJ h h.size h1.size h3.size xm (fun _ => False) (keysOf (l.take i)) hh := T
  have hnd : xm.Nodup := hnd
  have hge0 : ∀ b ∈ xm, h.size ≤ b := hge0
  subst ht
  unfold result_Table_l1
  rw [hxl]
  -- the end of a refusal
  have refused : ∀ {ym : List Nat} {hz : Heap}, TE h h.size h1.size ym hz → ym.Nodup → (∀ b ∈ ym, h.size ≤ b) → okTab l = false → (shut ym >>= fun _ => ldS ⟨h.size, 0, none⟩ >>= fun r2 => ldI .i64 ⟨h1.size, 0, none⟩ >>= fun r3 => M.pure (r2, r3)).wp hz Q := fun {ym hz} TEz nd hge hbad => by
    refine bind_w (shut_spec nd TEz.df (fun h9 s9 n9 => ?_))
    have d2 : h9[h.size]? = _ := (n9 _ (fun hm => by have := TEz.df _ hm; rw [TEz.c2] at this; cases this)).trans TEz.c2
    have d3 : h9[h1.size]? = _ := (n9 _ (fun hm => by have := TEz.df _ hm; rw [TEz.c3] at this; cases this)).trans TEz.c3
    refine ldS_b (n := ByteArray.empty) (one_cell d2) (ldI_b (n := 21) (one_cell d3) (pure_w (H2 _ ⟨by rw [s9]; exact TEz.ext.size, fun j hj => ?_⟩ hc hbad)))
    exact (n9 j (fun hm => by have := hge j hm; omega)).trans (TEz.ext.same j hj)
  refine ite_w (fun hlt => ?_) (fun hend => ?_)
  · have hlt : i < l.length := by have := of_decide_eq_true hlt; omega
    have hxS : VsRepS (· < h.size) hh x l := hx.lt.same (fun b hb => T.ext.same b hb) (fun _ h => h)
    obtain ⟨a, cs, ha, hS, hs, hcs, hv⟩ := hxS.get hlt
    refine ixL_b (by omega) (by omega) ha (ldG_b hs (fun j hj => by rw [Addr.add_add, show (i : Int).toNat * 4 = i * 4 by omega]; exact hcs j hj) (mkV_b (fun hA eA zA gA => need_b hs (stR (vs := cs) gA (by rw [hs]; decide) hv.to.one (fun hB uB gB => ?_)))))
    rw [lay_full (by rw [Array.length_toList, hs]; rfl), Array.toArray_toList] at gB
    have EB : Ext hh hB := eA.upd uB (Nat.le_refl _)
    have TB := T.more EB
    have hvB : VRepS (· < h.size) hB l[i] cs := hv.same (fun b hb => EB.same b (Nat.lt_of_lt_of_le hb T.ext.size))
    have htk := okTab_take hlt
    rw [hok, Bool.true_and] at htk
    have hbad := okTab_bad hlt
    have hkt := keysOf_take hlt
    have hwi := wts_mem (List.getElem_mem hlt)
    have hkp := keysOf_pre l (i + 1)
    have hkp0 := keysOf_pre l i
    generalize hvi : l[i] = vi at *
    obtain ⟨k, n, s, lv⟩ := vi
    obtain ⟨xs, rfl, k1, n1, s1, r1⟩ := VRepS.eq.1 hvB
    have c0 : hcell hB ((⟨hh.size, 0, none⟩ : Addr).add 0) = some (.int .i64 k) := by rw [blk_cell gB]; rfl
    have c3 : hcell hB ((⟨hh.size, 0, none⟩ : Addr).add 3) = some xs.v := by rw [blk_cell gB]; rfl
    refine ldI_b c0 (ite_w (fun hk => ?_) (fun hk => ?_))
    · have hk : ¬ k = 5 := by simpa using hk
      refine refuse_b B TB (fun hC TC hne => ?_)
      exact refused TC hnd hge0 (hbad (by rw [show (Vl.mk k n s lv).k = k from rfl, decide_eq_false hk]; rfl))
    · have hk : k = 5 := by simpa using hk
      refine ldL_b c3 (bind_w ?_)
      unfold slices_Chunk_slapi_Value_api_Value
      refine mkV_b (fun hC eC zC gC => mkV_b (fun hD eD zD gD => ?_))
      refine ldI_b (n := 2) (one_cell gD) (iteF (by decide) (pure_w (bind_w ?_)))
      have ED := eC.trans eD
      have TD := TB.more ED
      have hsT := T.ext.size
      have hsB := EB.size
      have hwt : wt (.mk k n s lv) = 1 + s.length + wt.wts lv := by rw [wt]
      have hlv := wts_len lv
      have hevl := evens_len lv
      rw [hkt] at hkp
      have hkl2 : ((keysOf (l.take i)) ++ evens lv).length ≤ (keysOf l).length := hkp
      rw [List.length_append] at hkl2
      obtain ⟨_, _, cD5, _, _⟩ := TB.c5
      have s5 := blk_lt cD5
      have TD' : TJ h h.size h1.size h3.size xm (fun j => j = hB.size ∨ j = hC.size) (keysOf (l.take i)) hD := by
        obtain ⟨r0, css, d5, G, off⟩ := TB.c5
        refine ⟨TD.ext, TD.c2, TD.c3, ⟨r0, css, ED.blk d5, G.same (fun y hy => ED.same y (G.gw.lt hy).1) (fun y hy => ED.same y (by omega)), fun j hj ho => ?_⟩, TD.df⟩
        have := (G.gw.lt ho).1
        rcases hj with rfl | rfl
        · omega
        · have := eC.size; omega
      refine mapkeys_b (a := hB.size) (b := hC.size) (lv := lv) B TD' (r1.same (fun y hy => ED.same y (by omega)) (fun _ h => h)) (by omega) (by omega) (eD.blk gC) gD (by omega) (by have := eC.size; omega) (fun hE hall hsz TE' => ?_) (fun hE hall TE' => ?_)
      · refine iteF rfl ?_
        rw [w64 (by omega) (by omega)]
        have hsD := ED.size
        refine hself (_, _) _ ⟨i + 1, by simp, by omega, ?_, ?_, ?_, ?_⟩ (by dsimp only; omega)
        · dsimp only
          rw [hkt]; exact TE'
        · rw [htk]
          show (decide (k = 5) && (evens lv).all _) = true
          rw [decide_eq_true hk, hall]; rfl
        · refine List.nodup_cons.2 ⟨fun hm => ?_, hnd⟩
          have := blk_lt (T.df _ hm); omega
        · intro b hb
          rcases List.mem_cons.1 hb with rfl | hb
          · omega
          · exact hge0 b hb
      · refine iteT rfl ?_
        have hsD := ED.size
        refine refused TE' (List.nodup_cons.2 ⟨fun hm => ?_, hnd⟩) (fun b hb => ?_) (hbad (by
          show (decide (k = 5) && (evens lv).all _) = false
          rw [hall, Bool.and_false]))
        · have := blk_lt (T.df _ hm); omega
        · rcases List.mem_cons.1 hb with rfl | hb
          · omega
          · exact hge0 b hb
  · have hge : i = l.length := by have := of_decide_eq_false hend; omega
    subst hge
    rw [List.take_length] at T hok
    obtain ⟨r, css, c5, G, _⟩ := T.c5
    have s5 := blk_lt c5
    have hsT := T.ext.size
    have hnr : ∀ b, b ≤ h3.size → ¬ Sl.on r b := fun b hb ho => by have := (G.gw.lt ho).2; omega
    refine ldL_b (one_cell c5) (bind_w (vsort_spec G (fun b hb => ⟨by omega, hnr b (by omega)⟩) (by omega) (fun hA css1 l1 G1 hperm hpw szA sameA => ?_)))
    have c5A : hA[h3.size]? = _ := (sameA _ s5 (hnr _ (Nat.le_refl _))).trans c5
    have hlen1 : l1.length = (keysOf l).length := hperm.length_eq
    refine ldL_b (one_cell c5A) (bind_w (compact_spec G1 (fun b hb => ⟨by omega, hnr b (by omega)⟩) (by omega) (fun hB r2 css2 G2 szB sameB onB => ?_)))
    have c5B : hB[h3.size]? = _ := (sameB _ (by omega) (hnr _ (Nat.le_refl _))).trans c5A
    have hnr2 : ∀ b, b ≤ h3.size → ¬ Sl.on r2 b := fun b hb ho => hnr b hb (onB b ho)
    refine stV_b (one_cell c5B) (hfrozen_blk c5B) (one_v _) ?_
    have uC := Upd.hset hB h3.size 0 r2.v
    have c5C := set_one (u := r2.v) c5B
    generalize hset hB ⟨h3.size, 0, none⟩ r2.v = hC at uC c5C ⊢
    have G3 : VGw (h3.size + 1) (· < h.size) hC r2 css2 (cpt l1) := G2.same (fun b hb => uC.ne b (fun e => hnr2 h3.size (Nat.le_refl _) (e ▸ hb))) (fun b hb => uC.ne b (by omega))
    have keep : ∀ b, b < hh.size → b ≠ h3.size → ¬ Sl.on r b → hC[b]? = hh[b]? := fun b hb hne hno => by
      rw [uC.ne b hne, sameB b (by omega) hno, sameA b hb hno]
    have EC : Ext h hC := ⟨by have := uC.size; omega, fun b hb => (keep b (by omega) (by omega) (hnr b (by omega))).trans (T.ext.same b hb)⟩
    obtain ⟨sx, c2⟩ := T.c2
    obtain ⟨nx, c3⟩ := T.c3
    have c2C : hC[h.size]? = _ := (keep _ (by omega) (by omega) (hnr _ (by omega))).trans c2
    have c3C : hC[h1.size]? = _ := (keep _ (by omega) (by omega) (hnr _ (by omega))).trans c3
    have dfC : ∀ b ∈ xm, hC[b]? = some (.deferred (some [])) := fun b hb => by
      have hd := T.df b hb
      refine (keep b (blk_lt hd) (fun e => by rw [e, c5] at hd; cases hd) (fun ho => ?_)).trans hd
      rcases G.gw with ⟨hn, _⟩ | ⟨g, ty, cells, R⟩
      · rw [hn] at ho; obtain ⟨a1, ha1, _⟩ := ho; cases ha1
      · obtain ⟨a1, ha1, ha2⟩ := ho
        rw [R.base] at ha1; cases ha1
        have : b = g := ha2.symm
        rw [this, R.blk] at hd; cases hd
    have hcols : Cols l (cpt l1) := ⟨(cpt_inc l1 hpw).1, fun y => ((cpt_inc l1 hpw).2 y).trans hperm.mem_iff⟩
    have hCl : (cpt l1).length ≤ wt.wts l := by have := cpt_len l1; omega
    have htab := tab_len hvr hCl (fun k hk => (hcols.2 k).1 hk) hW
    have hCr : VsRep hC r2 (cpt l1) := (G3.rep_ (by omega)).to
    have hpC := hp.ext EC
    have hdC := hd.ext EC
    refine mkV_b (fun hD eD zD gD => ?_)
    have W0 : BW hC hC.size h3.size _ hD Sl.nil [] := ⟨Bld.new (Nat.le_refl _) gD, eD, eD.blk c5C, fun ⟨a1, ha1, _⟩ => (by cases ha1), by have := blk_lt c5C; omega⟩
    have hpre := tab_pre (C := cpt l1) (l := l) 0
    simp only [List.take_zero, List.flatMap_nil, List.append_nil] at hpre
    refine bind_w (callV_f cl_result_Table_1 (S_result_Table_1 (.func (.func fn_value_Text) #[] #[]) ⟨h3.size, 0, none⟩ ⟨hC.size, 0, none⟩) (line_spec (T := (cpt l1).map txV) W0 (one_cell c5C) hCr (by simp) (fun j hj hj' hx1 cs Q1 ex1 bx1 hk hq => ?_) (by rw [List.nil_append]; omega) (by omega) (fun hE rrE WE => ?_)))
    · rw [List.getElem_map] at hq
      refine text_call hk (hpC.ext ex1) (hdC.ext ex1) ?_ hq
      obtain ⟨a1, b1⟩ := keys_wt ((hcols.2 (cpt l1)[j]).1 (List.getElem_mem hj))
      have := txt_wt 8 _ hk
      show (txt 8 _).length ≤ _
      omega
    rw [List.nil_append] at WE
    refine M.loop_inv (fun (s : Int) hz => ∃ m : Nat, s = (m : Int) ∧ m ≤ l.length ∧ ∃ rr, BW hC hC.size h3.size (.cells #[r2.v] ty_sl_api_Value (0, 0)) hz rr (lineT ((cpt l1).map txV) ++ (l.take m).flatMap (fun v => lineT ((cpt l1).map (cellT v))))) (fun s _ => ((l.length : Int) - s).toNat) ?_ ⟨0, rfl, Nat.zero_le _, rrE, by simpa using WE⟩
    rintro s hz ⟨m, rfl, hm, rr, W⟩ self3 hself3
    unfold result_Table_l3
    dsimp only
    have hpm := tab_pre (C := cpt l1) (l := l) m
    refine ite_w (fun hlt => ?_) (fun hend => ?_)
    · have hlt : m < l.length := by have := of_decide_eq_true hlt; omega
      have hpm1 := tab_pre (C := cpt l1) (l := l) (m + 1)
      have htk : (l.take (m + 1)).flatMap (fun v => lineT ((cpt l1).map (cellT v))) = (l.take m).flatMap (fun v => lineT ((cpt l1).map (cellT v))) ++ lineT ((cpt l1).map (cellT l[m])) := by
        rw [List.take_succ_eq_append_getElem hlt, List.flatMap_append]; simp
      rw [htk, ← List.append_assoc] at hpm1
      have Ez : Ext h hz := EC.trans W.ext
      have hxS : VsRepS (· < h.size) hz x l := hx.lt.same (fun b hb => Ez.same b hb) (fun _ h => h)
      obtain ⟨a, cs, ha, hS, hs, hcs, hv⟩ := hxS.get hlt
      refine ixL_b (by omega) (by omega) ha (ldG_b hs (fun j hj => by rw [Addr.add_add, show (m : Int).toNat * 4 = m * 4 by omega]; exact hcs j hj) (mkV_b (fun hF eF zF gF => need_b hs (stR (vs := cs) gF (by rw [hs]; decide) hv.to.one (fun hG uG gG => ?_)))))
      rw [lay_full (by rw [Array.length_toList, hs]; rfl), Array.toArray_toList] at gG
      have EG : Ext hz hG := eF.upd uG (Nat.le_refl _)
      have WG := W.more EG
      have hbz := W.bld.lt
      have WG' : BW hC hC.size hz.size (.cells cs ty_api_Value (0, 0)) hG rr (lineT ((cpt l1).map txV) ++ (l.take m).flatMap (fun v => lineT ((cpt l1).map (cellT v)))) := ⟨WG.bld, WG.ext, gG, fun ho => by have := (W.bld.row.lt ho).1; omega, by omega⟩
      have h5k : l[m].k = 5 := by
        have := hok
        unfold okTab at this
        rw [List.all_eq_true] at this
        have := this l[m] (List.getElem_mem hlt)
        rw [Bool.and_eq_true] at this
        exact of_decide_eq_true this.1
      have hwm := wts_mem (List.getElem_mem hlt)
      refine bind_w (callV_f cl_result_Table_1 (S_result_Table_1 (.func (.func fn_result_Table_2) #[] #[.pointer (some ⟨hz.size, 0, none⟩)]) ⟨h3.size, 0, none⟩ ⟨hC.size, 0, none⟩) (line_spec (T := (cpt l1).map (cellT l[m])) WG' (one_cell c5C) hCr (by simp) (fun j hj hj' hx1 cs1 Q1 ex1 bx1 hk hq => ?_) (by omega) (by omega) (fun hH rrH WH => ?_)))
      · rw [List.getElem_map] at hq
        exact cell_call bx1 (hv.same (fun b hb => ((EC.trans ex1).same b hb).trans (Ez.same b hb).symm)).to hk h5k (hpC.ext ex1) (hdC.ext ex1) (by omega) hq
      · rw [w64 (by omega) (by omega)]
        refine hself3 _ _ ⟨m + 1, by simp, by omega, rrH, ?_⟩ (by omega)
        rw [htk, ← List.append_assoc]
        have hb5 := blk_lt c5C
        exact ⟨WH.bld, WH.ext, WH.ext.blk c5C, fun ho => by have := (WH.bld.row.lt ho).2; omega, by omega⟩
    · have hge : m = l.length := by have := of_decide_eq_false hend; omega
      subst hge
      rw [List.take_length] at W
      refine bind_w (bstr_spec W.bld (by unfold tabT at htab; omega) (fun hI KI szI => ?_))
      have EI := KI.ext W.ext W.bld (Nat.le_refl _)
      have c2I := EI.blk c2C
      refine stV_b (one_cell c2I) (hfrozen_blk c2I) rfl ?_
      have u1 := Upd.hset hI h.size 0 (.string (bs (lineT ((cpt l1).map txV) ++ l.flatMap (fun v => lineT ((cpt l1).map (cellT v))))))
      have d1 := set_one (u := .string (bs (lineT ((cpt l1).map txV) ++ l.flatMap (fun v => lineT ((cpt l1).map (cellT v)))))) c2I
      generalize hset hI ⟨h.size, 0, none⟩ (.string (bs (lineT ((cpt l1).map txV) ++ l.flatMap (fun v => lineT ((cpt l1).map (cellT v)))))) = hJ at u1 d1 ⊢
      have c3J : hJ[h1.size]? = _ := (u1.ne _ (by omega)).trans (EI.blk c3C)
      refine stV_b (one_cell c3J) (hfrozen_blk c3J) rfl ?_
      have u2 := Upd.hset hJ h1.size 0 (.int .i64 0)
      have d2 := set_one (u := .int .i64 0) c3J
      generalize hset hJ ⟨h1.size, 0, none⟩ (.int .i64 0) = hK at u2 d2 ⊢
      have d1' : hK[h.size]? = _ := (u2.ne _ (by omega)).trans d1
      have dfK : ∀ b ∈ xm, hK[b]? = some (.deferred (some [])) := fun b hb => by
        have hd := EI.blk (dfC b hb)
        rw [u2.ne b (fun e => by rw [e] at hd; rw [EI.blk c3C] at hd; cases hd), u1.ne b (fun e => by rw [e] at hd; rw [c2I] at hd; cases hd)]
        exact hd
      refine bind_w (shut_spec hnd dfK (fun hL sL nL => ?_))
      have f2 : hL[h.size]? = _ := (nL _ (fun hm => by have := dfK _ hm; rw [d1'] at this; cases this)).trans d1'
      have f3 : hL[h1.size]? = _ := (nL _ (fun hm => by have := dfK _ hm; rw [d2] at this; cases this)).trans d2
      refine ldS_b (one_cell f2) (ldI_b (n := 0) (one_cell f3) (pure_w (H3 hL (cpt l1) ?_ hc hok hcols)))
      have EK : Ext h hK := ((EC.trans EI).upd u1 (Nat.le_refl _)).upd u2 (by omega)
      exact ⟨by rw [sL]; exact EK.size, fun j hj => (nL j (fun hm => by have := hge0 j hm; omega)).trans (EK.same j hj)⟩
end Gx
namespace Gx
open Go
set_option linter.unusedVariables false
set_option linter.unusedSimpArgs false
/-! ### rambleref23.columns -/
def InK (K o : List Vl) : Prop := Inc o ∧ ∀ x, x ∈ o ↔ x ∈ K
/-- where a key belongs -/
structure Pos (o : List Vl) (k : Vl) (p : Nat) : Prop where
  le : p ≤ o.length
  lo : ∀ i (h : i < o.length), i < p → cmpV o[i] k < 0
  hi : ∀ (h : p < o.length), ¬ cmpV o[p] k < 0
theorem inc_get {o : List Vl} (h : Inc o) {i j : Nat} (hij : i < j) (hj : j < o.length) : cmpV (o[i]'(by omega)) o[j] < 0 := by
  have := List.pairwise_iff_getElem.1 h i j (by omega) hj hij
  exact this
theorem ins_new {K o : List Vl} {k : Vl} {p : Nat} (h : InK K o) (hp : Pos o k p) (hn : ∀ (hl : p < o.length), ¬ cmpV o[p] k = 0) : InK (K ++ [k]) (o.take p ++ k :: o.drop p) := by
  have hgt : ∀ i (hi : i < o.length), p ≤ i → cmpV k o[i] < 0 := fun i hi hpi => by
    have h1 : p < o.length := by omega
    have h2 := hp.hi h1
    have h3 := hn h1
    have h4 := cmpV_anti k o[p]
    by_cases e : p = i
    · subst e; omega
    · exact cmpV_trans (b := o[p]) (by omega) (inc_get h.1 (by omega) hi)
  refine ⟨?_, fun x => ?_⟩
  · unfold Inc
    rw [List.pairwise_append]
    refine ⟨h.1.sublist (List.take_sublist _ _), ?_, ?_⟩
    · rw [List.pairwise_cons]
      refine ⟨fun x hx => ?_, h.1.sublist (List.drop_sublist _ _)⟩
      obtain ⟨i, hi, rfl⟩ := List.getElem_of_mem hx
      rw [List.length_drop] at hi
      rw [List.getElem_drop]
      exact hgt _ (by omega) (by omega)
    · intro x hx y hy
      obtain ⟨i, hi, rfl⟩ := List.getElem_of_mem hx
      rw [List.length_take] at hi
      rw [List.getElem_take]
      have h1 := hp.lo i (by omega) (by omega)
      rcases List.mem_cons.1 hy with rfl | hy
      · exact h1
      · obtain ⟨j, hj, rfl⟩ := List.getElem_of_mem hy
        rw [List.length_drop] at hj
        rw [List.getElem_drop]
        exact inc_get h.1 (show i < p + j by omega) (by omega)
  · rw [List.mem_append, List.mem_cons, List.mem_append, List.mem_singleton, ← h.2 x]
    constructor
    · rintro (h1 | h1 | h1)
      · exact .inl (List.mem_of_mem_take h1)
      · exact .inr h1
      · exact .inl (List.mem_of_mem_drop h1)
    · rintro (h1 | h1)
      · have : x ∈ o.take p ++ o.drop p := by rw [List.take_append_drop]; exact h1
        rcases List.mem_append.1 this with h2 | h2
        · exact .inl h2
        · exact .inr (.inr h2)
      · exact .inr (.inl h1)
theorem ins_old {K o : List Vl} {k : Vl} {p : Nat} (h : InK K o) (hl : p < o.length) (he : cmpV o[p] k = 0) : InK (K ++ [k]) o := by
  have := (cmpV_eq _ _).1 he
  subst this
  refine ⟨h.1, fun x => ?_⟩
  rw [List.mem_append, List.mem_singleton, ← h.2 x]
  constructor
  · exact .inl
  · rintro (h1 | h1)
    · exact h1
    · subst h1; exact List.getElem_mem hl
/-- a part of a row, as cells -/
theorem Gw.part {lo : Nat} {h : Heap} {r : Sl} {css : List (Array Value)} (G : Gw lo h r 4 (flat4 css)) (hw : W4 css) {p n : Nat} (hpn : p + n ≤ css.length) : Reads h (r.base.map (fun a => a.add (p * 4))) (flat4 ((css.drop p).take n)) := by
  rcases G with ⟨rfl, he⟩ | ⟨b, ty, cells, R⟩
  · have := flat4_len hw
    rw [he] at this
    have h0 : css = [] := List.length_eq_zero_iff.1 (by simp at this; omega)
    subst h0
    exact .inl (by simp [flat4])
  · refine .inr ⟨⟨b, p * 4, none⟩, by rw [R.base]; show some ((⟨b, 0, none⟩ : Addr).add (p * 4)) = _; rw [add_mk, Nat.zero_add], fun j v hj => ?_⟩
    have hw' : W4 ((css.drop p).take n) := fun c hc => hw c (List.mem_of_mem_drop (List.mem_of_mem_take hc))
    have hlt := (List.getElem?_eq_some_iff.1 hj).1
    rw [flat4_len hw', List.length_take, List.length_drop] at hlt
    have h1 := flat4_get hw' (j / 4) (j % 4) (by omega)
    rw [show j / 4 * 4 + j % 4 = j by omega, hj] at h1
    have h2 := flat4_get hw (p + j / 4) (j % 4) (by omega)
    have h3 : ((css.drop p).take n)[j / 4]? = css[p + j / 4]? := by
      rw [List.getElem?_take, if_pos (by omega), List.getElem?_drop]
    rw [← h3, ← h1, show (p + j / 4) * 4 + j % 4 = p * 4 + j by omega] at h2
    rw [add_mk, hcell_blk R.blk]
    exact R.get _ _ h2
theorem Sl.eta3 {b b' : Option Addr} {n n' c c' : Nat} (h1 : b = b') (h2 : n = n') (h3 : c = c') : (⟨b, n, c⟩ : Sl) = ⟨b', n', c'⟩ := by subst h1; subst h2; subst h3; rfl
/-- a key put at its place -/
theorem insert_b {h0 h : Heap} {r : Sl} {css : List (Array Value)} {o : List Vl} {k : Vl} {c : Array Value} {b7 p : Nat} {f : Sl → M (Sl × Bool)} {Q : Sl × Bool → Heap → Prop} (E : Ext h0 h) (G : VGw h0.size (· < h0.size) h r css o) (hc : VRepS (· < h0.size) h k c) (hb7 : h[b7]? = some (.cells c ty_api_Value (0, 0))) (hp : p ≤ o.length) (hm : o.length ≤ 1048576)
    (H : ∀ h' r' css', Ext h h' → VGw h0.size (· < h0.size) h' r' css' (o.take p ++ k :: o.drop p) → (f r').wp h' Q) :
    ((do
      let x73_66 ← slL r 0 (p : Int) 4
      let x80_67 ← slL r (p : Int) (r.len : Int) 4
      let x75_68 ← ldG 4 ⟨b7, 0, none⟩
      let y_75 ← do
        M.both (do
          let x74_69 ← apL ty_api_Value 4 56 (#[.int .i64 0, .int .i64 0, .string ByteArray.empty, .slice none 0 0] : Array Value) Sl.nil x73_66
          chk (fun h : Heap => (x75_68.size = 4 ∧ ∀ i, i < 4 → hcell h (Addr.add ⟨b7, 0, none⟩ i) = x75_68[i]?))
          let y_71 ← fillL 4 1 (#[.int .i64 0, .int .i64 0, .string ByteArray.empty, .slice none 0 0] : Array Value) [(0, .agg x75_68)]
          let x76_70 ← bdL ty_api_Value 1 y_71
          M.pure (x74_69, x76_70)
          ) (do
          let y_73 ← fillL 4 1 (#[.int .i64 0, .int .i64 0, .string ByteArray.empty, .slice none 0 0] : Array Value) [(0, .agg x75_68)]
          let x76_72 ← bdL ty_api_Value 1 y_73
          chk (fun h : Heap => (x75_68.size = 4 ∧ ∀ i, i < 4 → hcell h (Addr.add ⟨b7, 0, none⟩ i) = x75_68[i]?))
          let x74_74 ← apL ty_api_Value 4 56 (#[.int .i64 0, .int .i64 0, .string ByteArray.empty, .slice none 0 0] : Array Value) Sl.nil x73_66
          chk (fun h : Heap => (x75_68.size = 4 ∧ ∀ i, i < 4 → hcell h (Addr.add ⟨b7, 0, none⟩ i) = x75_68[i]?))
          M.pure (x74_74, x76_72)
          )
      let x77_76 ← apL ty_api_Value 4 56 (#[.int .i64 0, .int .i64 0, .string ByteArray.empty, .slice none 0 0] : Array Value) y_75.1 y_75.2
      let x81_77 ← apL ty_api_Value 4 56 (#[.int .i64 0, .int .i64 0, .string ByteArray.empty, .slice none 0 0] : Array Value) x77_76 x80_67
      f x81_77) : M (Sl × Bool)).wp h Q := by
  have hrl := G.gw.len4 G.w4
  have hgl := G.len
  have hcap := G.gw.cap
  have hES := E.size
  refine slL_b (by omega) (by omega) (by omega) (slL_b (by omega) (by omega) (by omega) (ldG_b hc.size (fun j hj => by rw [blk_cell hb7]) ?_))
  have hw1 : W4 (css.take p) := fun x hx => G.w4 x (List.mem_of_mem_take hx)
  have hw2 : W4 (css.drop p) := fun x hx => G.w4 x (List.mem_of_mem_drop hx)
  -- the two parts
  have hp1 : ∀ {hh : Heap}, Ext h hh → Reads hh (if r.cap = (0 : Int).toNat then r.base else r.base.map (fun a => a.add ((0 : Int).toNat * 4))) (flat4 (css.take p)) := fun {hh} e => by
    have := (G.gw.ext e).part G.w4 (p := 0) (n := p) (by omega)
    simp only [List.drop_zero] at this
    split
    · rw [← G.gw.base0]; exact this
    · exact this
  have hp2 : ∀ {hh : Heap}, Ext h hh → Reads hh (if r.cap = (p : Int).toNat then r.base else r.base.map (fun a => a.add ((p : Int).toNat * 4))) (flat4 (css.drop p)) := fun {hh} e => by
    split
    · rename_i hcp
      have : css.drop p = [] := List.drop_eq_nil_iff.2 (by have : (p : Int).toNat = p := rfl; omega)
      rw [this]; exact .inl rfl
    · have := (G.gw.ext e).part G.w4 (p := p) (n := css.length - p) (by omega)
      rw [List.take_of_length_le (by rw [List.length_drop]; omega)] at this
      exact this
  -- the first part's copy, at whatever heap
  have first : ∀ {hh : Heap} {Q1 : Sl → Heap → Prop}, Ext h hh → (∀ h' r', Ext hh h' → VGw h0.size (· < h0.size) h' r' (css.take p) (o.take p) → (∀ i, Sl.on r' i → hh.size ≤ i) → Q1 r' h') → (apL ty_api_Value 4 56 (#[.int .i64 0, .int .i64 0, .string ByteArray.empty, .slice none 0 0] : Array Value) Sl.nil ⟨if r.cap = (0 : Int).toNat then r.base else r.base.map (fun a => a.add ((0 : Int).toNat * 4)), (p : Int).toNat - (0 : Int).toNat, r.cap - (0 : Int).toNat⟩).wp hh Q1 := fun {hh Q1} e hq => by
    refine vap_grow (l' := o.take p) (css' := css.take p) (VGw.nil h0.size (· < h0.size) hh) (by have := e.size; omega) (fun b hb => ⟨by have := e.size; omega, fun ⟨a1, ha1, _⟩ => by cases ha1⟩) hw1 (by rw [List.length_take, List.length_take, hgl]) (by show (p : Int).toNat - (0 : Int).toNat = _; rw [List.length_take]; have : (0 : Int).toNat = 0 := rfl; omega) (hp1 e) (fun j j1 j2 => ?_) (by simp; omega) (fun h' r' G' hs same on_ => hq h' r' ⟨hs, fun i hi => same i hi (fun ⟨a1, ha1, _⟩ => by cases ha1)⟩ (by simpa using G') (fun i hi => (on_ i hi).elim (fun ⟨a1, ha1, _⟩ => by cases ha1) id))
    rw [List.getElem_take, List.getElem_take]
    exact (G.rep j _ _).same (fun b hb => e.same b (by omega))
  -- behind both
  have rest : ∀ {hh : Heap} {r1 : Sl} {b76 : Nat}, Ext h hh → VGw h0.size (· < h0.size) hh r1 (css.take p) (o.take p) → (∀ i, Sl.on r1 i → h.size ≤ i) → hh[b76]? = some (.cells c ty_api_Value (0, 0)) → (apL ty_api_Value 4 56 (#[.int .i64 0, .int .i64 0, .string ByteArray.empty, .slice none 0 0] : Array Value) r1 ⟨some ⟨b76, 0, none⟩, 1, 1⟩ >>= fun x77 => apL ty_api_Value 4 56 (#[.int .i64 0, .int .i64 0, .string ByteArray.empty, .slice none 0 0] : Array Value) x77 ⟨if r.cap = (p : Int).toNat then r.base else r.base.map (fun a => a.add ((p : Int).toNat * 4)), (r.len : Int).toNat - (p : Int).toNat, r.cap - (p : Int).toNat⟩ >>= f).wp hh Q := fun {hh r1 b76} e G1 on1 g76 => by
    have hez := e.size
    have hl1 : (o.take p).length = p := by rw [List.length_take]; omega
    refine bind_w (vap_grow (l' := [k]) (css' := [c]) G1 (by omega) (fun b hb => ⟨by omega, fun ho => by have := on1 b ho; omega⟩) (fun x hx => by simp at hx; subst hx; exact ⟨hc.size, hc.to.one⟩) rfl rfl (.inr ⟨_, rfl, fun j v hj => ?_⟩) (fun j j1 j2 => ?_) (by rw [hl1]; simp; omega) (fun h2 r2 G2 hs2 same2 on2 => ?_))
    · rw [add_mk, Nat.zero_add, hcell_blk g76]
      simpa [flat4] using hj
    · have : j = 0 := by simp at j1; exact j1
      subst this
      exact hc.same (fun b hb => e.same b (by omega))
    · have E2 : Ext h h2 := ⟨by omega, fun i hi => (same2 i (by omega) (fun ho => by have := on1 i ho; omega)).trans (e.same i hi)⟩
      have on2' : ∀ i, Sl.on r2 i → h.size ≤ i := fun i hi => (on2 i hi).elim (on1 i) (fun h => by omega)
      refine bind_w (vap_grow (l' := o.drop p) (css' := css.drop p) G2 (by omega) (fun b hb => ⟨by omega, fun ho => by have := on2' b ho; omega⟩) hw2 (by rw [List.length_drop, List.length_drop, hgl]) (by show (r.len : Int).toNat - (p : Int).toNat = _; rw [List.length_drop]; have : (p : Int).toNat = p := rfl; omega) (hp2 E2) (fun j j1 j2 => ?_) (by rw [List.length_append, hl1, List.length_drop]; simp; omega) (fun h3 r3 G3 hs3 same3 on3 => ?_))
      · rw [List.getElem_drop, List.getElem_drop]
        exact (G.rep _ _ _).same (fun b hb => E2.same b (by omega))
      · refine H h3 r3 (css.take p ++ [c] ++ css.drop p) ⟨by omega, fun i hi => (same3 i (by omega) (fun ho => by have := on2' i ho; omega)).trans (E2.same i hi)⟩ ?_
        rw [List.append_assoc (o.take p)] at G3
        exact G3
  have hkc : ∀ {hh : Heap}, Ext h hh → (c.size = 4 ∧ ∀ i, i < 4 → hcell hh (Addr.add ⟨b7, 0, none⟩ i) = c[i]?) := fun e => ⟨hc.size, fun j hj => by rw [blk_cell (e.blk hb7)]⟩
  refine bind_w (both_w ?_ ?_)
  · refine bind_w (first (Ext.refl _) (fun h1 r1 e1 G1 on1 => ?_))
    refine chk_b (hkc e1) (fillL1_b hc.size (bdL_b (pure_w ?_)))
    have e2 := Ext.push h1 (.cells c ty_api_Value)
    exact rest (e1.trans e2) (G1.same (fun b hb => e2.same b (G1.gw.lt hb).1) (fun b hb => e2.same b (by have := e1.size; omega))) on1 get_push_eq
  · refine fillL1_b hc.size (bdL_b ?_)
    have e1 := Ext.push h (.cells c ty_api_Value)
    have g1 : (h.push (.cells c ty_api_Value))[h.size]? = some (.cells c ty_api_Value (0, 0)) := get_push_eq
    generalize h.push (.cells c ty_api_Value) = h1 at e1 g1 ⊢
    refine chk_b (hkc e1) (bind_w (first e1 (fun h2 r1 e2 G1 on1 => chk_b (hkc (e1.trans e2)) (pure_w ?_))))
    exact rest (e1.trans e2) G1 (fun i hi => by have := on1 i hi; have := e1.size; omega) (e2.blk g1)
end Gx
namespace Gx
open Go
set_option linter.unusedVariables false
set_option linter.unusedSimpArgs false
theorem may_even {v : Vl} (h : mayV 8 v = true) (h5 : v.k = 5) : v.l.length % 2 = 0 := by
  obtain ⟨k, n, s, l⟩ := v
  have h5 : k = 5 := h5
  unfold mayV at h
  rw [if_neg (by omega), if_neg (by omega), if_neg (by omega), if_neg (by omega), if_neg (by omega), if_pos h5] at h
  simp only [Bool.and_eq_true, decide_eq_true_eq] at h
  have := h
  show l.length % 2 = 0
  omega
theorem checkVs_all : ∀ {l : List Vl}, checkVs l = 0 → ∀ v ∈ l, mayV 8 v = true
  | [], _, v, hv => by cases hv
  | a :: l, h, v, hv => by
    rw [checkVs] at h
    by_cases ha : checkV a = 0
    · rw [if_neg (by simpa using ha)] at h
      rcases List.mem_cons.1 hv with rfl | hv
      · unfold checkV at ha
        by_cases hm : mayV 8 v = true
        · exact hm
        · rw [if_neg hm] at ha; cases ha
      · exact checkVs_all h v hv
    · rw [if_pos ha] at h; exact absurd h ha

theorem keysOf_len_take (l : List Vl) (i : Nat) : (keysOf (l.take i)).length ≤ wt.wts l := Nat.le_trans (keysOf_pre l i) (keys_len l)
theorem InK.len {K o : List Vl} (h : InK K o) : o.length ≤ K.length := by
  have nd : o.Nodup := h.1.imp (fun {a b} hab e => by rw [e, cmpV_self] at hab; omega)
  have : ∀ (o K : List Vl), o.Nodup → (∀ x ∈ o, x ∈ K) → o.length ≤ K.length := by
    intro o
    induction o with
    | nil => intro K _ _; simp
    | cons a o ih =>
      intro K nd hm
      rw [List.nodup_cons] at nd
      obtain ⟨s, t, rfl⟩ := List.append_of_mem (hm a (by simp))
      have := ih (s ++ t) nd.2 (fun x hx => by
        have h1 := hm x (List.mem_cons_of_mem _ hx)
        have hne : x ≠ a := fun e => nd.1 (e ▸ hx)
        simp only [List.mem_append, List.mem_cons] at h1 ⊢
        rcases h1 with h1 | h1 | h1
        · exact .inl h1
        · exact absurd h1 hne
        · exact .inr h1)
      rw [List.length_append] at this
      simp only [List.length_cons, List.length_append]
      omega
  exact this o K nd (fun x hx => (h.2 x).1 hx)
theorem rcolumns_spec {h0 : Heap} {Q : Sl × Bool → Heap → Prop} {x : Sl} {l : List Vl} (hx : VsRep h0 x l) (hev : ∀ v ∈ l, v.k = 5 → v.l.length % 2 = 0) (hW : wt.wts l ≤ 1048576)
    (H1 : ∀ h' r css C, Ext h0 h' → okTab l = true → Cols l C → VGw h0.size (· < h0.size) h' r css C → Q (r, true) h')
    (H2 : ∀ h', Ext h0 h' → okTab l = false → Q (Sl.nil, false) h') : (rambleref23_columns x).wp h0 Q := by
  unfold rambleref23_columns
  have hxl := hx.len
  have hwl := wts_len l
  refine M.loop_inv (fun (s : Sl × Int) hh => ∃ (i : Nat) (css : List (Array Value)) (o : List Vl), s.2 = (i : Int) ∧ i ≤ l.length ∧ Ext h0 hh ∧ VGw h0.size (· < h0.size) hh s.1 css o ∧ InK (keysOf (l.take i)) o ∧ okTab (l.take i) = true) (fun s _ => ((l.length : Int) - s.2).toNat) ?_ ⟨0, [], [], rfl, Nat.zero_le _, Ext.refl _, VGw.nil _ _ _, ⟨List.Pairwise.nil, fun y => by simp [keysOf]⟩, by simp [okTab]⟩
  rintro ⟨r, t⟩ hh ⟨i, css, o, ht, hi, E, G, hK, hok⟩ self hself
  have ht : t = (i : Int) := ht
  have G : VGw h0.size (· < h0.size) hh r css o := G
  subst ht
  unfold rambleref23_columns_l1
  rw [hxl]
  refine ite_w (fun hlt => ?_) (fun hend => ?_)
  · have hlt : i < l.length := by have := of_decide_eq_true hlt; omega
    have hxS : VsRepS (· < h0.size) hh x l := hx.lt.same (fun b hb => E.same b hb) (fun _ h => h)
    obtain ⟨a, cs, ha, hS, hs, hcs, hv⟩ := hxS.get hlt
    have htk := okTab_take hlt
    rw [hok, Bool.true_and] at htk
    have hbad := okTab_bad hlt
    have hkt := keysOf_take hlt
    have hwi := wts_mem (List.getElem_mem hlt)
    have hkp := keysOf_len_take l (i + 1)
    have hevi := hev l[i] (List.getElem_mem hlt)
    generalize hvi : l[i] = vi at *
    obtain ⟨k, n, s, lv⟩ := vi
    obtain ⟨xs, rfl, k1, n1, s1, r1⟩ := VRepS.eq.1 hv
    have hwt : wt (.mk k n s lv) = 1 + s.length + wt.wts lv := by rw [wt]
    have hlv := wts_len lv
    have hxsl := r1.len
    -- the map's cells, later on
    have hcl : ∀ {hz : Heap}, Ext hh hz → ∀ m, m < 4 → Gx.hcell hz (a.add (i * 4 + m)) = (vcells k n s xs)[m]? := fun {hz} e m hm => by
      have h1 := hcs m hm
      have h2 : (vcells k n s xs)[m]? = some ((vcells k n s xs)[m]'(by rw [hs]; exact hm)) := Array.getElem?_eq_getElem _
      rw [h2] at h1 ⊢
      exact e.cell h1
    have ixa : ∀ {β : Type} {hz : Heap} {Q' : β → Heap → Prop} {f : Addr → M β}, (f (a.add (i * 4))).wp hz Q' → (ixL x (i : Int) 4 >>= f).wp hz Q' := fun hq => by
      refine ixL_b (by omega) (by omega) ha ?_
      rw [show (i : Int).toNat * 4 = i * 4 by omega]
      exact hq
    refine ixa (ldI_b (n := k) (by rw [Addr.add_add, hcl (Ext.refl _) 0 (by decide)]; rfl) (ite_w (fun hk => ?_) (fun hk => ?_)))
    · have hk : ¬ k = 5 := by simpa using hk
      exact pure_w (H2 _ E (hbad (by rw [show (Vl.mk k n s lv).k = k from rfl, decide_eq_false hk]; rfl)))
    have hk : k = 5 := by simpa using hk
    have heven : lv.length % 2 = 0 := hevi hk
    have hevl := evens_len lv
    refine M.loop_inv (fun (s : Sl × Int) hz => ∃ (j : Nat) (css : List (Array Value)) (o : List Vl), s.2 = ((2 * j : Nat) : Int) ∧ j ≤ (evens lv).length ∧ Ext hh hz ∧ VGw h0.size (· < h0.size) hz s.1 css o ∧ InK (keysOf (l.take i) ++ (evens lv).take j) o ∧ ((evens lv).take j).all (fun k => decide (k.k = 2)) = true) (fun s _ => ((lv.length : Int) + 2 - s.2).toNat) ?_ ⟨0, css, o, rfl, Nat.zero_le _, Ext.refl _, G, by simpa using hK, by simp⟩
    rintro ⟨r2, t2⟩ hz ⟨j, css2, o2, ht2, hj, E2, G2, hK2, hall⟩ self2 hself2
    have ht2 : t2 = ((2 * j : Nat) : Int) := ht2
    have G2 : VGw h0.size (· < h0.size) hz r2 css2 o2 := G2
    subst ht2
    unfold rambleref23_columns_l2
    have E02 := E.trans E2
    refine ixa (ldL_b (n := xs) (by rw [Addr.add_add, hcl E2 3 (by decide)]; rfl) ?_)
    have hw1 : IntKind.wrap .i64 (((2 * j : Nat) : Int) + 1) = ((2 * j + 1 : Nat) : Int) := by rw [w64 (by omega) (by omega)]; simp
    rw [hw1, hxsl]
    rw [hkt, List.length_append] at hkp
    have hkpe : (keysOf (l.take i)).length + (evens lv).length ≤ wt.wts l := hkp
    refine ite_w (fun hjl => ?_) (fun hje => ?_)
    · have hjl : 2 * j + 1 < lv.length := by have := of_decide_eq_true hjl; omega
      have hje : j < (evens lv).length := by omega
      have hget := evens_get lv j (by omega) hje
      have rS : VsRepS (· < h0.size) hz xs lv := r1.same (fun b hb => E2.same b (by have := E.size; omega)) (fun _ h => h)
      obtain ⟨a3, c3, ha3, hS3, hs3, hc3, hv3⟩ := rS.get (j := 2 * j) (by omega)
      refine ixa (ldL_b (n := xs) (by rw [Addr.add_add, hcl E2 3 (by decide)]; rfl) (ixL_b (by omega) (by omega) ha3 (ldG_b hs3 (fun m hm => by rw [Addr.add_add, show ((2 * j : Nat) : Int).toNat * 4 = 2 * j * 4 by omega]; exact hc3 m hm) (mkV_b (fun hA eA zA gA => need_b hs3 (stR (vs := c3) gA (by rw [hs3]; decide) hv3.to.one (fun hB uB gB => ?_)))))))
      rw [lay_full (by rw [Array.length_toList, hs3]; rfl), Array.toArray_toList] at gB
      have EB : Ext hz hB := eA.upd uB (Nat.le_refl _)
      have E0B := E02.trans EB
      have hvB : VRepS (· < h0.size) hB lv[2 * j] c3 := hv3.same (fun b hb => EB.same b (by have := E02.size; omega))
      have htka := all_take (p := fun k => decide (k.k = 2)) hje
      have hbada := all_bad (p := fun k => decide (k.k = 2)) hje
      have htks : (evens lv).take (j + 1) = (evens lv).take j ++ [lv[2 * j]] := by rw [List.take_succ_eq_append_getElem hje, hget]
      rw [hget] at htka hbada
      obtain ⟨kv, hkv⟩ : ∃ kv, kv = lv[2 * j] := ⟨_, rfl⟩
      rw [← hkv] at hvB htka hbada htks
      have hkk : ∃ kk, hcell hB ((⟨hz.size, 0, none⟩ : Addr).add 0) = some (.int .i64 kk) ∧ kv.k = kk := by
        obtain ⟨k9, n9, s9, l9⟩ := kv
        obtain ⟨x9, rfl, _⟩ := VRepS.eq.1 hvB
        exact ⟨k9, by rw [blk_cell gB]; rfl, rfl⟩
      obtain ⟨kk, hck, hkk⟩ := hkk
      refine ldI_b hck (ite_w (fun hk2 => ?_) (fun hk2 => ?_))
      · have hk2 : ¬ kk = 2 := by simpa using hk2
        refine pure_w (H2 _ E0B (hbad ?_))
        show (decide (k = 5) && (evens lv).all _) = false
        rw [hbada (by rw [hkk]; exact decide_eq_false hk2), Bool.and_false]
      have hk2 : kk = 2 := by simpa using hk2
      have GB : VGw h0.size (· < h0.size) hB r2 css2 o2 := G2.same (fun b hb => EB.same b (G2.gw.lt hb).1) (fun b hb => EB.same b (by have := E02.size; omega))
      have hol := hK2.len
      rw [List.length_append, List.length_take] at hol
      have hr2l : r2.len = o2.length := by rw [G2.gw.len4 G2.w4, G2.len]
      -- how it goes on
      have go : ∀ {hy : Heap} {r9 : Sl} {css9 : List (Array Value)} {o9 : List Vl}, Ext hB hy → VGw h0.size (· < h0.size) hy r9 css9 o9 → InK ((keysOf (l.take i) ++ (evens lv).take j) ++ [kv]) o9 → (rambleref23_columns_j1 self2 ((2 * j : Nat) : Int) r9).wp hy Q := fun {hy r9 css9 o9} e9 G9 K9 => by
        unfold rambleref23_columns_j1
        rw [w64 (by omega) (by omega)]
        refine hself2 (_, _) _ ⟨j + 1, css9, o9, by dsimp only; omega, by omega, (E2.trans EB).trans e9, G9, ?_, ?_⟩ (by dsimp only; omega)
        · rw [htks, ← List.append_assoc]; exact K9
        · rw [htka, hall, hkk]
          simp [hk2]
      refine M.loop_inv (fun (s : Int) hy => ∃ p : Nat, s = (p : Int) ∧ p ≤ o2.length ∧ Ext hB hy ∧ ∀ q (hq : q < o2.length), q < p → cmpV o2[q] kv < 0) (fun s _ => ((o2.length : Int) - s).toNat) ?_ ⟨0, rfl, Nat.zero_le _, Ext.refl _, fun q hq h => by omega⟩
      rintro s3 hy ⟨p, rfl, hp, ey, hlo⟩ self3 hself3
      unfold rambleref23_columns_l3
      rw [hr2l]
      have Gy : ∀ {hq : Heap}, Ext hB hq → VGw h0.size (· < h0.size) hq r2 css2 o2 := fun e => GB.same (fun b hb => e.same b (GB.gw.lt hb).1) (fun b hb => e.same b (by have := E0B.size; omega))
      -- put in
      have ins : ∀ {hq : Heap}, Ext hB hq → Pos o2 kv p → (∀ (hl : p < o2.length), ¬ cmpV o2[p] kv = 0) → (rambleref23_columns_j3 self2 r2 ((2 * j : Nat) : Int) ⟨hz.size, 0, none⟩ (p : Int) true).wp hq Q := fun {hq} e hpos hne => by
        unfold rambleref23_columns_j3
        refine iteT rfl ?_
        exact insert_b (b7 := hz.size) (E0B.trans e) (Gy e) (hvB.same (fun b hb => e.same b (by have := E0B.size; omega))) (e.blk gB) hpos.le (by omega) (fun hw r9 css9 ew G9 => go (e.trans ew) G9 (ins_new hK2 hpos hne))
      refine ite_w (fun hpl => ?_) (fun hpe => ?_)
      · have hpl : p < o2.length := by have := of_decide_eq_true hpl; omega
        have Gp := (Gy ey).rep_ (by omega)
        refine ixV_b Gp.to hpl rfl (fun a4 c4 hs4 hc4 hv4 => ldG_b hs4 hc4 (ldV_b (v := kv) (ey.blk gB) hs3 ?_))
        refine bind_w (rcompare_spec hv4 (hvB.same (fun b hb => ey.same b (by have := E0B.size; omega))).to (fun h5 e5 => ?_))
        have ey5 := ey.trans e5
        unfold rambleref23_columns_j2
        refine ite_w (fun hneg => ?_) (fun hpos => ?_)
        · have hneg : cmpV o2[p] kv < 0 := of_decide_eq_true hneg
          rw [w64 (by omega) (by omega)]
          exact hself3 _ _ ⟨p + 1, by simp, by omega, ey5, fun q hq hqp => by
            by_cases hqe : q = p
            · subst hqe; exact hneg
            · exact hlo q hq (by omega)⟩ (by omega)
        · have hpos : ¬ cmpV o2[p] kv < 0 := of_decide_eq_false hpos
          have hP : Pos o2 kv p := ⟨hp, hlo, fun _ => hpos⟩
          rw [hr2l]
          refine iteF (by rw [beq_eq_false_iff_ne]; omega) ?_
          have Gp5 := (Gy ey5).rep_ (by omega)
          refine ixV_b Gp5.to hpl rfl (fun a6 c6 hs6 hc6 hv6 => ldG_b hs6 hc6 (ldV_b (v := kv) (ey5.blk gB) hs3 ?_))
          refine bind_w (rsame_spec hv6 (hvB.same (fun b hb => ey5.same b (by have := E0B.size; omega))).to (fun h7 e7 => ?_))
          have ey7 := ey5.trans e7
          by_cases he : cmpV o2[p] kv = 0
          · rw [decide_eq_true he]
            unfold rambleref23_columns_j3
            exact iteF rfl (go ey7 (Gy ey7) (ins_old hK2 hpl he))
          · rw [decide_eq_false he]
            exact ins ey7 hP (fun _ => he)
      · have hpe : p = o2.length := by have := of_decide_eq_false hpe; omega
        have hP : Pos o2 kv p := ⟨hp, hlo, fun h => by omega⟩
        unfold rambleref23_columns_j2
        rw [hr2l]
        refine iteF rfl (iteT (by rw [beq_iff_eq]; omega) ?_)
        exact ins ey hP (fun h => by omega)
    · have hje : j = (evens lv).length := by have := of_decide_eq_false hje; omega
      subst hje
      rw [List.take_length] at hK2 hall
      rw [w64 (by omega) (by omega)]
      refine hself (_, _) _ ⟨i + 1, css2, o2, by simp, by omega, E02, G2, ?_, ?_⟩ (by dsimp only; omega)
      · rw [hkt]; exact hK2
      · rw [htk]
        show (decide (k = 5) && (evens lv).all _) = true
        rw [decide_eq_true hk, hall]; rfl
  · have hge : i = l.length := by have := of_decide_eq_false hend; omega
    subst hge
    rw [List.take_length] at hK hok
    exact pure_w (H1 _ _ _ _ E hok hK G)
end Gx
namespace Gx
open Go
set_option linter.unusedVariables false
set_option linter.unusedSimpArgs false
/-! ### rambleref23.Table -/
def rowsT (C l : List Vl) : List (List (List UInt8)) := C.map txV :: l.map (fun v => C.map (cellT v))
theorem tabT_rows (C l : List Vl) : tabT C l = (rowsT C l).flatMap lineT := by
  unfold tabT rowsT
  rw [List.flatMap_cons, List.flatMap_map]
theorem rows_pre {R : List (List (List UInt8))} (i : Nat) : ((R.take i).flatMap lineT).length ≤ (R.flatMap lineT).length := by
  conv => rhs; rw [← List.take_append_drop i R, List.flatMap_append, List.length_append]
  omega
theorem rtable_spec {h0 : Heap} {Q : ByteArray × Int → Heap → Prop} {x : Sl} {l : List Vl} (hx : VsRep h0 x l) (hW : wt.wts l ≤ 1048576)
    (H1 : ∀ h', Ext h0 h' → checkVs l ≠ 0 → Q (ByteArray.empty, checkVs l) h')
    (H2 : ∀ h', Ext h0 h' → checkVs l = 0 → okTab l = false → Q (ByteArray.empty, 21) h')
    (H3 : ∀ h' C, Ext h0 h' → checkVs l = 0 → okTab l = true → Cols l C → Q (bs (tabT C l), 0) h') : (rambleref23_Table x).wp h0 Q := by
  unfold rambleref23_Table
  have hxl := hx.len
  have hwl := wts_len l
  have hkl := keys_len l
  have hvr : ∀ v ∈ l, ∃ h cs, VRep h v cs := fun v hv => by
    obtain ⟨j, hj, rfl⟩ := List.getElem_of_mem hv
    obtain ⟨a, c, _, _, _, hv'⟩ := hx.get hj
    exact ⟨h0, c, hv'⟩
  refine bind_w (rcheck23_spec hx (fun h1 e1 => ?_))
  refine ite_w (fun hc => ?_) (fun hc => ?_)
  · exact pure_w (H1 _ e1 (by simpa using hc))
  have hc : checkVs l = 0 := by simpa using hc
  have E1s := e1.size
  refine bind_w (rcolumns_spec (hx.ext e1) (fun v hv h5 => may_even (checkVs_all hc v hv) h5) hW (fun h2 r css C e2 hok hcols G => ?_) (fun h2 e2 hbad => iteT rfl (pure_w (H2 _ (e1.trans e2) hc hbad))))
  refine iteF rfl ?_
  have E2 := e1.trans e2
  have hCl : C.length ≤ wt.wts l := by have := (show InK (keysOf l) C from hcols).len; omega
  have htab := tab_len hvr hCl (fun k hk => (hcols.2 k).1 hk) hW
  rw [tabT_rows] at htab
  have hCr : VsRep h2 r C := (G.rep_ (by omega)).to
  have hrl := hCr.len
  have hRl : (rowsT C l).length = l.length + 1 := by simp [rowsT]
  refine M.loop_inv (fun (s : ByteArray × Int) hh => ∃ m : Nat, s = (bs (((rowsT C l).take m).flatMap lineT), (m : Int) - 1) ∧ m ≤ l.length + 1 ∧ Ext h2 hh) (fun s _ => ((l.length : Int) - s.2).toNat) ?_ ⟨0, by simp [bs_empty], by omega, Ext.refl _⟩
  rintro s hh ⟨m, rfl, hm, E⟩ self hself
  unfold rambleref23_Table_l1
  dsimp only
  rw [hxl]
  have E0 := E2.trans E
  refine ite_w (fun hlt => ?_) (fun hend => ?_)
  · have hlt : m < l.length + 1 := by have := of_decide_eq_true hlt; omega
    have hmR : m < (rowsT C l).length := by omega
    have hpm := rows_pre (R := rowsT C l) m
    have hpm1 := rows_pre (R := rowsT C l) (m + 1)
    have htk : ((rowsT C l).take (m + 1)).flatMap lineT = ((rowsT C l).take m).flatMap lineT ++ lineT ((rowsT C l)[m]) := by
      rw [List.take_succ_eq_append_getElem hmR, List.flatMap_append]; simp
    rw [htk, List.length_append] at hpm1
    obtain ⟨T, hT⟩ : ∃ T, T = (rowsT C l)[m] := ⟨_, rfl⟩
    rw [← hT] at htk hpm1
    have hTl : T.length = C.length := by
      rw [hT]
      cases m with
      | zero => simp [rowsT]
      | succ m => simp [rowsT]
    have hlt2 : (lineT T).length = (jn [32, 124, 32] T).length + 1 := by simp [lineT]
    generalize hpre : ((rowsT C l).take m).flatMap lineT = pre at *
    refine M.loop_inv (fun (s : ByteArray × Int) hz => ∃ p : Nat, s = (bs (pre ++ jn [32, 124, 32] (T.take p)), (p : Int)) ∧ p ≤ C.length ∧ Ext hh hz) (fun s _ => ((C.length : Int) - s.2).toNat) ?_ ⟨0, by simp [jn], Nat.zero_le _, Ext.refl _⟩
    rintro s hz ⟨p, rfl, hp, Ez⟩ self2 hself2
    unfold rambleref23_Table_l2
    dsimp only
    rw [hrl]
    have hjp := jn_pre [32, 124, 32] T p (by omega)
    refine ite_w (fun hpl => ?_) (fun hpe => ?_)
    · have hpl : p < C.length := by have := of_decide_eq_true hpl; omega
      have hpT : p < T.length := by omega
      have hjp1 := jn_pre [32, 124, 32] T (p + 1) (by omega)
      have hjt := jn_take (sep := [32, 124, 32]) hpT
      have hCz := hCr.ext (E.trans Ez)
      have hxz := hx.ext (E0.trans Ez)
      -- behind the bar
      have tail : ∀ (q : List UInt8), q ++ T[p] = pre ++ jn [32, 124, 32] (T.take (p + 1)) → (rambleref23_Table_j2 self2 x r ((m : Int) - 1) (p : Int) (bs q)).wp hz Q := fun q hq => by
        have hql := congrArg List.length hq
        rw [List.length_append, List.length_append] at hql
        have go : ∀ {hy : Heap}, Ext hz hy → (sCat (bs q) (bs T[p]) >>= fun y => rambleref23_Table_j1 self2 (p : Int) y).wp hy Q := fun {hy} e => by
          refine sCat_b (by omega) ?_
          unfold rambleref23_Table_j1
          rw [hq, w64 (by omega) (by omega)]
          exact hself2 (_, _) _ ⟨p + 1, by simp, by omega, Ez.trans e⟩ (by dsimp only; omega)
        unfold rambleref23_Table_j2
        refine ite_w (fun hneg => ?_) (fun hpos => ?_)
        · have hm0 : m = 0 := by have := of_decide_eq_true hneg; omega
          have hTp : T[p] = txV C[p] := by subst hm0; subst hT; simp [rowsT]
          refine ixV_b hCz hpl rfl (fun a c hs hcs hv => ldG_b hs hcs (bind_w (rText_spec hv ?_ (fun h5 e5 => ?_))))
          · obtain ⟨a9, _⟩ := keys_wt ((hcols.2 C[p]).1 (List.getElem_mem hpl))
            have := txt_wt 8 _ hv
            show (txt 8 C[p]).length ≤ _
            omega
          · rw [show bs (txV C[p]) = bs T[p] by rw [hTp]]
            exact go e5
        · obtain ⟨m', rfl⟩ : ∃ m', m = m' + 1 := ⟨m - 1, by have := of_decide_eq_false hpos; omega⟩
          have hm' : m' < l.length := by omega
          have hTp : T[p] = cellT l[m'] C[p] := by subst hT; simp [rowsT]
          have hi : (((m' + 1 : Nat) : Int) - 1) = (m' : Int) := by omega
          rw [hi]
          have hwm := wts_mem (List.getElem_mem hm')
          refine ixV_b hxz hm' rfl (fun a c hs hcs hv => ixV_b hCz hpl rfl (fun a2 c2 hs2 hcs2 hk => ldG_b hs hcs (ldG_b hs2 hcs2 ?_)))
          have hmk : okTab l = true := hok
          have h5k : l[m'].k = 5 := by
            unfold okTab at hmk
            rw [List.all_eq_true] at hmk
            have := hmk l[m'] (List.getElem_mem hm')
            rw [Bool.and_eq_true] at this
            exact of_decide_eq_true this.1
          have hkeep : ∀ {hy : Heap} {c : Array Value} {a : Addr}, Ext hz hy → c.size = 4 → (∀ j, j < 4 → hcell hz (a.add j) = c[j]?) → (c.size = 4 ∧ ∀ j, j < 4 → hcell hy (Addr.add a j) = c[j]?) := fun {hy c a} e hs hcs => ⟨hs, fun j hj => by
            have h1 := hcs j hj
            have h2 : c[j]? = some (c[j]'(by omega)) := Array.getElem?_eq_getElem _
            rw [h2] at h1 ⊢
            exact e.cell h1⟩
          have hlen : l[m'].l.length ≤ 1099511627776 := by
            have h9 := wts_len l[m'].l
            cases hl : l[m'] with
            | mk k n s lv =>
              rw [hl] at hwm h9
              rw [wt] at hwm
              have h9 : lv.length ≤ wt.wts lv := h9
              show lv.length ≤ _
              omega
          -- what was got
          have fin : ∀ {hy : Heap} {b : Nat} {g : Array Value}, Ext hz hy → hy[b]? = some (.cells (#[.int .i64 0, .int .i64 0, .string ByteArray.empty, .slice none 0 0] : Array Value) ty_api_Value (0, 0)) → hz.size ≤ b → VRepS (· ≠ b) hy (optV (getM l[m'] C[p])) g → (M.need (g.size = 4) >>= fun _ => stG ⟨b, 0, none⟩ g >>= fun _ => M.ite (getM l[m'] C[p]).isSome (ldG 4 ⟨b, 0, none⟩ >>= fun x63 => rambleref02_Text x63 >>= fun x64 => sCat (bs q) x64 >>= fun y => rambleref23_Table_j1 self2 (p : Int) y) (sCat (bs q) (⟨#[45]⟩ : ByteArray) >>= fun y => rambleref23_Table_j1 self2 (p : Int) y)).wp hy Q := fun {hy b g} e hb hbz hg => by
            refine need_b hg.size (stR (vs := g) hb (by rw [hg.size]; decide) hg.to.one (fun h6 u6 g6 => ?_))
            rw [lay_full (by rw [Array.length_toList, hg.size]; rfl), Array.toArray_toList] at g6
            have e6 : Ext hz h6 := e.upd u6 hbz
            have hg6 : VRep h6 (optV (getM l[m'] C[p])) g := (hg.same (fun b1 hb1 => u6.ne b1 hb1)).to
            have hgm : getM l[m'] C[p] = getV C[p] l[m'].l := by
              unfold getM; rw [if_pos h5k]
            rw [hgm] at hg6 ⊢
            have hct : cellT l[m'] C[p] = match getV C[p] l[m'].l with | some x => txV x | none => [45] := rfl
            rw [hct] at hTp
            cases hgv : getV C[p] l[m'].l with
            | none =>
              rw [hgv] at hTp
              have hTp : T[p] = [45] := hTp
              refine iteF rfl ?_
              rw [show (⟨#[45]⟩ : ByteArray) = bs T[p] by rw [hTp]]
              exact go e6
            | some y =>
              rw [hgv] at hTp hg6
              have hTp : T[p] = txV y := hTp
              have hg6 : VRep h6 y g := hg6
              have hce := cell_le (k := C[p]) hv
              rw [hct, hgv] at hce
              have hce : (txt 8 y).length ≤ 26 * wt l[m'] := hce
              refine iteT rfl (ldV_b (v := y) g6 hg.size (bind_w (rText_spec hg6 ?_ (fun h7 e7 => ?_))))
              · show (txt 8 y).length ≤ _
                omega
              · rw [show bs (txV y) = bs T[p] by rw [hTp]]
                exact go (e6.trans e7)
          refine bind_w (both_w ?_ ?_)
          · refine bind_w (rget_spec hv.lt (fun b hb => hb) hk hlen (fun h5 g e5 hg => chk_b ⟨hkeep e5 hs hcs, hkeep e5 hs2 hcs2⟩ (mkV_b (fun h6 e6 z6 g6 => chk_b ⟨hkeep (e5.trans e6) hs hcs, hkeep (e5.trans e6) hs2 hcs2⟩ (pure_w ?_)))))
            exact fin (e5.trans e6) g6 e5.size ((hg.same (fun b1 hb1 => e6.same b1 (by have := e5.size; omega))).mono (fun b1 hb1 => by have := e5.size; omega))
          · refine mkV_b (fun h5 e5 z5 g5 => chk_b ⟨hkeep e5 hs hcs, hkeep e5 hs2 hcs2⟩ (bind_w (rget_spec (hv.lt.same (fun b1 hb1 => e5.same b1 hb1)) (fun b1 hb1 => by have := e5.size; omega) (hk.ext e5) hlen (fun h6 g e6 hg => pure_w ?_))))
            exact fin (e5.trans e6) (e6.blk g5) (Nat.le_refl _) (hg.mono (fun b1 hb1 => by omega))
      refine ite_w (fun hp0 => ?_) (fun hp0 => ?_)
      · have hp0 : ¬ p = 0 := by have := of_decide_eq_true hp0; omega
        rw [if_neg hp0] at hjt
        have hl2 := congrArg List.length hjt
        rw [List.length_append, List.length_append] at hl2
        refine sCat_b (y := [32, 124, 32]) (by rw [List.length_append]; simp; omega) ?_
        exact tail _ (by rw [hjt]; simp)
      · have hp0 : p = 0 := by have := of_decide_eq_false hp0; omega
        exact tail _ (by rw [hjt, if_pos hp0]; subst hp0; simp [jn])
    · have hpe : p = T.length := by have := of_decide_eq_false hpe; omega
      subst hpe
      rw [List.take_length]
      refine sCat_b (y := [10]) (by rw [List.length_append]; simp; omega) ?_
      rw [w64 (by omega) (by omega)]
      refine hself (_, _) _ ⟨m + 1, ?_, by omega, E.trans Ez⟩ (by dsimp only; omega)
      rw [htk]
      unfold lineT
      rw [← List.append_assoc]
      congr 1; omega
  · have hge : m = (rowsT C l).length := by have := of_decide_eq_false hend; omega
    subst hge
    rw [List.take_length, ← tabT_rows]
    exact pure_w (H3 _ _ E0 hc hok hcols)
end Gx
namespace Gx
open Go
set_option linter.unusedVariables false
set_option linter.unusedSimpArgs false
/-! ### result.List, and what the law is begun with -/
def listT (l : List Vl) : List UInt8 := l.flatMap (fun v => txV v ++ [10])
theorem listT_len {l : List Vl} (hr : ∀ v ∈ l, ∃ h cs, VRep h v cs) : (listT l).length ≤ 26 * wt.wts l := by
  induction l with
  | nil => simp [listT]
  | cons v l ih =>
    have ih := ih (fun x hx => hr x (List.mem_cons_of_mem _ hx))
    obtain ⟨h, cs, hv⟩ := hr v (by simp)
    have := txt_wt 8 v hv
    unfold listT at ih ⊢
    rw [List.flatMap_cons, List.length_append, List.length_append, wt.wts]
    show (txt 8 v).length + _ + _ ≤ _
    simp only [List.length_cons, List.length_nil]
    omega
theorem vlist_spec {h : Heap} {Q : ByteArray × Int → Heap → Prop} {x : Sl} {l : List Vl} (hx : VsRep h x l) (hp : PowTab h) (hd : DbTab h) (hW : wt.wts l ≤ 1099511627)
    (H1 : ∀ h', Ext h h' → checkVs l ≠ 0 → Q (ByteArray.empty, checkVs l) h')
    (H3 : ∀ h', Ext h h' → checkVs l = 0 → Q (bs (listT l), 0) h') : (result_List x).wp h Q := by
  unfold result_List
  have hxl := hx.len
  have hwl := wts_len l
  have hvr : ∀ v ∈ l, ∃ h cs, VRep h v cs := fun v hv => by
    obtain ⟨j, hj, rfl⟩ := List.getElem_of_mem hv
    obtain ⟨a, c, _, _, _, hv'⟩ := hx.get hj
    exact ⟨h, c, hv'⟩
  refine bind_w (vfirst_spec hx (fun h1 e1 => ?_))
  refine ite_w (fun hc => pure_w (H1 _ e1 (by simpa using hc))) (fun hc => ?_)
  have hc : checkVs l = 0 := by simpa using hc
  refine mkV_b (fun h2 e2 z2 g2 => ?_)
  have E2 := e1.trans e2
  have hT := listT_len hvr
  have hpre : ∀ i, (listT (l.take i)).length ≤ (listT l).length := fun i => by
    unfold listT
    conv => rhs; rw [← List.take_append_drop i l, List.flatMap_append, List.length_append]
    omega
  refine M.loop_inv (fun (s : Int) hh => ∃ (i : Nat) (r : Sl), s = (i : Int) ∧ i ≤ l.length ∧ Ext h1 hh ∧ Bld h1.size hh h1.size r (listT (l.take i))) (fun s _ => ((l.length : Int) - s).toNat) ?_ ⟨0, Sl.nil, rfl, Nat.zero_le _, e2, by simpa [listT] using Bld.new (Nat.le_refl _) g2⟩
  rintro s hh ⟨i, r, rfl, hi, E, B⟩ self hself
  unfold result_List_l1
  rw [hxl]
  have hpi := hpre i
  refine ite_w (fun hlt => ?_) (fun hend => ?_)
  · have hlt : i < l.length := by have := of_decide_eq_true hlt; omega
    have hpi1 := hpre (i + 1)
    have htk : listT (l.take (i + 1)) = listT (l.take i) ++ txV l[i] ++ [10] := by
      unfold listT
      rw [List.take_succ_eq_append_getElem hlt, List.flatMap_append]; simp
    rw [htk, List.length_append, List.length_append] at hpi1
    have E0 := e1.trans E
    refine ixV_b (hx.ext E0) hlt rfl (fun a cs hs hcs hv => ldG_b hs hcs (mkV_b (fun h3 e3 z3 g3 => need_b hs (stR (vs := cs) g3 (by rw [hs]; decide) hv.one (fun h4 u4 g4 => ?_)))))
    rw [lay_full (by rw [Array.length_toList, hs]; rfl), Array.toArray_toList] at g4
    have E4 : Ext hh h4 := e3.upd u4 (Nat.le_refl _)
    have hw := wts_mem (List.getElem_mem hlt)
    refine ldV_b (v := l[i]) g4 hs (bind_w (vText_spec (hv.ext E4) (hp.ext (E0.trans E4)) (hd.ext (E0.trans E4)) ?_ (fun h5 e5 => ?_)))
    · have := txt_wt 8 _ hv
      show (txt 8 l[i]).length ≤ _
      omega
    · have B5 := (B.ext E4).ext e5
      have E5 := (E.trans E4).trans e5
      simp only [List.length_cons, List.length_nil] at hpi1
      refine bind_w (wstr_spec B5 E5.size (by omega) (fun h6 r6 n6 B6 K6 => ?_))
      have E6 := K6.ext E5 B5 (Nat.le_refl _)
      refine bind_w (wbyte_spec (c := 10) B6 E6.size (by rw [List.length_append]; omega) rfl (fun h7 r7 B7 K7 => ?_))
      rw [w64 (by omega) (by omega)]
      exact hself _ _ ⟨i + 1, r7, by simp, by omega, K7.ext E6 B6 (Nat.le_refl _), by rw [htk]; exact B7⟩ (by omega)
  · have hge : i = l.length := by have := of_decide_eq_false hend; omega
    subst hge
    rw [List.take_length] at B
    exact bind_w (bstr_spec B (by omega) (fun h3 K3 _ => pure_w (H3 _ (e1.trans (K3.ext E B (Nat.le_refl _))) hc)))
theorem cells_one4 (k n : Int) (s : ByteArray) : ∀ v ∈ (#[.int .i64 k, .int .i64 n, .string s, .slice none 0 0] : Array Value).toList, one v = true := fun v hv => by
  simp at hv; rcases hv with rfl | rfl | rfl | rfl <;> rfl
theorem rstr_spec {s : List UInt8} {h : Heap} {Q : Array Value → Heap → Prop} (hs : s.length ≤ 1048576) (H : ∀ h' c, Ext h h' → (∀ S h2, VRepS S h2 (.mk 2 0 s []) c) → Q c h') : (rambleref02_Str (bs s)).wp h Q := by
  unfold rambleref02_Str
  refine mkV_b (fun h1 e1 z1 g1 => need_b rfl (stR (vs := (#[.int .i64 2, .int .i64 0, .string (bs s), .slice none 0 0] : Array Value)) (off := 0) g1 (Nat.le_refl 4) (cells_one4 _ _ _) (fun h2 u2 g2 => ?_)))
  rw [lay_full (by rfl)] at g2
  refine ldR g2 rfl (pure_w (H _ _ (e1.upd u2 (Nat.le_refl _)) (fun S h3 => VRepS.eq.2 ⟨Sl.nil, rfl, ⟨by decide, by decide⟩, ⟨by decide, by decide⟩, by omega, rfl, Nat.le_refl _, by decide, by rw [VsAtS]; trivial⟩)))
theorem rint_spec {n : Int} {h : Heap} {Q : Array Value → Heap → Prop} (hn : I64 n) (H : ∀ h' c, Ext h h' → (∀ S h2, VRepS S h2 (.mk 1 n [] []) c) → Q c h') : (rambleref02_Int n).wp h Q := by
  unfold rambleref02_Int
  refine mkV_b (fun h1 e1 z1 g1 => need_b rfl (stR (vs := (#[.int .i64 1, .int .i64 n, .string ByteArray.empty, .slice none 0 0] : Array Value)) (off := 0) g1 (Nat.le_refl 4) (cells_one4 _ _ _) (fun h2 u2 g2 => ?_)))
  rw [lay_full (by rfl)] at g2
  refine ldR g2 rfl (pure_w (H _ _ (e1.upd u2 (Nat.le_refl _)) (fun S h3 => VRepS.eq.2 ⟨Sl.nil, rfl, ⟨by decide, by decide⟩, hn, by decide, rfl, Nat.le_refl _, by decide, by rw [VsAtS]; trivial⟩)))
theorem fillL2_b {β : Type} {h : Heap} {Q : β → Heap → Prop} {z a b : Array Value} {f : Array Value → M β} (ha : a.size = 4) (hb : b.size = 4) (H : (f (a ++ b)).wp h Q) : (fillL 4 2 z [(0, .agg a), (1, .agg b)] >>= f).wp h Q := by
  refine ⟨a ++ b, ?_, H⟩
  have hz : (zRow z (2 * 4)).size = 8 := by simp [zRow]
  show Instr.fill (fun i => some (i * 4, 4)) (zRow z (2 * 4)) [(0, Value.agg a), (1, Value.agg b)] = some (a ++ b)
  rw [fill_cons (off := 0) (size := 4) (v := Value.agg a) (by simp) ha (by omega), fill_cons (off := 4) (size := 4) (v := Value.agg b) (by simp) hb (by rw [lay_size]; omega)]
  show some _ = some _
  rw [show (Value.agg a).cells = a from rfl, show (Value.agg b).cells = b from rfl]
  congr 1
  apply Array.ext'
  rw [lay_toList _ _ _ (by rw [lay_size, Array.length_toList]; omega), lay_toList _ _ _ (by rw [Array.length_toList]; omega)]
  have h1 : a.toList.length = 4 := by rw [Array.length_toList]; exact ha
  have h2 : b.toList.length = 4 := by rw [Array.length_toList]; exact hb
  have h3 : (zRow z (2 * 4)).toList.length = 8 := by rw [Array.length_toList]; exact hz
  rw [List.take_zero, List.nil_append, Array.toList_append, List.take_append_of_le_length (by omega), List.take_of_length_le (by omega), h1, h2]
  rw [List.drop_eq_nil_iff.2 (by rw [List.length_append, List.length_drop]; omega), List.append_nil]
theorem two_rep {S : Nat → Prop} {h : Heap} {b : Nat} {va vb : Vl} {a c : Array Value} {t : TypeId} (hb : h[b]? = some (.cells (a ++ c) t (0, 0))) (ha : VRepS S h va a) (hc : VRepS S h vb c) : VsRepS (fun i => S i ∨ i = b) h ⟨some ⟨b, 0, none⟩, 2, 2⟩ [va, vb] := by
  refine ⟨rfl, Nat.le_refl _, by show (2 : Nat) ≤ 9223372036854775807; decide, ?_⟩
  rw [VsAtS, VsAtS, VsAtS]
  have h1 := ha.size
  have h2 := hc.size
  refine ⟨⟨_, a, rfl, .inr rfl, h1, fun j hj => ?_, ha.mono (fun i hi => .inl hi)⟩, ⟨_, c, rfl, .inr rfl, h2, fun j hj => ?_, hc.mono (fun i hi => .inl hi)⟩, trivial⟩
  · rw [add_mk, Nat.zero_add, hcell_blk hb, Array.getElem?_append_left (by omega)]
    congr 1; omega
  · rw [add_mk, Nat.zero_add, hcell_blk hb, Array.getElem?_append_right (by omega)]
    congr 1; omega
end Gx
namespace Gx
open Go
set_option linter.unusedVariables false
set_option linter.unusedSimpArgs false
/-! ### ramblelaw23.begun -/
def vS (s : List UInt8) : Vl := .mk 2 0 s []
def vI (n : Int) : Vl := .mk 1 n [] []
def vM (l : List Vl) : Vl := .mk 5 0 [] l
def bm1 : Vl := vM [vS [120], vI 1]
def bm2 : Vl := vM [vS [121], vI 2]
theorem bg_check : checkVs [bm1, bm2] = 0 := by
  simp [checkVs, checkV, bm1, bm2, vM, vS, vI, mayV, bareV, risesL]
theorem bg_ok : okTab [bm1, bm2] = true := by
  simp [okTab, bm1, bm2, vM, vS, vI, evens, Vl.k, Vl.l]
theorem bg_keys : keysOf [bm1, bm2] = [vS [120], vS [121]] := by
  simp [keysOf, bm1, bm2, vM, vS, vI, evens, Vl.l]
theorem bg_lt : cmpV (vS [120]) (vS [121]) = -1 := by
  unfold vS
  rw [cmpV_mk]
  rfl
theorem bg_cols : Cols [bm1, bm2] [vS [120], vS [121]] := by
  refine ⟨?_, fun x => by rw [bg_keys]⟩
  unfold Inc
  rw [List.pairwise_cons]
  refine ⟨fun y hy => ?_, List.pairwise_singleton _ _⟩
  simp at hy
  subst hy
  rw [bg_lt]; decide
theorem vS_eq (s t : List UInt8) : cmpV (vS s) (vS t) = 0 ↔ s = t := by
  rw [cmpV_eq]; simp [vS]
theorem itoa_small : Lib.itoa 1 = [49] ∧ Lib.itoa 2 = [50] := by
  constructor <;> simp [Lib.itoa, Lib.decDigits]
theorem txV_S (s : List UInt8) : txV (vS s) = quoteB s := by simp [txt, vS]
theorem txV_I (n : Int) : txV (vI n) = Lib.itoa n := by simp [txt, vI]
theorem bg_tab : tabT [vS [120], vS [121]] [bm1, bm2] = [39, 120, 39, 32, 124, 32, 39, 121, 39, 10, 49, 32, 124, 32, 45, 10, 45, 32, 124, 32, 50, 10] := by
  have h1 : cellT bm1 (vS [120]) = [49] := by
    show (match getV (vS [120]) [vS [120], vI 1] with | some x => txV x | none => [45]) = _
    rw [getV, if_pos ((vS_eq _ _).2 rfl)]
    show txV (vI 1) = _
    rw [txV_I, itoa_small.1]
  have h2 : cellT bm1 (vS [121]) = [45] := by
    show (match getV (vS [121]) [vS [120], vI 1] with | some x => txV x | none => [45]) = _
    rw [getV, if_neg (fun h => by have := (vS_eq _ _).1 h; simp at this)]
    rfl
  have h3 : cellT bm2 (vS [120]) = [45] := by
    show (match getV (vS [120]) [vS [121], vI 2] with | some x => txV x | none => [45]) = _
    rw [getV, if_neg (fun h => by have := (vS_eq _ _).1 h; simp at this)]
    rfl
  have h4 : cellT bm2 (vS [121]) = [50] := by
    show (match getV (vS [121]) [vS [121], vI 2] with | some x => txV x | none => [45]) = _
    rw [getV, if_pos ((vS_eq _ _).2 rfl)]
    show txV (vI 2) = _
    rw [txV_I, itoa_small.2]
  have q1 : quoteB [120] = [39, 120, 39] := by decide
  have q2 : quoteB [121] = [39, 121, 39] := by decide
  simp only [tabT, List.map_cons, List.map_nil, List.flatMap_cons, List.flatMap_nil, lineT, jn, txV_S, h1, h2, h3, h4, q1, q2]
  decide
theorem bg_list : checkVs [vI 1, vS [97]] = 0 ∧ listT [vI 1, vS [97]] = [49, 10, 39, 97, 39, 10] := by
  refine ⟨by simp [checkVs, checkV, vS, vI, mayV, bareV], ?_⟩
  have q : quoteB [97] = [39, 97, 39] := by decide
  simp only [listT, List.flatMap_cons, List.flatMap_nil, txV_S, txV_I, itoa_small.1, q]
  decide
end Gx
namespace Gx
open Go
set_option linter.unusedVariables false
set_option linter.unusedSimpArgs false
theorem begun23_spec {h : Heap} {Q : Bool → Heap → Prop} (hp : PowTab h) (hd : DbTab h) (H : ∀ h', Ext h h' → Q true h') : (ramblelaw23_begun).wp h Q := by
  unfold ramblelaw23_begun
  have vm : ∀ {S : Nat → Prop} {hh : Heap} {x : Sl} {l : List Vl}, VsRepS S hh x l → VRepS S hh (vM l) (#[.int .i64 5, .int .i64 0, .string ByteArray.empty, x.v] : Array Value) := fun {S hh x l} hx =>
    VRepS.eq.2 ⟨x, rfl, ⟨by decide, by decide⟩, ⟨by decide, by decide⟩, by decide, hx⟩
  have mone : ∀ (x : Sl), ∀ v ∈ (#[.int .i64 5, .int .i64 0, .string ByteArray.empty, x.v] : Array Value).toList, one v = true := fun x v hv => by
    simp only [List.mem_cons, List.not_mem_nil, or_false] at hv
    rcases hv with rfl | rfl | rfl | rfl <;> first | rfl | exact one_v _
  refine bind_w (rstr_spec (s := [120]) (by decide) (fun h1 c1 e1 r1 => bind_w (rint_spec (n := 1) ⟨by decide, by decide⟩ (fun h2 c2 e2 r2 => ?_))))
  have R1 := r1 (fun _ => True) h2
  have R2 := r2 (fun _ => True) h2
  refine fillL2_b R1.size R2.size (bdL_b ?_)
  have e3 := Ext.push h2 (.cells (c1 ++ c2) ty_api_Value)
  have g3 : (h2.push (.cells (c1 ++ c2) ty_api_Value))[h2.size]? = some (.cells (c1 ++ c2) ty_api_Value (0, 0)) := get_push_eq
  generalize h2.push (.cells (c1 ++ c2) ty_api_Value) = h3 at e3 g3 ⊢
  refine mkV_b (fun h4 e4 z4 g4 => need_b rfl (stR (vs := (#[.int .i64 5, .int .i64 0, .string ByteArray.empty, (⟨some ⟨h2.size, 0, none⟩, 2, 2⟩ : Sl).v] : Array Value)) (off := 0) g4 (Nat.le_refl 4) (mone _) (fun h5 u5 g5 => ?_)))
  rw [lay_full (by rfl)] at g5
  have E5 : Ext h3 h5 := e4.upd u5 (Nat.le_refl _)
  refine bind_w (rstr_spec (s := [121]) (by decide) (fun h6 c6 e6 r6 => bind_w (rint_spec (n := 2) ⟨by decide, by decide⟩ (fun h7 c7 e7 r7 => ?_))))
  have R6 := r6 (fun _ => True) h7
  have R7 := r7 (fun _ => True) h7
  refine fillL2_b R6.size R7.size (bdL_b ?_)
  have e8 := Ext.push h7 (.cells (c6 ++ c7) ty_api_Value)
  have g8 : (h7.push (.cells (c6 ++ c7) ty_api_Value))[h7.size]? = some (.cells (c6 ++ c7) ty_api_Value (0, 0)) := get_push_eq
  generalize h7.push (.cells (c6 ++ c7) ty_api_Value) = h8 at e8 g8 ⊢
  refine mkV_b (fun h9 e9 z9 g9 => need_b rfl (stR (vs := (#[.int .i64 5, .int .i64 0, .string ByteArray.empty, (⟨some ⟨h7.size, 0, none⟩, 2, 2⟩ : Sl).v] : Array Value)) (off := 0) g9 (Nat.le_refl 4) (mone _) (fun h10 u10 g10 => ?_)))
  rw [lay_full (by rfl)] at g10
  have E10 : Ext h8 h10 := e9.upd u10 (Nat.le_refl _)
  have E510 : Ext h5 h10 := ((e6.trans e7).trans e8).trans E10
  have g5' := E510.blk g5
  refine ldG_b (cs := (#[.int .i64 5, .int .i64 0, .string ByteArray.empty, (⟨some ⟨h2.size, 0, none⟩, 2, 2⟩ : Sl).v] : Array Value)) rfl (fun j hj => by rw [blk_cell g5']) (ldG_b (cs := (#[.int .i64 5, .int .i64 0, .string ByteArray.empty, (⟨some ⟨h7.size, 0, none⟩, 2, 2⟩ : Sl).v] : Array Value)) rfl (fun j hj => by rw [blk_cell g10]) ?_)
  have M1 : VRepS (fun _ => True) h10 bm1 (#[.int .i64 5, .int .i64 0, .string ByteArray.empty, (⟨some ⟨h2.size, 0, none⟩, 2, 2⟩ : Sl).v] : Array Value) := vm ((two_rep (va := vS [120]) (vb := vI 1) ((E5.trans E510).blk g3) (r1 (fun _ => True) h10) (r2 (fun _ => True) h10)).same (fun _ _ => rfl) (fun _ _ => trivial))
  have M2 : VRepS (fun _ => True) h10 bm2 (#[.int .i64 5, .int .i64 0, .string ByteArray.empty, (⟨some ⟨h7.size, 0, none⟩, 2, 2⟩ : Sl).v] : Array Value) := vm ((two_rep (va := vS [121]) (vb := vI 2) (E10.blk g8) (r6 (fun _ => True) h10) (r7 (fun _ => True) h10)).same (fun _ _ => rfl) (fun _ _ => trivial))
  refine fillL2_b rfl rfl (bdL_b ?_)
  have e11 := Ext.push h10 (.cells ((#[.int .i64 5, .int .i64 0, .string ByteArray.empty, (⟨some ⟨h2.size, 0, none⟩, 2, 2⟩ : Sl).v] : Array Value) ++ (#[.int .i64 5, .int .i64 0, .string ByteArray.empty, (⟨some ⟨h7.size, 0, none⟩, 2, 2⟩ : Sl).v] : Array Value)) ty_api_Value)
  have g11 : (h10.push (.cells ((#[.int .i64 5, .int .i64 0, .string ByteArray.empty, (⟨some ⟨h2.size, 0, none⟩, 2, 2⟩ : Sl).v] : Array Value) ++ (#[.int .i64 5, .int .i64 0, .string ByteArray.empty, (⟨some ⟨h7.size, 0, none⟩, 2, 2⟩ : Sl).v] : Array Value)) ty_api_Value))[h10.size]? = some (.cells ((#[.int .i64 5, .int .i64 0, .string ByteArray.empty, (⟨some ⟨h2.size, 0, none⟩, 2, 2⟩ : Sl).v] : Array Value) ++ (#[.int .i64 5, .int .i64 0, .string ByteArray.empty, (⟨some ⟨h7.size, 0, none⟩, 2, 2⟩ : Sl).v] : Array Value)) ty_api_Value (0, 0)) := get_push_eq
  generalize h10.push (.cells ((#[.int .i64 5, .int .i64 0, .string ByteArray.empty, (⟨some ⟨h2.size, 0, none⟩, 2, 2⟩ : Sl).v] : Array Value) ++ (#[.int .i64 5, .int .i64 0, .string ByteArray.empty, (⟨some ⟨h7.size, 0, none⟩, 2, 2⟩ : Sl).v] : Array Value)) ty_api_Value) = h11 at e11 g11 ⊢
  have L11 : VsRep h11 ⟨some ⟨h10.size, 0, none⟩, 2, 2⟩ [bm1, bm2] := (two_rep (S := fun i => i < h10.size) g11 ((M1.to.lt).same (fun b hb => e11.same b hb)) ((M2.to.lt).same (fun b hb => e11.same b hb))).to
  have E11 : Ext h h11 := ((((e1.trans e2).trans e3).trans E5).trans E510).trans e11
  have hW : wt.wts [bm1, bm2] ≤ 1048576 := by simp [wt.wts, wt, bm1, bm2, vM, vS, vI]
  have rest : ∀ {h12 : Heap}, Ext h11 h12 → (do
      let x23_23 ← rambleref02_Int 1
      let x24_24 ← rambleref02_Str (⟨#[97]⟩ : ByteArray)
      let y_26 ← fillL 4 2 (#[.int .i64 0, .int .i64 0, .string ByteArray.empty, .slice none 0 0] : Array Value) [(0, .agg x23_23), (1, .agg x24_24)]
      let x25_25 ← bdL ty_api_Value 2 y_26
      let x26_27 ← result_List x25_25
      let x34_29 ← M.ite (sEq (bs (tabT [vS [120], vS [121]] [bm1, bm2]), (0 : Int)).1 (⟨#[39, 120, 39, 32, 124, 32, 39, 121, 39, 10, 49, 32, 124, 32, 45, 10, 45, 32, 124, 32, 50, 10]⟩ : ByteArray)) (do
        M.pure ((bs (tabT [vS [120], vS [121]] [bm1, bm2]), (0 : Int)).2 == 0)
        ) (do
        M.pure false
        )
      let x38_30 ← M.ite x34_29 (do
        M.pure (sEq x26_27.1 (⟨#[49, 10, 39, 97, 39, 10]⟩ : ByteArray))
        ) (do
        M.pure false
        )
      let x42_31 ← M.ite x38_30 (do
        M.pure (x26_27.2 == 0)
        ) (do
        M.pure false
        )
      M.pure x42_31 : M Bool).wp h12 Q := fun {h12} e12 => by
    have E12 := E11.trans e12
    refine bind_w (rint_spec (n := 1) ⟨by decide, by decide⟩ (fun h13 c13 e13 r13 => bind_w (rstr_spec (s := [97]) (by decide) (fun h14 c14 e14 r14 => ?_))))
    have R13 := r13 (fun i => i < h14.size) h14
    have R14 := r14 (fun i => i < h14.size) h14
    refine fillL2_b R13.size R14.size (bdL_b ?_)
    have e15 := Ext.push h14 (.cells (c13 ++ c14) ty_api_Value)
    have g15 : (h14.push (.cells (c13 ++ c14) ty_api_Value))[h14.size]? = some (.cells (c13 ++ c14) ty_api_Value (0, 0)) := get_push_eq
    generalize h14.push (.cells (c13 ++ c14) ty_api_Value) = h15 at e15 g15 ⊢
    have E15 := ((E12.trans e13).trans e14).trans e15
    have L15 : VsRep h15 ⟨some ⟨h14.size, 0, none⟩, 2, 2⟩ [vI 1, vS [97]] := (two_rep (S := fun i => i < h14.size) g15 (r13 _ h15) (r14 _ h15)).to
    refine bind_w (vlist_spec L15 (hp.ext E15) (hd.ext E15) (by simp [wt.wts, wt, vS, vI]) (fun h16 e16 hne => absurd bg_list.1 hne) (fun h16 e16 _ => ?_))
    rw [bg_list.2, bg_tab]
    have s1 : sEq (bs [39, 120, 39, 32, 124, 32, 39, 121, 39, 10, 49, 32, 124, 32, 45, 10, 45, 32, 124, 32, 50, 10]) (⟨#[39, 120, 39, 32, 124, 32, 39, 121, 39, 10, 49, 32, 124, 32, 45, 10, 45, 32, 124, 32, 50, 10]⟩ : ByteArray) = true := by
      show sEq (bs _) (bs [39, 120, 39, 32, 124, 32, 39, 121, 39, 10, 49, 32, 124, 32, 45, 10, 45, 32, 124, 32, 50, 10]) = true
      rw [sEq_bs]; decide
    have s2 : sEq (bs [49, 10, 39, 97, 39, 10]) (⟨#[49, 10, 39, 97, 39, 10]⟩ : ByteArray) = true := by
      show sEq (bs _) (bs [49, 10, 39, 97, 39, 10]) = true
      rw [sEq_bs]; decide
    exact iteT_b s1 (pure_b (iteT_b rfl (pure_b (iteT_b s2 (pure_b (pure_w (H _ (E15.trans e16))))))))
  refine bind_w (vtable_spec L11 (hp.ext E11) (hd.ext E11) hW (fun h12 e12 hne => absurd bg_check hne) (fun h12 e12 _ hbad => ?_) (fun h12 C e12 _ _ hC => ?_))
  · rw [bg_ok] at hbad; cases hbad
  · rw [hC.uniq bg_cols]
    exact rest e12
/-- the law: the text of any values as lines and columns -/
theorem tables_law {h : Heap} {x : Sl} {l : List Vl} (hx : VsRep h x l) (hp : PowTab h) (hd : DbTab h) (hW : l.length ≤ 100 → wt.wts l ≤ 1048576) {Q : Bool → Heap → Prop} (H : ∀ h', Ext h h' → Q true h') : (ramblelaw23_ResultTables x).wp h Q := by
  unfold ramblelaw23_ResultTables ramblelaw23_few
  have hxl := hx.len
  refine pure_b (ite_w (fun hc => pure_w (H _ (Ext.refl _))) (fun hc => ?_))
  have hl : l.length ≤ 100 := by
    have : decide ((x.len : Int) ≤ 100) = true := by simpa using hc
    have := of_decide_eq_true this; omega
  have hW := hW hl
  -- whatever both tell
  have rest : ∀ {h1 : Heap} {t : ByteArray} {e : Int}, Ext h h1 → (do
      let x20_11 ← ramblelaw23_begun
      let x25_12 ← M.ite x20_11 (do
        M.pure (sEq (t, e).1 (t, e).1)
        ) (do
        M.pure false
        )
      let x30_13 ← M.ite x25_12 (do
        M.pure ((t, e).2 == (t, e).2)
        ) (do
        M.pure false
        )
      M.pure x30_13 : M Bool).wp h1 Q := fun {h1 t e} E => by
    refine bind_w (begun23_spec (hp.ext E) (hd.ext E) (fun h2 e2 => iteT_b rfl (pure_b ?_)))
    have s1 : sEq t t = true := by
      have : t = bs t.data.toList := by simp [bs]
      rw [this, sEq_bs]; simp
    refine iteT_b s1 (pure_b (pure_w ?_))
    rw [show ((t, e).2 == (t, e).2) = true by simp]
    exact H _ (E.trans e2)
  refine bind_w (vtable_spec hx hp hd hW (fun h1 e1 hne => ?_) (fun h1 e1 hc0 hbad => ?_) (fun h1 C e1 hc0 hok hC => ?_))
  · exact bind_w (rtable_spec (hx.ext e1) hW (fun h2 e2 _ => rest (e1.trans e2)) (fun h2 e2 hc0 _ => absurd hc0 hne) (fun h2 C e2 hc0 _ _ => absurd hc0 hne))
  · exact bind_w (rtable_spec (hx.ext e1) hW (fun h2 e2 hne => absurd hc0 hne) (fun h2 e2 _ _ => rest (e1.trans e2)) (fun h2 C e2 _ hok _ => by rw [hbad] at hok; cases hok))
  · refine bind_w (rtable_spec (hx.ext e1) hW (fun h2 e2 hne => absurd hc0 hne) (fun h2 e2 _ hbad => by rw [hbad] at hok; cases hok) (fun h2 C' e2 _ _ hC' => ?_))
    rw [hC.uniq hC']
    exact rest (e1.trans e2)
end Gx
namespace Go.Proofs.YthelieedlghccaaDoor
open Go Go.RowKit Gx
set_option linter.unusedVariables false
set_option maxRecDepth 100000
theorem c42 : Tryd.prog.cellsOf 42 = 4 := by kernel_rfl
theorem c3 : Tryd.prog.cellsOf 3 = 1 := by kernel_rfl
theorem c2 : Tryd.prog.cellsOf 2 = 1 := by kernel_rfl
theorem c9 : Tryd.prog.cellsOf 9 = 1 := by kernel_rfl
theorem c22 : Tryd.prog.cellsOf 22 = 1 := by kernel_rfl
theorem wts_bulk {H : Type} : ∀ (l : List Vl) (es : List (DataW H)), l.length = es.length → (∀ i (h1 : i < l.length) (h2 : i < es.length), wt l[i] ≤ Rows.uptoBulk es[i]) → wt.wts l ≤ Rows.uptoBulkAll es
  | [], [], _, _ => by simp [wt.wts]
  | [], _ :: _, h, _ => by simp at h
  | _ :: _, [], h, _ => by simp at h
  | v :: l, d :: es, h, hk => by
    have h0 := hk 0 (by simp) (by simp)
    have := wts_bulk l es (by simpa using h) (fun i h1 h2 => by
      have := hk (i + 1) (by simpa using h1) (by simpa using h2)
      simpa using this)
    simp only [List.getElem_cons_zero] at h0
    rw [wt.wts]
    simp only [Rows.uptoBulkAll]
    omega
section
variable {H : Type} {enc : TypeId × Value → H}
theorem trod_i64 {W : World} {t : TypeId} {n : Nat} {c : Value} {x : DataW H × List MemPlace} {sp : Nat → Bool} {held : Bool} {base : Nat} (ht : Tryd.prog.underlying t = some (.int .i64)) (h : DataW.trod enc Tryd.prog W base sp held n t [c] = some x) : ∃ z, c = .int .i64 z ∧ I64 z ∧ Rows.uptoBulk x.1 = 1 := by
  cases n with
  | zero => simp [DataW.trod] at h
  | succ n =>
    unfold DataW.trod at h
    rw [ht] at h
    cases c with
    | int k z =>
      simp only at h
      split at h
      · rename_i hk
        obtain ⟨rfl, hw⟩ := hk
        cases h
        refine ⟨z, rfl, ?_, by simp [Rows.uptoBulk]⟩
        have : -9223372036854775808 ≤ z ∧ z ≤ 9223372036854775807 := by simpa [Lit.wf, IntKind.min, IntKind.max, IntKind.signed, IntKind.bits] using hw
        exact this
      · cases h
    | _ => simp at h
theorem trod_str {W : World} {t : TypeId} {n : Nat} {c : Value} {x : DataW H × List MemPlace} {sp : Nat → Bool} {held : Bool} {base : Nat} (ht : Tryd.prog.underlying t = some .string) (h : DataW.trod enc Tryd.prog W base sp held n t [c] = some x) : ∃ s : ByteArray, c = .string s ∧ s.size ≤ maxLen ∧ Rows.uptoBulk x.1 = s.data.toList.length + 1 := by
  cases n with
  | zero => simp [DataW.trod] at h
  | succ n =>
    unfold DataW.trod at h
    rw [ht] at h
    cases c with
    | string s =>
      simp only at h
      split at h
      · rename_i hk
        cases h
        exact ⟨s, rfl, hk, by simp [Rows.uptoBulk]⟩
      · cases h
    | _ => simp at h
/-- values, opened -/
theorem open_vals {W : World} {sp : Nat → Bool} {held : Bool} {base : Nat} : ∀ (m : Nat),
    (∀ (cs : List Value) (x : DataW H × List MemPlace), DataW.trod enc Tryd.prog W base sp held m 42 cs = some x → ∃ v, VRep W.heap v cs.toArray ∧ wt v ≤ Rows.uptoBulk x.1) ∧
    (∀ (v : Value) (x : DataW H × List MemPlace), DataW.trod enc Tryd.prog W base sp held m 22 [v] = some x → ∃ (s : Sl) (l : List Vl), v = s.v ∧ VsRep W.heap s l ∧ wt.wts l + 1 ≤ Rows.uptoBulk x.1) := by
  intro m
  induction m with
  | zero => exact ⟨fun cs x h => by simp [DataW.trod] at h, fun v x h => by simp [DataW.trod] at h⟩
  | succ m ih =>
    refine ⟨fun cs x h => ?_, fun v x h => ?_⟩
    · obtain ⟨xs, n, hn, hx, hcl, hxl, hf⟩ := DataW.trod_struct Tryd.underlying42 h
      obtain rfl : m = n := by omega
      rw [c42] at hcl
      have hxl : xs.length = 4 := hxl
      match cs, hcl with
      | [a0, a1, a2, a3], _ =>
      match xs, hxl with
      | [y0, y1, y2, y3], _ =>
      have f0 : DataW.trod enc Tryd.prog W base sp held m 3 (([a0, a1, a2, a3].drop 0).take (Tryd.prog.cellsOf 3)) = some y0 := hf 0 _ rfl
      have f1 : DataW.trod enc Tryd.prog W base sp held m 2 (([a0, a1, a2, a3].drop 1).take (Tryd.prog.cellsOf 2)) = some y1 := hf 1 _ rfl
      have f2 : DataW.trod enc Tryd.prog W base sp held m 9 (([a0, a1, a2, a3].drop 2).take (Tryd.prog.cellsOf 9)) = some y2 := hf 2 _ rfl
      have f3 : DataW.trod enc Tryd.prog W base sp held m 22 (([a0, a1, a2, a3].drop 3).take (Tryd.prog.cellsOf 22)) = some y3 := hf 3 _ rfl
      rw [c3] at f0
      rw [c2] at f1
      rw [c9] at f2
      rw [c22] at f3
      obtain ⟨k, rfl, hk, b0⟩ := trod_i64 Tryd.underlying3 f0
      obtain ⟨nn, rfl, hnn, b1⟩ := trod_i64 Tryd.underlying2 f1
      obtain ⟨s, rfl, hs, b2⟩ := trod_str Tryd.underlying9 f2
      obtain ⟨sl, l, rfl, hl, b3⟩ := ih.2 _ _ f3
      have hsb : bs s.data.toList = s := by simp [bs]
      refine ⟨.mk k nn s.data.toList l, VRep.eq.2 ⟨sl, by unfold vcells; rw [hsb], hk, hnn, ?_, hl⟩, ?_⟩
      · have : s.data.toList.length = s.size := Array.length_toList
        rw [this]; unfold maxLen at hs; omega
      · rw [wt, hx]
        simp only [List.map_cons, List.map_nil, Rows.uptoBulk, Rows.uptoBulkAll]
        omega
    · rcases DataW.trod_slice Tryd.underlying22 h with ⟨h0, hx⟩ | ⟨a, len, cap, elems, rest, n, hn, h1, hx, _, hle, hm, hlen, hel, _, _⟩
      · cases h0
        refine ⟨Sl.nil, [], rfl, VsRep.nil _, ?_⟩
        rw [hx]; simp [wt.wts, Rows.uptoBulk]
      · cases h1
        obtain rfl : m = n := by omega
        rw [c42] at hel
        have key : ∀ i, i < len → ∃ (v : Vl) (cs : Array Value), cs.size = 4 ∧ (∀ j, j < 4 → hcell W.heap (a.add (i * 4 + j)) = cs[j]?) ∧ VRep W.heap v cs ∧ ∀ (h : i < elems.length), wt v ≤ Rows.uptoBulk (elems[i]).1 := fun i hi => by
          have h2 := hel i hi
          rw [List.getElem?_eq_getElem (by omega), Option.bind_eq_some_iff] at h2
          obtain ⟨cs, hcs, ht⟩ := h2
          obtain ⟨_, hl1, hc⟩ := World.cells?_some hcs
          obtain ⟨v, hv, hw⟩ := ih.1 _ _ ht
          refine ⟨v, cs.toArray, by simpa using hl1, fun j hj => ?_, hv, fun _ => hw⟩
          have := hc j hj
          rw [Addr.add_add] at this
          rw [cell_h] at this
          rw [this]; simp
        let l := List.ofFn (fun i : Fin len => Classical.choose (key i i.2))
        have hL : l.length = len := by simp [l]
        have hget : ∀ i (h : i < l.length), ∃ cs : Array Value, cs.size = 4 ∧ (∀ j, j < 4 → hcell W.heap (a.add (i * 4 + j)) = cs[j]?) ∧ VRep W.heap l[i] cs ∧ ∀ (h : i < elems.length), wt l[i] ≤ Rows.uptoBulk (elems[i]).1 := fun i h => by
          have := Classical.choose_spec (key i (by omega))
          simpa [l] using this
        have hmx : len ≤ 9223372036854775807 := by unfold maxLen at hm; omega
        refine ⟨⟨some a, len, cap⟩, l, rfl, ⟨hL.symm, hle, hmx, VsAt.of (fun j hj => ?_)⟩, ?_⟩
        · obtain ⟨cs, h1, h2, h3, _⟩ := hget j hj
          exact ⟨a, cs, rfl, h1, fun i hi => by rw [Nat.zero_add]; exact h2 i hi, h3⟩
        · rw [hx]
          have := wts_bulk l (elems.map (·.1)) (by rw [hL, List.length_map, hlen]) (fun i h1 h2 => by
            obtain ⟨_, _, _, _, h4⟩ := hget i h1
            rw [List.getElem_map]
            exact h4 (by simpa using h2))
          simp only [Rows.uptoBulk]
          omega
end
end Go.Proofs.YthelieedlghccaaDoor
