/- Own proofs: what those Lean programs compute. No condition. -/
import Derived.Test.YtlmfpnogpolhhaaP0
import Derived.Test.YtlmfpnogpolhhaaP1
import Derived.Test.YtlmfpnogpolhhaaP2
import Derived.Test.YtlmfpnogpolhhaaP3
import Derived.Test.YtlmfpnogpolhhaaP4
import Derived.Test.YtlmfpnogpolhhaaP5
import Derived.Test.YtlmfpnogpolhhaaP6
import Derived.Test.YtlmfpnogpolhhaaRows
import Derived.KernelRfl
set_option linter.unusedVariables false
set_option linter.unusedSimpArgs false
namespace Gx
open Go
set_option linter.unusedVariables false
set_option linter.unusedSimpArgs false
/-- a slice of bools -/
structure Bls (h : Heap) (x : Sl) (L : List Bool) : Prop where
  len : x.len = L.length
  at_ : L = [] ∨ ∃ a, x.base = some a ∧ ∀ (i : Nat) b, L[i]? = some b → hcell h (a.add i) = some (.bool b)
theorem Bls.nil (h : Heap) : Bls h Sl.nil [] := ⟨rfl, .inl rfl⟩
theorem Bls.same {h h' : Heap} {x : Sl} {L : List Bool} (H : Bls h x L) (e : L = [] ∨ ∀ i, Sl.on x i → h'[i]? = h[i]?) : Bls h' x L := by
  refine ⟨H.len, ?_⟩
  rcases H.at_ with h1 | ⟨a, ha, h1⟩
  · exact .inl h1
  · rcases e with e | e
    · exact .inl e
    · refine .inr ⟨a, ha, fun j v hj => ?_⟩
      have h2 := h1 j v hj
      have h3 := e a.block ⟨a, ha, rfl⟩
      unfold hcell at h2 ⊢
      rw [add_block] at h2 ⊢
      rw [h3]
      exact h2
theorem Bls.ext {h h' : Heap} {x : Sl} {L : List Bool} (H : Bls h x L) (e : Ext h h') : Bls h' x L := by
  refine ⟨H.len, ?_⟩
  rcases H.at_ with h1 | ⟨a, ha, h1⟩
  · exact .inl h1
  · exact .inr ⟨a, ha, fun j v hj => e.cell (h1 j v hj)⟩
/-- which of the dirty ones stay -/
def keptL (keep : List Bool) : List Int → Nat → List Int
  | [], _ => []
  | x :: xs, i => if keep.getD (i % keep.length) false then x :: keptL keep xs (i + 1) else keptL keep xs (i + 1)
theorem keptL_snoc (keep : List Bool) : ∀ (xs : List Int) (x : Int) (i : Nat), keptL keep (xs ++ [x]) i = if keep.getD ((i + xs.length) % keep.length) false then keptL keep xs i ++ [x] else keptL keep xs i
  | [], x, i => by simp [keptL]
  | y :: xs, x, i => by
    rw [List.cons_append]
    simp only [keptL]
    rw [keptL_snoc keep xs x (i + 1), List.length_cons, show i + 1 + xs.length = i + (xs.length + 1) by omega]
    split <;> split <;> simp
theorem keptL_sub (keep : List Bool) : ∀ (xs : List Int) (i : Nat), ∀ k ∈ keptL keep xs i, k ∈ xs
  | [], i, k, h => by simp [keptL] at h
  | x :: xs, i, k, h => by
    simp only [keptL] at h
    split at h
    · rcases List.mem_cons.1 h with rfl | h
      · simp
      · exact List.mem_cons_of_mem _ (keptL_sub keep xs _ k h)
    · exact List.mem_cons_of_mem _ (keptL_sub keep xs _ k h)
theorem keptL_len (keep : List Bool) : ∀ (xs : List Int) (i : Nat), (keptL keep xs i).length ≤ xs.length
  | [], i => by simp [keptL]
  | x :: xs, i => by
    simp only [keptL]
    have := keptL_len keep xs (i + 1)
    split <;> simp <;> omega
def Dk.stay1 (D : Dk) (k : Int) : Dk := { D with s := put D.s k.toNat ((mlk k D.c).getD zeros), t := put D.t k.toNat false }
def Dk.stays (D : Dk) (K : List Int) : Dk := K.foldl Dk.stay1 D
theorem stays_eq (D : Dk) (K : List Int) : (D.stays K).n = D.n ∧ (D.stays K).c = D.c ∧ (D.stays K).away = D.away ∧ (D.stays K).fuse = D.fuse ∧ (D.stays K).calls = D.calls := by
  unfold Dk.stays
  induction K generalizing D with
  | nil => exact ⟨rfl, rfl, rfl, rfl, rfl⟩
  | cons k K ih =>
    rw [List.foldl_cons]
    exact ih (D.stay1 k)
def Dk.tear (D : Dk) (K : List Int) (torn : Int) : Dk := if 0 ≤ torn ∧ torn < K.length then { D with t := put D.t (K.getD torn.toNat 0).toNat true } else D
def Dk.decide (D : Dk) (xs : List Int) (torn : Int) (keep : List Bool) : Dk := { ((D.stays (keptL keep xs 0)).tear (keptL keep xs 0) torn) with c := [] }
theorem km_kp {F : Fp} {h h' h'' : Heap} {S : Nat → Prop} (a : Kp F h h') (b : Km S h' h'') (hS : ∀ i, S i → h.size ≤ i) : Kp F h h'' := ⟨Nat.le_trans a.size b.size, fun i hi hn => (b.same i (Nat.lt_of_lt_of_le hi a.size) (fun s => by have := hS i s; omega)).trans (a.same i hi hn)⟩
section
variable {h : Heap} {F : Fp} {D : Dk}
theorem ddecide_end {Q : Unit → Heap → Prop} (H : DkAt h F D) (hq : ∀ h', Upd F.bm h h' → DkAt h' F { D with c := [] } → Q () h') : (disk_Disk_decide_j2 (some ⟨F.p, 0, none⟩)).wp h Q := by
  obtain ⟨cs, ct, hb⟩ := H.blk
  obtain ⟨es, c, hm⟩ := H.map
  unfold disk_Disk_decide_j2
  refine nilP_b (ldMp_b (n := some F.bm) (by rw [DkAt.cell hb]; rfl) (clM_b hm (fun h3 u3 hm3 => ?_)))
  exact pure_w (hq h3 u3 (H.setMap u3 hm3 (by simp)))
theorem ddecide_spec {Q : Unit → Heap → Prop} {torn : Int} {x : Sl} {keep : List Bool} (H : DkAt h F D) (hx : Bls h x keep) (hxd : keep = [] ∨ ∀ i, Sl.on x i → ¬ F.on i ∧ i < h.size)
    (hq : ∀ h' xs, xs.Perm (D.c.map Prod.fst) → xs.Pairwise (· ≤ ·) → Kp F h h' → DkAt h' F (D.decide xs torn keep) → Q () h') : (disk_Disk_decide (some ⟨F.p, 0, none⟩) torn x).wp h Q := by
  unfold disk_Disk_decide
  refine bind_w (dirty_spec H (fun h1 r xs e1 g1 hl1 hp hs => ?_))
  have H1 := H.ext e1
  have hnlt := H.nlt
  obtain ⟨es0, c0, hm0⟩ := H.map
  have hkeys := hm0.keys
  have hxl : xs.length = D.c.length := by rw [hp.length_eq, List.length_map]
  have hcl := clen_le H hkeys
  have hkl : keep.length ≤ keep.length := Nat.le_refl _
  have hx1 : Bls h1 x keep := hx.ext e1
  refine M.loop_inv (fun (t : Sl × Int) h' => ∃ i : Nat, t.2 = (i : Int) ∧ i ≤ xs.length ∧ Gw h1.size h' t.1 1 ((keptL keep (xs.take i) 0).map (Value.int .i64)) ∧ t.1.len = (keptL keep (xs.take i) 0).length ∧ DkAt h' F (D.stays (keptL keep (xs.take i) 0)) ∧ Kp F h1 h')
    (fun t _ => ((xs.length : Int) - t.2).toNat) ?_ ⟨0, rfl, Nat.zero_le _, by simpa [keptL] using Gw.nil _ _ _, by simp [keptL, Sl.nil], by simpa [keptL, Dk.stays] using H1, Kp.refl _ _⟩
  rintro ⟨q, t⟩ h' ⟨i, ht, hi, gq, hlq, HD, K⟩ self hself
  dsimp only at ht gq hlq
  subst ht
  have hFlt : ∀ j, F.on j → j < h1.size := fun j hj => H1.lt hj
  have hrF : ∀ j, Sl.on r j → ¬ F.on j := fun j hj ho => by have := (g1.lt hj).2; have := H.lt ho; omega
  have g1' : Gw h.size h' r 1 (xs.map (Value.int .i64)) := g1.same (fun j hj => K.same j (g1.lt hj).1 (hrF j hj))
  have hx' : Bls h' x keep := hx1.same (hxd.imp id (fun hh j hj => K.same j (Nat.lt_of_lt_of_le (hh j hj).2 e1.size) (hh j hj).1))
  unfold disk_Disk_decide_l1
  rw [hl1]
  have hkq : (keptL keep (xs.take i) 0).length ≤ i := by
    have := keptL_len keep (xs.take i) 0
    rw [List.length_take] at this
    omega
  refine ite_w (fun hlt => ?_) (fun hge => ?_)
  · have hlt : i < xs.length := by have := of_decide_eq_true hlt; omega
    obtain ⟨b, hbase, hc⟩ := g1'.cell (j := i) (v := .int .i64 xs[i]) (by rw [List.getElem?_map, List.getElem?_eq_getElem hlt]; rfl)
    refine ixL_b (by omega) (by rw [hl1]; omega) hbase ?_
    refine ldI_b (n := xs[i]) (by rw [add_mk, show 0 + (i : Int).toNat * 1 = i by omega]; exact hc) ?_
    have htake : xs.take (i + 1) = xs.take i ++ [xs[i]] := by rw [List.take_add_one, List.getElem?_eq_getElem hlt]; rfl
    have hksn := keptL_snoc keep (xs.take i) xs[i] 0
    rw [← htake, List.length_take, Nat.min_eq_left (by omega), Nat.zero_add] at hksn
    have hwi : IntKind.wrap .i64 ((i : Int) + 1) = ((i + 1 : Nat) : Int) := by rw [w64 (by omega) (by omega)]; rfl
    have off : keep.getD (i % keep.length) false = false → (disk_Disk_decide_j1 self (i : Int) q).wp h' Q := fun hk => by
      unfold disk_Disk_decide_j1
      rw [hwi]
      rw [hk, if_neg (by decide)] at hksn
      exact hself _ _ ⟨i + 1, rfl, by omega, by rw [hksn]; exact gq, by rw [hksn]; exact hlq, by rw [hksn]; exact HD, K⟩ (by dsimp only; omega)
    have on : keep.getD (i % keep.length) false = true → (disk_Disk_stay (some ⟨F.p, 0, none⟩) xs[i] >>= fun _ => bdL ty_int 1 #[.int .i64 xs[i]] >>= fun x34 => apL ty_int 1 8 (#[.int .i64 0] : Array Value) q x34 >>= fun x35 => disk_Disk_decide_j1 self (i : Int) x35).wp h' Q := fun hk => by
      rw [hk, if_pos rfl] at hksn
      have hmem : xs[i] ∈ D.c.map Prod.fst := hp.mem_iff.1 (List.getElem_mem hlt)
      obtain ⟨p, hpm, hp1⟩ := List.mem_map.1 hmem
      obtain ⟨hc1, hc2, hc3⟩ := H.clen p hpm
      obtain ⟨j, hj⟩ := List.getElem?_of_mem hpm
      obtain ⟨en, ec, ea, ef, el⟩ := stays_eq D (keptL keep (xs.take i) 0)
      have hcast : xs[i] = ((p.1.toNat : Nat) : Int) := by omega
      have hlk : mlk ((p.1.toNat : Nat) : Int) (D.stays (keptL keep (xs.take i) 0)).c = some p.2 := by
        rw [ec]
        exact mlk_of hkeys (j := j) (by rw [hj]; congr 1; ext <;> simp; omega)
      have goal : ∀ z : Int, z = xs[i] → (disk_Disk_stay (some ⟨F.p, 0, none⟩) z >>= fun _ => bdL ty_int 1 #[.int .i64 xs[i]] >>= fun x34 => apL ty_int 1 8 (#[.int .i64 0] : Array Value) q x34 >>= fun x35 => disk_Disk_decide_j1 self (i : Int) x35).wp h' Q := by
        rintro z hz
        rw [hz, hcast]
        refine bind_w (dstay_spec HD (by rw [en]; omega) hlk hc1 (fun h2 k2 s2 HD2 => ?_))
        rw [← hcast]
        refine bdL_b ?_
        have qF : ∀ j, Sl.on q j → ¬ F.on j := fun j hj ho => by have := (gq.lt hj).2; have := hFlt j ho; omega
        have on2 : ∀ j, ¬ F.on j → h2[j]? = h'[j]? := fun j hn => k2 j (fun e => hn (.inr (.inl e))) (fun e => hn (.inr (.inr (.inl e))))
        have gq2 : Gw h1.size h2 q 1 ((keptL keep (xs.take i) 0).map (Value.int .i64)) := gq.same (fun j hj => on2 j (qF j hj))
        have e3 := Ext.push h2 (.cells #[.int .i64 xs[i]] ty_int)
        have b3 : (h2.push (.cells #[.int .i64 xs[i]] ty_int))[h2.size]? = some (.cells #[.int .i64 xs[i]] ty_int (0, 0)) := get_push_eq
        have K2 : Kp F h1 h2 := K.trans ⟨by rw [s2]; exact Nat.le_refl _, fun j _ hn => on2 j hn⟩
        refine bind_w (ap_grow (lo := h1.size) (news := [.int .i64 xs[i]]) rfl (gq2.ext e3) (by simp) (.inr ⟨_, rfl, fun j v hj => ?_⟩) (by simp; rfl) (by simp [hlq]; omega) (by simp [hlq]; omega) (by have := K2.size; simp; omega) (fun h4 r4 g4 hl4 hs4 hk4 ho4 => ?_))
        · rcases j with _ | j
          · simp at hj; subst hj
            rw [add_mk, hcell_blk b3]; rfl
          · simp at hj
        · have K4 : Kp F h1 h4 := by
            have := K2.trans (Kp.ext e3)
            refine ⟨Nat.le_trans this.size hs4, fun j hj hn => ?_⟩
            rw [hk4 j (Nat.lt_of_lt_of_le hj this.size) (fun ho => by have := (gq.lt ho).2; omega)]
            exact this.same j hj hn
          have HD4 : DkAt h4 F ((D.stays (keptL keep (xs.take i) 0)).stay1 xs[i]) := by
            have e5 : ((D.stays (keptL keep (xs.take i) 0)).stay1 xs[i]) = { (D.stays (keptL keep (xs.take i) 0)) with s := put (D.stays (keptL keep (xs.take i) 0)).s p.1.toNat p.2, t := put (D.stays (keptL keep (xs.take i) 0)).t p.1.toNat false } := by
              unfold Dk.stay1
              rw [hcast, hlk]
              rfl
            rw [e5]
            refine (HD2.ext e3).same (fun j hj => hk4 j ?_ (fun ho => qF j ho hj))
            have := hFlt j hj
            have := K2.size
            simp; omega
          unfold disk_Disk_decide_j1
          rw [hwi]
          refine hself _ _ ⟨i + 1, rfl, by omega, by rw [hksn, List.map_append]; exact g4, by rw [hl4, hlq, hksn]; simp, ?_, K4⟩ (by dsimp only; omega)
          rw [hksn]
          unfold Dk.stays
          rw [List.foldl_append]
          exact HD4
      exact goal _ rfl
    rw [hx.len]
    refine ite_b (fun hk0 => ?_) (fun hk0 => ?_)
    · have hk0 : 0 < keep.length := by have := of_decide_eq_true hk0; omega
      have hmod : i % keep.length < keep.length := Nat.mod_lt _ hk0
      have htm : ((i : Int).tmod (keep.length : Int)) = ((i % keep.length : Nat) : Int) := by
        rw [Int.tmod_eq_emod_of_nonneg (by omega)]; rfl
      refine assoc_b ⟨_, ⟨by omega, rfl⟩, ?_⟩
      rw [htm]
      obtain ⟨a, ha, hcell⟩ : ∃ a, x.base = some a ∧ ∀ (i : Nat) b, keep[i]? = some b → hcell h' (a.add i) = some (.bool b) := by
        rcases hx'.at_ with h3 | h3
        · subst h3; simp at hk0
        · exact h3
      refine assoc_b (ixL_b (by omega) (by rw [hx.len]; omega) ha ?_)
      refine assoc_b (ldB_b (n := keep[i % keep.length]) (by rw [show ((i % keep.length : Nat) : Int).toNat * 1 = i % keep.length by omega]; exact hcell _ _ (List.getElem?_eq_getElem hmod)) ?_)
      refine pure_b ?_
      have hgd : keep.getD (i % keep.length) false = keep[i % keep.length] := by rw [List.getD_eq_getElem?_getD, List.getElem?_eq_getElem hmod]; rfl
      refine ite_w (fun hb => on (hgd.trans hb)) (fun hb => off (hgd.trans hb))
    · have hk0 : keep.length = 0 := by have := of_decide_eq_false hk0; omega
      refine pure_b (iteF rfl (off ?_))
      have : keep = [] := List.length_eq_zero_iff.1 hk0
      subst this
      rfl
  · have hge : i = xs.length := by have := of_decide_eq_false hge; omega
    subst hge
    rw [List.take_length] at gq hlq HD hkq
    generalize hK : keptL keep xs 0 = KL at gq hlq HD hkq
    obtain ⟨en, ec, ea, ef, el⟩ := stays_eq D KL
    have fin : ∀ {h2 : Heap}, Kp F h1 h2 → DkAt h2 F ((D.stays KL).tear KL torn) → (disk_Disk_decide_j2 (some ⟨F.p, 0, none⟩)).wp h2 Q := fun K2 H2 => by
      refine ddecide_end H2 (fun h3 u3 H3 => ?_)
      refine hq h3 xs hp hs ?_ ?_
      · have K3 := K2.trans (Kp.upd u3 (.inr (.inr (.inr rfl))))
        exact ⟨Nat.le_trans e1.size K3.size, fun j hj hn => (K3.same j (Nat.lt_of_lt_of_le hj e1.size) hn).trans (e1.same j hj)⟩
      · unfold Dk.decide
        rw [hK]
        exact H3
    have hor : (M.ite (decide (torn ≥ 0)) (M.pure (decide (torn < (q.len : Int)))) (M.pure false) : M Bool) = M.pure (decide (0 ≤ torn ∧ torn < KL.length)) := by
      by_cases h0 : 0 ≤ torn
      · simp [h0, M.ite, hlq]
      · simp [h0, M.ite]
    show ((M.ite (decide (torn ≥ 0)) (M.pure (decide (torn < (q.len : Int)))) (M.pure false) : M Bool) >>= _).wp h' Q
    rw [hor]
    refine pure_b (ite_w (fun hc => ?_) (fun hc => ?_))
    · have hc : 0 ≤ torn ∧ torn < KL.length := of_decide_eq_true hc
      have htl : torn.toNat < KL.length := by omega
      obtain ⟨b, hbase, hcc⟩ := gq.cell (j := torn.toNat) (v := .int .i64 KL[torn.toNat]) (by rw [List.getElem?_map, List.getElem?_eq_getElem htl]; rfl)
      obtain ⟨cs, ct, hb⟩ := HD.blk
      refine nilP_b (ixL_b (by omega) (by rw [hlq]; omega) hbase ?_)
      refine ldL_b (n := ⟨some ⟨F.bt, 0, none⟩, (D.stays KL).n, ct⟩) (by rw [DkAt.cell hb]; rfl) ?_
      refine ldI_b (n := KL[torn.toNat]) (by rw [add_mk, show 0 + torn.toNat * 1 = torn.toNat by omega]; exact hcc) ?_
      have hmem : KL[torn.toNat] ∈ D.c.map Prod.fst := hp.mem_iff.1 (keptL_sub keep xs 0 _ (by rw [hK]; exact List.getElem_mem htl))
      obtain ⟨p, hpm, hp1⟩ := List.mem_map.1 hmem
      obtain ⟨hc1, hc2, hc3⟩ := H.clen p hpm
      refine ixL_b (by omega) (by show KL[torn.toNat] < ((D.stays KL).n : Int); rw [en]; omega) rfl ?_
      rw [add_mk, show 0 + (KL[torn.toNat]).toNat * 1 = (KL[torn.toNat]).toNat by omega]
      refine HD.stT (by rw [en]; omega) (fun h2 u2 H2 => fin (K.trans (Kp.upd u2 (.inr (.inr (.inl rfl))))) ?_)
      unfold Dk.tear
      rw [if_pos hc]
      have : KL.getD torn.toNat 0 = KL[torn.toNat] := by rw [List.getD_eq_getElem?_getD, List.getElem?_eq_getElem htl]; rfl
      rw [this]
      exact H2
    · have hc : ¬ (0 ≤ torn ∧ torn < KL.length) := of_decide_eq_false hc
      refine fin K ?_
      unfold Dk.tear
      rw [if_neg hc]
      exact HD
end
end Gx
namespace Gx
open Go
set_option linter.unusedVariables false
set_option linter.unusedSimpArgs false
def fill (b : UInt8) : List UInt8 := List.replicate 128 b
theorem fill_len (b : UInt8) : (fill b).length = 128 := by simp [fill]
set_option maxRecDepth 20000 in
theorem filled_spec {h : Heap} {Q : Array Value → Heap → Prop} {x : Int} {b : UInt8} (hx : x = (b.toNat : Int)) (hq : ∀ h', Ext h h' → Q (bcells (fill b)) h') : (ramblelaw04_filled x).wp h Q := by
  subst hx
  unfold ramblelaw04_filled
  refine mkZ (Ext.refl h) (fun h1 _ e1 s1 b1 => mkZ e1 (fun h2 g2 e2 s2 b2 => ?_))
  refine M.loop_inv (fun (t : Int) h' => ∃ i : Nat, t = (i : Int) ∧ i ≤ 128 ∧ Ext h h' ∧ BB h' h.size ty_api_Sector zeros ∧ BB h' h1.size ty_api_Sector (List.replicate i b ++ List.replicate (128 - i) 0)) (fun t _ => (128 - t).toNat) ?_ ⟨0, rfl, by omega, e2, g2.blk b1, by rw [show (List.replicate 0 b ++ List.replicate (128 - 0) (0 : UInt8)) = zeros by simp [zeros]]; exact b2⟩
  rintro t h' ⟨i, rfl, hi, E, B1, B2⟩ self hself
  unfold ramblelaw04_filled_l1
  refine ite_w (fun hlt => ?_) (fun hge => ?_)
  · have hlt : i < 128 := by have := of_decide_eq_true hlt; omega
    refine ixA_b (by omega) (by omega) ?_
    rw [add_mk, show 0 + (i : Int).toNat * 1 = i by omega]
    have hil : i < (List.replicate i b ++ List.replicate (128 - i) (0 : UInt8)).length := by simp; omega
    refine stV_b (B2.cell hil) (B2.frozen i) rfl ?_
    have B2' := B2.set i b
    have u := Upd.hset h' h1.size i (bv b)
    rw [w64 (by omega) (by omega)]
    refine hself _ _ ⟨i + 1, rfl, by omega, E.upd u (by omega), B1.upd u (by omega), ?_⟩ (by omega)
    have : (List.replicate i b ++ List.replicate (128 - i) 0).set i b = List.replicate (i + 1) b ++ List.replicate (128 - (i + 1)) 0 := by
      rw [show 128 - i = (128 - (i + 1)) + 1 by omega, List.replicate_succ, list_set_mid (by simp), List.replicate_succ']
      simp
    rw [this] at B2'
    exact B2'
  · have hge : i = 128 := by have := of_decide_eq_false hge; omega
    subst hge
    have e : List.replicate 128 b ++ List.replicate (128 - 128) (0 : UInt8) = fill b := by simp [fill]
    rw [e] at B2
    refine ldB128 B2 (fill_len b) (need_b (by rw [bcells_size, fill_len]) ?_)
    refine stB128 B1 rfl (fill_len b) (fun h3 u3 B3 => ?_)
    exact ldB128 B3 (fill_len b) (pure_w (hq _ (E.upd u3 (Nat.le_refl _))))
section
variable {h : Heap} {F : Fp} {D : Dk}
theorem ddown_spec {Q : Bool → Heap → Prop} (H : DkAt h F D) (hq : Q D.away h) : (disk_Disk_Down (some ⟨F.p, 0, none⟩)).wp h Q := by
  obtain ⟨cs, ct, hb⟩ := H.blk
  unfold disk_Disk_Down
  refine bind_w (dnone_spec H ?_)
  refine iteT_b rfl (assoc_b (nilP_b (assoc_b (ldB_b (n := D.away) (by rw [DkAt.cell hb]; rfl) (pure_b (pure_w hq))))))
theorem dcalls_spec {Q : Int → Heap → Prop} (H : DkAt h F D) (hq : Q D.calls h) : (disk_Disk_Calls (some ⟨F.p, 0, none⟩)).wp h Q := by
  obtain ⟨cs, ct, hb⟩ := H.blk
  unfold disk_Disk_Calls
  refine bind_w (dnone_spec H ?_)
  exact iteF rfl (nilP_b (ldI_b (n := D.calls) (by rw [DkAt.cell hb]; rfl) (pure_w hq)))
theorem dset_away {Q : Unit → Heap → Prop} {β : Type} {f : Unit → M β} {R : β → Heap → Prop} {aw : Bool} (H : DkAt h F D) (hq : ∀ h', Upd F.p h h' → DkAt h' F { D with away := aw } → (f ()).wp h' R) : (stV ((⟨F.p, 0, none⟩ : Addr).add 3) (.bool aw) >>= f).wp h R := by
  obtain ⟨cs, ct, hb⟩ := H.blk
  refine stV_b (x := .bool D.away) (by rw [DkAt.cell hb]; rfl) (by rw [add_mk, hfrozen_blk hb]) rfl ?_
  rw [add_mk]
  refine hq _ (Upd.hset _ _ _ _) (H.head (aw := aw) (fu := D.fuse) (ca := D.calls) (Upd.hset _ _ _ _) ⟨cs, ct, ?_⟩ H.fz)
  rw [hset_at hb]; rfl
theorem dset_fuse {β : Type} {f : Unit → M β} {R : β → Heap → Prop} {fu : Int} (H : DkAt h F D) (hf : 0 ≤ fu ∧ fu ≤ 9223372036854775807) (hq : ∀ h', Upd F.p h h' → DkAt h' F { D with fuse := fu } → (f ()).wp h' R) : (stV ((⟨F.p, 0, none⟩ : Addr).add 4) (.int .i64 fu) >>= f).wp h R := by
  obtain ⟨cs, ct, hb⟩ := H.blk
  refine stV_b (x := .int .i64 D.fuse) (by rw [DkAt.cell hb]; rfl) (by rw [add_mk, hfrozen_blk hb]) rfl ?_
  rw [add_mk]
  refine hq _ (Upd.hset _ _ _ _) (H.head (aw := D.away) (fu := fu) (ca := D.calls) (Upd.hset _ _ _ _) ⟨cs, ct, ?_⟩ hf)
  rw [hset_at hb]; rfl
theorem dsetfuse_spec {Q : Int → Heap → Prop} {n : Int} (H : DkAt h F D) (ha : D.away = false) (hn0 : 0 ≤ n) (hn : n ≤ 9223372036854775807) (hq : ∀ h', Kp F h h' → DkAt h' F { D with fuse := n } → Q 0 h') : (disk_Disk_SetFuse (some ⟨F.p, 0, none⟩) n).wp h Q := by
  unfold disk_Disk_SetFuse
  refine bind_w (dcan_spec H ?_)
  rw [ha]
  refine iteF rfl (iteF (by simp; omega) (nilP_b (dset_fuse H ⟨hn0, hn⟩ (fun h1 u1 H1 => pure_w (hq h1 (Kp.upd u1 (.inl rfl)) H1)))))
theorem dcrash_spec {Q : Int → Heap → Prop} {torn : Int} {x : Sl} {keep : List Bool} (H : DkAt h F D) (ha : D.away = false) (hx : Bls h x keep) (hxd : keep = [] ∨ ∀ i, Sl.on x i → ¬ F.on i ∧ i < h.size)
    (hq : ∀ h' xs, xs.Perm (D.c.map Prod.fst) → xs.Pairwise (· ≤ ·) → Kp F h h' → DkAt h' F (Dk.decide { D with away := true, fuse := 0 } xs torn keep) → Q 0 h') : (disk_Disk_Crash (some ⟨F.p, 0, none⟩) torn x).wp h Q := by
  unfold disk_Disk_Crash
  refine bind_w (dcan_spec H ?_)
  rw [ha]
  refine iteF rfl (nilP_b (dset_away (Q := fun _ _ => True) H (fun h1 u1 H1 => nilP_b (dset_fuse H1 ⟨by omega, by omega⟩ (fun h2 u2 H2 => ?_)))))
  have k2 : Kp F h h2 := (Kp.upd u1 (.inl rfl)).trans (Kp.upd u2 (.inl rfl))
  have hx2 : Bls h2 x keep := hx.same (hxd.imp id (fun hh i hi => k2.same i (hh i hi).2 (hh i hi).1))
  refine bind_w (ddecide_spec H2 hx2 (hxd.imp id (fun hh i hi => ⟨(hh i hi).1, Nat.lt_of_lt_of_le (hh i hi).2 k2.size⟩)) (fun h3 xs p s k3 H3 => pure_w (hq h3 xs p s (k2.trans k3) H3)))
theorem dstart_spec {Q : Int → Heap → Prop} {torn : Int} {x : Sl} {keep : List Bool} (H : DkAt h F D) (ha : D.away = true) (hx : Bls h x keep) (hxd : keep = [] ∨ ∀ i, Sl.on x i → ¬ F.on i ∧ i < h.size)
    (hq : ∀ h' xs, xs.Perm (D.c.map Prod.fst) → xs.Pairwise (· ≤ ·) → Kp F h h' → DkAt h' F (Dk.decide { D with away := false } xs torn keep) → Q 0 h') : (disk_Disk_Start (some ⟨F.p, 0, none⟩) torn x).wp h Q := by
  unfold disk_Disk_Start
  obtain ⟨cs, ct, hb⟩ := H.blk
  refine bind_w (dnone_spec H (iteF rfl (nilP_b (ldB_b (n := D.away) (by rw [DkAt.cell hb]; rfl) ?_))))
  rw [ha]
  refine iteF rfl (nilP_b (dset_away (Q := fun _ _ => True) H (fun h1 u1 H1 => ?_)))
  have k2 : Kp F h h1 := (Kp.upd u1 (.inl rfl))
  have hx2 : Bls h1 x keep := hx.same (hxd.imp id (fun hh i hi => k2.same i (hh i hi).2 (hh i hi).1))
  refine bind_w (ddecide_spec H1 hx2 (hxd.imp id (fun hh i hi => ⟨(hh i hi).1, Nat.lt_of_lt_of_le (hh i hi).2 k2.size⟩)) (fun h3 xs p s k3 H3 => pure_w (hq h3 xs p s (k2.trans k3) H3)))
end
/-! ### begun -/
theorem sorted35 {xs : List Int} (hp : xs.Perm [3, 5]) (hs : xs.Pairwise (· ≤ ·)) : xs = [3, 5] := by
  have hl := hp.length_eq
  match xs, hl with
  | [a, b], _ =>
    have h3 : (3 : Int) ∈ [a, b] := hp.mem_iff.2 (by simp)
    have h5 : (5 : Int) ∈ [a, b] := hp.mem_iff.2 (by simp)
    simp at h3 h5 hs
    have ha : a = 3 := by omega
    have hb : b = 5 := by omega
    rw [ha, hb]
def bgD2 : Dk := ⟨9, fun _ => zeros, fun _ => false, [(3, fill 1), (5, fill 2)], false, 0, 2⟩
theorem bg1 : (Dk.new 9).write 3 (fill 1) = (⟨9, fun _ => zeros, fun _ => false, [(3, fill 1)], false, 0, 1⟩, 0) := by
  unfold Dk.write
  rw [if_neg (by decide), if_neg (by decide), if_neg (by decide)]
  have : (Dk.new 9).call = (⟨9, fun _ => zeros, fun _ => false, [], false, 0, 1⟩, 0) := by
    unfold Dk.call
    rw [if_neg (by decide)]
    rfl
  rw [this]
  rfl
theorem bg2 : Dk.write ⟨9, fun _ => zeros, fun _ => false, [(3, fill 1)], false, 0, 1⟩ 5 (fill 2) = (bgD2, 0) := by
  unfold Dk.write
  have : Dk.call ⟨9, fun _ => zeros, fun _ => false, [(3, fill 1)], false, 0, 1⟩ = (⟨9, fun _ => zeros, fun _ => false, [(3, fill 1)], false, 0, 2⟩, 0) := by
    unfold Dk.call
    rw [if_neg (by decide)]
    rfl
  rw [if_neg (by decide), if_neg (by decide), this, if_neg (by decide)]
  rfl
def bgD3 : Dk := Dk.decide { bgD2 with away := true, fuse := 0 } [3, 5] 1 [true]
def bgD4 : Dk := Dk.decide { bgD3 with away := false } [] 0 []
theorem bgk : keptL [true] [3, 5] 0 = [3, 5] := rfl
theorem bg3 : bgD3.away = true ∧ bgD3.n = 9 ∧ bgD3.c = [] ∧ bgD3.s 3 = fill 1 ∧ bgD3.t 3 = false ∧ bgD3.t 5 = true := by
  unfold bgD3 Dk.decide
  rw [bgk]
  refine ⟨rfl, rfl, rfl, rfl, rfl, rfl⟩
theorem bg4 : bgD4.read 3 = (fill 1, 0) ∧ bgD4.read 5 = (zeros, 40) := by
  obtain ⟨a, n, c, s, t3, t5⟩ := bg3
  have h1 : bgD4 = { bgD3 with away := false } := by
    show ({ (({ bgD3 with away := false } : Dk).stays []).tear [] 0 with c := [] } : Dk) = _
    unfold Dk.tear
    rw [if_neg (by simp)]
    show ({ ({ bgD3 with away := false } : Dk) with c := [] } : Dk) = _
    rw [← c]
  rw [h1]
  unfold Dk.read
  simp only [n, c, mlk, List.find?_nil, Option.map_none]
  constructor
  · rw [if_neg (by decide), if_neg (by omega)]
    show (if bgD3.t 3 then (zeros, (40 : Int)) else (bgD3.s 3, 0)) = _
    rw [t3, s]; rfl
  · rw [if_neg (by decide), if_neg (by omega)]
    show (if bgD3.t 5 then (zeros, (40 : Int)) else (bgD3.s 5, 0)) = _
    rw [t5]; rfl
theorem begun04_spec {h : Heap} {Q : Bool → Heap → Prop} (hq : ∀ h', Ext h h' → Q true h') : ramblelaw04_begun.wp h Q := by
  unfold ramblelaw04_begun
  refine bind_w (dnew_spec (fun hh => by omega) (fun m hm _ _ h1 F e1 H1 hF => ?_))
  have hm9 : m = 9 := by omega
  subst hm9
  refine iteF_b rfl (pure_b ?_)
  refine iteF_b rfl (assoc_b (bind_w (filled_spec (b := 1) rfl (fun h2 e2 => ?_))))
  refine assoc_b (bind_w (dwrite_spec (H1.ext e2) rfl (fill_len 1) (fun h3 k3 H3 => pure_b ?_)))
  rw [bg1] at H3 ⊢
  have E3 := (e1.trans e2).kp k3 hF
  refine iteF_b rfl (assoc_b (bind_w (filled_spec (b := 2) rfl (fun h4 e4 => ?_))))
  refine assoc_b (bind_w (dwrite_spec (H3.ext e4) rfl (fill_len 2) (fun h5 k5 H5 => pure_b ?_)))
  rw [bg2] at H5 ⊢
  have E5 := (E3.trans e4).kp k5 hF
  refine iteF_b rfl (assoc_b (bdL_b ?_))
  have e6 := Ext.push h5 (.cells #[.bool true] ty_bool)
  have g6 : (h5.push (.cells #[.bool true] ty_bool))[h5.size]? = some (.cells #[.bool true] ty_bool (0, 0)) := get_push_eq
  have s6 : (h5.push (.cells #[.bool true] ty_bool)).size = h5.size + 1 := by simp
  generalize h5.push (.cells #[.bool true] ty_bool) = h6 at e6 g6 s6 ⊢
  have bl : Bls h6 ⟨some ⟨h5.size, 0, none⟩, 1, 1⟩ [true] := ⟨rfl, .inr ⟨_, rfl, fun i b hi => by
    rcases i with _ | i
    · simp at hi; subst hi
      rw [add_mk, hcell_blk g6]; rfl
    · simp at hi⟩⟩
  refine assoc_b (bind_w (dcrash_spec (H5.ext e6) rfl bl (.inr (fun i hi => ?_)) (fun h7 xs hp hs k7 H7 => pure_b ?_)))
  · obtain ⟨a, ha, rfl⟩ := hi
    cases ha
    exact ⟨fun ho => by have := H5.lt ho; simp at this, by show h5.size < h6.size; omega⟩
  · have hx : xs = [3, 5] := sorted35 hp hs
    subst hx
    have E7 := (E5.trans e6).kp k7 hF
    have H7 : DkAt h7 F bgD3 := H7
    refine iteF_b rfl (assoc_b (bind_w (ddown_spec H7 (pure_b ?_))))
    obtain ⟨b1, b2, b3, b4, b5, b6⟩ := bg3
    rw [b1]
    refine iteF_b rfl (assoc_b (bind_w (dstart_spec H7 b1 (Bls.nil _) (.inl rfl) (fun h8 ys hp8 hs8 k8 H8 => pure_b ?_))))
    have hy : ys = [] := by rw [b3] at hp8; exact hp8.eq_nil
    subst hy
    have H8 : DkAt h8 F bgD4 := H8
    have E8 := E7.kp k8 hF
    refine iteF rfl ?_
    obtain ⟨r3, r5⟩ := bg4
    refine bind_w (dread_spec H8 (fun h9 e9 => ?_))
    rw [r3]
    have E9 := E8.trans e9
    refine mkZ E9 (fun h10 g10 e10 s10 bb10 => need_b (by rw [bcells_size, fill_len]) ?_)
    refine stB128 bb10 rfl (fill_len 1) (fun h11 u11 bb11 => ?_)
    have E11 := e10.upd u11 E9.size
    have H11 : DkAt h11 F bgD4 := ((H8.ext e9).ext g10).upd u11 (fun ho => by have := (H8.ext e9).lt ho; omega)
    refine bind_w (dread_spec H11 (fun h12 e12 => ?_))
    rw [r5]
    have E12 := E11.trans e12
    refine mkZ E12 (fun h13 g13 e13 s13 bb13 => need_b (by rw [bcells_size]; rfl) ?_)
    refine stB128 bb13 rfl rfl (fun h14 u14 bb14 => ?_)
    have E14 := e13.upd u14 E12.size
    have bb14' : BB h14 h9.size ty_api_Sector (fill 1) := BB.upd (show BB h13 h9.size ty_api_Sector (fill 1) from (e12.trans g13).blk bb11) u14 (by have := e12.size; have := u11.size; omega)
    refine ldB128 bb14' (fill_len 1) (bind_w (filled_spec (b := 1) rfl (fun h15 e15 => ?_)))
    have bb15 : BB h15 h9.size ty_api_Sector (fill 1) := e15.blk bb14'
    refine chk_b ⟨by rw [bcells_size, fill_len], fun i hi => by rw [add_mk, Nat.zero_add, hcell_blk bb15]⟩ ?_
    refine eqA_b (nums_bcells _ (by rw [fill_len]; exact Nat.le_refl _)) (nums_bcells _ (by rw [fill_len]; exact Nat.le_refl _)) ?_
    rw [aEq_bcells _ _ (fill_len 1) (fill_len 1)]
    refine iteT (by simp) (iteT rfl ?_)
    unfold ramblelaw04_begun_j1
    exact pure_w (hq _ (E14.trans e15))
end Gx
namespace Gx
open Go
set_option linter.unusedVariables false
set_option linter.unusedSimpArgs false
def zd : Array Value := #[.slice none 0 0, .slice none 0 0, .map none, .bool false, .int .i64 0, .int .i64 0]
/-- a disk that no call made -/
def Nd (h : Heap) (p : Option Addr) : Prop := p = none ∨ ∃ b, p = some ⟨b, 0, none⟩ ∧ h[b]? = some (.cells zd ty_disk_Disk (0, 0))
theorem Nd.ext {h h' : Heap} {p : Option Addr} (H : Nd h p) (e : Ext h h') : Nd h' p := H.imp id (fun ⟨b, h1, h2⟩ => ⟨b, h1, e.blk h2⟩)
section
variable {h : Heap} {p : Option Addr}
theorem nd_none {Q : Bool → Heap → Prop} (H : Nd h p) (hq : Q true h) : (disk_Disk_none p).wp h Q := by
  unfold disk_Disk_none
  rcases H with rfl | ⟨b, rfl, hb⟩
  · exact iteT_b rfl (pure_b (pure_w hq))
  · refine iteF_b rfl (assoc_b (nilP_b (assoc_b (ldMp_b (n := none) (by rw [add_mk, hcell_blk hb]; rfl) (pure_b (pure_w hq))))))
theorem nd_can {Q : Int → Heap → Prop} (H : Nd h p) (hq : Q 2 h) : (disk_Disk_can p).wp h Q := by
  unfold disk_Disk_can
  exact bind_w (nd_none H (iteT rfl (pure_w hq)))
theorem nd_write {Q : Int → Heap → Prop} {n : Int} {x : Array Value} (H : Nd h p) (hq : ∀ h', Ext h h' → Q 2 h') : (disk_Disk_Write p n x).wp h Q := by
  unfold disk_Disk_Write
  refine mkB_b (bind_w (nd_can (H.ext (Ext.push _ _)) (iteT rfl (pure_w (hq _ (Ext.push _ _))))))
theorem nd_flush {Q : Int → Heap → Prop} (H : Nd h p) (hq : Q 2 h) : (disk_Disk_Flush p).wp h Q := by
  unfold disk_Disk_Flush
  exact bind_w (nd_can H (iteT rfl (pure_w hq)))
theorem nd_setfuse {Q : Int → Heap → Prop} {n : Int} (H : Nd h p) (hq : Q 2 h) : (disk_Disk_SetFuse p n).wp h Q := by
  unfold disk_Disk_SetFuse
  exact bind_w (nd_can H (iteT rfl (pure_w hq)))
theorem nd_crash {Q : Int → Heap → Prop} {n : Int} {s : Sl} (H : Nd h p) (hq : Q 2 h) : (disk_Disk_Crash p n s).wp h Q := by
  unfold disk_Disk_Crash
  exact bind_w (nd_can H (iteT rfl (pure_w hq)))
theorem nd_start {Q : Int → Heap → Prop} {n : Int} {s : Sl} (H : Nd h p) (hq : Q 2 h) : (disk_Disk_Start p n s).wp h Q := by
  unfold disk_Disk_Start
  exact bind_w (nd_none H (iteT rfl (pure_w hq)))
theorem nd_burst {Q : Int → Heap → Prop} {n a w : Int} (H : Nd h p) (hq : Q 2 h) : (disk_Disk_Burst p n a w).wp h Q := by
  unfold disk_Disk_Burst
  exact bind_w (nd_none H (iteT rfl (pure_w hq)))
theorem nd_down {Q : Bool → Heap → Prop} (H : Nd h p) (hq : Q false h) : (disk_Disk_Down p).wp h Q := by
  unfold disk_Disk_Down
  exact bind_w (nd_none H (iteF_b rfl (pure_b (pure_w hq))))
theorem nd_sectors {Q : Int → Heap → Prop} (H : Nd h p) (hq : Q 0 h) : (disk_Disk_Sectors p).wp h Q := by
  unfold disk_Disk_Sectors
  exact bind_w (nd_none H (iteT rfl (pure_w hq)))
theorem nd_calls {Q : Int → Heap → Prop} (H : Nd h p) (hq : Q 0 h) : (disk_Disk_Calls p).wp h Q := by
  unfold disk_Disk_Calls
  exact bind_w (nd_none H (iteT rfl (pure_w hq)))
theorem nd_dirty {Q : Sl → Heap → Prop} (H : Nd h p) (hq : Q Sl.nil h) : (disk_Disk_Dirty p).wp h Q := by
  unfold disk_Disk_Dirty
  exact bind_w (nd_none H (iteT rfl (pure_w hq)))
theorem nd_clone {Q : Option Addr → Heap → Prop} (H : Nd h p) (hq : Q none h) : (disk_Disk_Clone p).wp h Q := by
  unfold disk_Disk_Clone
  exact bind_w (nd_none H (iteT rfl (pure_w hq)))
theorem nd_read {Q : Array Value × Int → Heap → Prop} {n : Int} (H : Nd h p) (hq : ∀ h', Ext h h' → Q (bcells zeros, 2) h') : (disk_Disk_Read p n).wp h Q := by
  unfold disk_Disk_Read
  refine mkZ (Ext.refl h) (fun h1 _ e1 s1 b1 => ?_)
  refine bind_w (nd_can (H.ext e1) (iteT rfl ?_))
  rw [zeros_cells]
  refine need_b (by rw [bcells_size]; rfl) ?_
  refine stB128 b1 rfl rfl (fun h2 u2 b2 => ?_)
  exact ldB128 b2 rfl (pure_w (hq _ (e1.upd u2 (Nat.le_refl _))))
end
/-- an operation of the disk's scripts -/
structure DOp where
  d : Int
  n : Int
  f : UInt8
  s : Sl
  a : Int
  b : Int
def dopc (o : DOp) : Array Value := #[.int .i64 o.d, .int .i64 o.n, .int .u8 (o.f.toNat : Int), o.s.v, .int .i64 o.a, .int .u32 o.b]
theorem none_spec {h : Heap} {o : DOp} : (ramblelaw04_DiskNone (dopc o)).wp h (fun r h' => r = true ∧ Ext h h') := by
  unfold ramblelaw04_DiskNone
  refine mkB_b ?_
  have e1 := Ext.push h (.cells (dopc o) ty_ramblelaw04_Op)
  have g1 : (h.push (.cells (dopc o) ty_ramblelaw04_Op))[h.size]? = some (.cells (dopc o) ty_ramblelaw04_Op (0, 0)) := get_push_eq
  generalize h.push (.cells (dopc o) ty_ramblelaw04_Op) = h1 at e1 g1 ⊢
  refine bind_w (begun04_spec (fun h2 e2 => iteF rfl ?_))
  refine mkB_b ?_
  have e3 := Ext.push h2 (.cells zd ty_disk_Disk)
  have g3 : (h2.push (.cells zd ty_disk_Disk))[h2.size]? = some (.cells zd ty_disk_Disk (0, 0)) := get_push_eq
  show (bdL _ _ _ >>= _).wp (h2.push (.cells zd ty_disk_Disk)) _
  generalize h2.push (.cells zd ty_disk_Disk) = h3 at e3 g3 ⊢
  refine bdL_b ?_
  have e4 := Ext.push h3 (.cells #[.pointer (none : Option Addr), .pointer (some ⟨h2.size, 0, none⟩)] ty_p_disk_Disk)
  have g4 : (h3.push (.cells #[.pointer (none : Option Addr), .pointer (some ⟨h2.size, 0, none⟩)] ty_p_disk_Disk))[h3.size]? = some (.cells #[.pointer (none : Option Addr), .pointer (some ⟨h2.size, 0, none⟩)] ty_p_disk_Disk (0, 0)) := get_push_eq
  generalize h3.push (.cells #[.pointer (none : Option Addr), .pointer (some ⟨h2.size, 0, none⟩)] ty_p_disk_Disk) = h4 at e4 g4 ⊢
  refine M.loop_inv (fun (t : Int) h' => Ext h4 h' ∧ (t = 0 ∨ t = 1 ∨ t = 2)) (fun t _ => (3 - t).toNat) ?_ ⟨Ext.refl _, .inl rfl⟩
  rintro t h' ⟨E, ht⟩ self hself
  have G1 := ((g1 |> fun g => e2.blk g) |> fun g => e3.blk g) |> fun g => E.blk (e4.blk g)
  have G3 := E.blk (e4.blk g3)
  have G4 := E.blk g4
  have EE := ((e1.trans e2).trans e3).trans (e4.trans E)
  unfold ramblelaw04_DiskNone_l1
  refine ite_w (fun hlt => ?_) (fun hge => pure_w ⟨rfl, EE⟩)
  have hlt : t < 2 := of_decide_eq_true hlt
  obtain ⟨p, hp, hn⟩ : ∃ p, hcell h' ⟨h3.size, t.toNat, none⟩ = some (.pointer p) ∧ Nd h' p := by
    rw [hcell_blk G4]
    rcases ht with rfl | rfl | rfl
    · exact ⟨none, rfl, .inl rfl⟩
    · exact ⟨_, rfl, .inr ⟨_, rfl, G3⟩⟩
    · omega
  refine ixL_b (by omega) hlt rfl ?_
  refine ldP_b (n := p) (by rw [add_mk, show 0 + t.toNat * 1 = t.toNat by omega]; exact hp) ?_
  have c1 : ∀ {H : Heap}, Ext h' H → hcell H ((⟨h.size, 0, none⟩ : Addr).add 1) = some (.int .i64 o.n) := fun e => by rw [add_mk, hcell_blk (e.blk G1)]; rfl
  have c3 : ∀ {H : Heap}, Ext h' H → hcell H ((⟨h.size, 0, none⟩ : Addr).add 3) = some o.s.v := fun e => by rw [add_mk, hcell_blk (e.blk G1)]; rfl
  have c4 : ∀ {H : Heap}, Ext h' H → hcell H ((⟨h.size, 0, none⟩ : Addr).add 4) = some (.int .i64 o.a) := fun e => by rw [add_mk, hcell_blk (e.blk G1)]; rfl
  have c5 : ∀ {H : Heap}, Ext h' H → hcell H ((⟨h.size, 0, none⟩ : Addr).add 5) = some (.int .u32 o.b) := fun e => by rw [add_mk, hcell_blk (e.blk G1)]; rfl
  refine ldI_b (c1 (Ext.refl _)) (bind_w (nd_read hn (fun h5 e5 => ?_)))
  refine mkZ e5 (fun h6 g6 e6 s6 b6 => need_b (by rw [bcells_size]; rfl) ?_)
  refine stB128 b6 rfl rfl (fun h7 u7 b7 => ?_)
  have e7 := e6.upd u7 e5.size
  refine iteF rfl (ldI_b (c1 e7) (bind_w (filled_spec (b := 1) rfl (fun h8 e8 => ?_))))
  have E8 := e7.trans e8
  refine chk_b (c1 E8) (bind_w (nd_write (hn.ext E8) (fun h9 e9 => ?_)))
  have E9 := E8.trans e9
  have n9 := hn.ext E9
  refine iteF rfl (bind_w (nd_flush n9 (iteF rfl (bind_w (nd_setfuse n9 (iteF rfl ?_))))))
  refine ldL_b (c3 E9) (bind_w (nd_crash n9 (iteF rfl (ldL_b (c3 E9) (bind_w (nd_start n9 (iteF rfl ?_)))))))
  refine ldI_b (c1 E9) (ldI_b (c4 E9) (ldI_b (c5 E9) (bind_w (nd_burst n9 (iteF rfl (bind_w (nd_down n9 (iteF rfl ?_))))))))
  refine bind_w (nd_sectors n9 (iteF rfl (bind_w (nd_dirty n9 (iteF rfl (bind_w (nd_calls n9 (iteF rfl (bind_w (nd_clone n9 ?_))))))))))
  unfold ramblelaw04_DiskNone_j1
  refine iteF rfl ?_
  rw [w64 (by omega) (by omega)]
  exact hself _ _ ⟨E.trans E9, by omega⟩ (by omega)
end Gx
namespace Gx
open Go
set_option linter.unusedVariables false
set_option linter.unusedSimpArgs false
/-- a slice of operations -/
structure DOps (h : Heap) (x : Sl) (ops : List DOp) : Prop where
  len : x.len = ops.length
  at_ : ops = [] ∨ ∃ a, x.base = some a ∧ ∀ (i : Nat) o, ops[i]? = some o → ∀ j, j < 6 → hcell h (a.add (i * 6 + j)) = (dopc o)[j]?
  ok : ∀ o ∈ ops, o.n ≤ 9223372036854775807 ∧ -9223372036854775808 ≤ o.n
  max : ops.length ≤ 9223372036854775807
theorem DOps.ext {h h' : Heap} {x : Sl} {ops : List DOp} (H : DOps h x ops) (e : Ext h h') : DOps h' x ops := by
  refine ⟨H.len, ?_, H.ok, H.max⟩
  rcases H.at_ with h1 | ⟨a, ha, hc⟩
  · exact .inl h1
  · refine .inr ⟨a, ha, fun i o hi j hj => ?_⟩
    have := hc i o hi j hj
    have hj6 : j < (dopc o).size := hj
    rw [Array.getElem?_eq_getElem hj6] at this ⊢
    exact e.cell this
def DOB (h : Heap) (b : Nat) (o : DOp) : Prop := h[b]? = some (.cells (dopc o) ty_ramblelaw04_Op (0, 0))
theorem DOB.cell {h : Heap} {b : Nat} {o : DOp} (H : DOB h b o) (i : Nat) : hcell h ((⟨b, 0, none⟩ : Addr).add i) = (dopc o)[i]? := by rw [add_mk, Nat.zero_add, hcell_blk H]
/-- the operation at an index, laid in a block of its own -/
theorem dop_b {β : Type} {x : Sl} {ops : List DOp} {h : Heap} {Q : β → Heap → Prop} {i : Nat} {o : DOp} {f : Addr → M β} (hx : DOps h x ops) (ho : ops[i]? = some o)
    (H : ∀ h2, Ext h h2 → DOB h2 h.size o → (f ⟨h.size, 0, none⟩).wp h2 Q) :
    (ixL x (i : Int) 6 >>= fun a => ldG 6 a >>= fun c => mkB ty_ramblelaw04_Op (#[.int .i64 0, .int .i64 0, .int .u8 0, .slice none 0 0, .int .i64 0, .int .u32 0] : Array Value) >>= fun b => M.need (c.size = 6) >>= fun _ => stG b c >>= fun _ => f b).wp h Q := by
  have hi : i < ops.length := (List.getElem?_eq_some_iff.1 ho).1
  obtain ⟨a, ha, hc⟩ : ∃ a, x.base = some a ∧ ∀ (i : Nat) o, ops[i]? = some o → ∀ j, j < 6 → hcell h (a.add (i * 6 + j)) = (dopc o)[j]? := by
    rcases hx.at_ with h1 | h1
    · subst h1; simp at hi
    · exact h1
  refine ixL_b (by omega) (by rw [hx.len]; omega) ha ?_
  rw [show ((i : Int).toNat * 6) = i * 6 by omega]
  refine ldG_b (cs := dopc o) rfl (fun j hj => ?_) ?_
  · rw [← hc i o ho j hj, Addr.add_add]
  refine mkB_b (need_b rfl ?_)
  have g : (h.push (.cells (#[.int .i64 0, .int .i64 0, .int .u8 0, .slice none 0 0, .int .i64 0, .int .u32 0] : Array Value) ty_ramblelaw04_Op))[h.size]? = some (.cells (#[.int .i64 0, .int .i64 0, .int .u8 0, .slice none 0 0, .int .i64 0, .int .u32 0] : Array Value) ty_ramblelaw04_Op (0, 0)) := get_push_eq
  refine stG_b (fun j hj => ?_) (fun v hv => ?_) (H _ ((Ext.push h _).upd (Upd.hsetL _ _ _ _ _) (Nat.le_refl _)) ?_)
  · rw [add_mk, hcell_blk g, hfrozen_blk g]
    have hj' : 0 + j < 6 := by rw [Nat.zero_add]; exact hj
    exact ⟨⟨_, Array.getElem?_eq_getElem hj'⟩, rfl⟩
  · simp only [dopc, List.mem_cons, List.not_mem_nil, or_false] at hv
    rcases hv with rfl | rfl | rfl | rfl | rfl | rfl <;> rfl
  · unfold DOB
    rw [hsetL_at _ _ _ _ g]
    rfl
/-- what a disk with a fuse is like -/
structure Aw (f : Nat) (i : Nat) (D : Dk) : Prop where
  n : D.n = 8
  calls : 0 ≤ D.calls ∧ D.calls ≤ i
  on : D.away = false → (f = 0 ∧ D.fuse = 0) ∨ (f ≠ 0 ∧ D.calls < f ∧ D.fuse = f - D.calls)
  off : D.away = true → f ≠ 0 ∧ D.calls = f - 1
theorem aw_call {f i : Nat} {D : Dk} (H : Aw f i D) (ha : D.away = false) (hi : i < 9223372036854775807) :
    (D.call.2 = 0 ∧ D.call.1.away = false ∧ D.call.1.calls = D.calls + 1 ∧ Aw f (i + 1) D.call.1) ∨ (D.call.2 = 9 ∧ D.call.1.away = true ∧ D.call.1.calls = D.calls ∧ Aw f (i + 1) D.call.1) := by
  have hc := H.calls
  have hw : IntKind.wrap .i64 (D.calls + 1) = D.calls + 1 := w64 (by omega) (by omega)
  unfold Dk.call
  rcases H.on ha with ⟨h0, h1⟩ | ⟨h0, h1, h2⟩
  · rw [if_neg (by omega)]
    left
    dsimp only
    rw [hw]
    exact ⟨rfl, ha, rfl, H.n, ⟨by dsimp only; omega, by dsimp only; omega⟩, fun _ => .inl ⟨h0, h1⟩, fun h => by rw [ha] at h; cases h⟩
  · rw [if_pos (by omega)]
    by_cases h3 : D.fuse = 1
    · rw [if_pos h3]
      right
      exact ⟨rfl, rfl, rfl, H.n, ⟨by dsimp only; omega, by dsimp only; omega⟩, fun h => (by cases h), fun _ => ⟨h0, by dsimp only; omega⟩⟩
    · rw [if_neg h3]
      left
      dsimp only
      rw [hw]
      exact ⟨rfl, ha, rfl, H.n, ⟨by dsimp only; omega, by dsimp only; omega⟩, fun _ => .inr ⟨h0, by dsimp only; omega, by dsimp only; omega⟩, fun h => by rw [ha] at h; cases h⟩
/-- what an operation comes to, of a disk with a fuse -/
def AwStep (f i : Nat) (D D' : Dk) (e : Int) : Prop :=
  Aw f (i + 1) D' ∧ ((D.away = true ∧ e = 9 ∧ D' = D) ∨ (D.away = false ∧ e = 0 ∧ D'.away = false ∧ D'.calls = D.calls + 1) ∨ (D.away = false ∧ e = 9 ∧ D'.away = true ∧ D'.calls = D.calls))
theorem Aw.le {f i j : Nat} {D : Dk} (H : Aw f i D) (h : i ≤ j) : Aw f j D := ⟨H.n, ⟨H.calls.1, by have := H.calls.2; omega⟩, H.on, H.off⟩
theorem aw_write {f i : Nat} {D : Dk} {n : Int} {x : List UInt8} (H : Aw f i D) (hi : i < 9223372036854775807) (h0 : 0 ≤ n) (h1 : n < 8) : AwStep f i D (D.write n x).1 (D.write n x).2 := by
  unfold Dk.write
  cases ha : D.away with
  | true => exact ⟨H.le (by omega), .inl ⟨ha, rfl, rfl⟩⟩
  | false =>
    rw [if_neg (by decide), if_neg (by have := H.n; omega)]
    rcases aw_call H ha hi with ⟨c1, c2, c3, c4⟩ | ⟨c1, c2, c3, c4⟩
    · rw [if_neg (by rw [c1]; decide)]
      exact ⟨⟨c4.n, c4.calls, c4.on, c4.off⟩, .inr (.inl ⟨ha, rfl, c2, c3⟩)⟩
    · rw [if_pos (by rw [c1]; decide)]
      exact ⟨c4, .inr (.inr ⟨ha, c1, c2, c3⟩)⟩
theorem aw_flush {f i : Nat} {D : Dk} (H : Aw f i D) (hi : i < 9223372036854775807) : AwStep f i D D.flush.1 D.flush.2 := by
  unfold Dk.flush
  cases ha : D.away with
  | true => exact ⟨H.le (by omega), .inl ⟨ha, rfl, rfl⟩⟩
  | false =>
    rw [if_neg (by decide)]
    rcases aw_call H ha hi with ⟨c1, c2, c3, c4⟩ | ⟨c1, c2, c3, c4⟩
    · rw [if_neg (by rw [c1]; decide)]
      exact ⟨⟨c4.n, c4.calls, c4.on, c4.off⟩, .inr (.inl ⟨ha, rfl, c2, c3⟩)⟩
    · rw [if_pos (by rw [c1]; decide)]
      exact ⟨c4, .inr (.inr ⟨ha, c1, c2, c3⟩)⟩
theorem and7 (n : Int) : 0 ≤ iAnd .i64 n 7 ∧ iAnd .i64 n 7 < 8 := by
  show 0 ≤ IntKind.wrap .i64 (((BitVec.ofInt 64 n) &&& (BitVec.ofInt 64 7)).toNat : Int) ∧ IntKind.wrap .i64 (((BitVec.ofInt 64 n) &&& (BitVec.ofInt 64 7)).toNat : Int) < 8
  have h : ((BitVec.ofInt 64 n) &&& (BitVec.ofInt 64 7)).toNat ≤ 7 := by
    rw [BitVec.toNat_and]
    exact Nat.le_trans Nat.and_le_right (by decide)
  rw [w64 (by omega) (by omega)]
  omega
/-- how the disk lies between two rounds -/
structure AwAt (h0 h : Heap) (F : Fp) (f i : Nat) (D : Dk) : Prop where
  at_ : DkAt h F D
  aw : Aw f i D
  ext : Ext h0 h
theorem away_spec {h : Heap} {x1 : Sl} {ops : List DOp} {f : UInt8} (hx : DOps h x1 ops) : (ramblelaw04_DiskAway (f.toNat : Int) x1).wp h (fun r h' => r = true ∧ Ext h h') := by
  unfold ramblelaw04_DiskAway
  have hf := f.toNat_lt
  have hmax := hx.max
  generalize hfn : f.toNat = fn at hf ⊢
  clear hfn f
  have hwf : IntKind.wrap .i64 (fn : Int) = (fn : Int) := w64 (by omega) (by omega)
  refine bind_w (dnew_spec (fun hh => by omega) (fun m hm _ _ h1 F e1 H1 hF => ?_))
  have hm8 : m = 8 := by omega
  subst hm8
  refine bind_w (begun04_spec (fun h2 e2 => ?_))
  refine iteF_b rfl (pure_b (iteF_b rfl (pure_b (iteF_b rfl (assoc_b ?_)))))
  rw [hwf]
  refine bind_w (dsetfuse_spec (H1.ext e2) rfl (by omega) (by omega) (fun h3 k3 H3 => pure_b (iteF rfl ?_)))
  have E3 := (e1.trans e2).kp k3 hF
  rw [hx.len]
  refine M.loop_inv (fun (t : Int) h' => ∃ (i : Nat) (D : Dk), t = (i : Int) ∧ i ≤ ops.length ∧ AwAt h h' F fn i D) (fun t _ => ((ops.length : Int) - t).toNat) ?_ ⟨0, _, rfl, Nat.zero_le _, H3, ⟨rfl, ⟨Int.le_refl _, Int.le_refl _⟩, fun _ => ?_, fun hh => by cases hh⟩, E3⟩
  · rintro t h' ⟨i, D, rfl, hi, HD, HA, E⟩ self hself
    unfold ramblelaw04_DiskAway_l1
    have hx' := hx.ext E
    have hcal := HA.calls
    refine ite_w (fun hlt => ?_) (fun hge => ?_)
    · have hlt : i < ops.length := by have := of_decide_eq_true hlt; omega
      have hgo : ops[i]? = some ops[i] := List.getElem?_eq_getElem hlt
      generalize ops[i] = o at hgo
      refine dop_b hx' hgo (fun h4 e4 O4 => ?_)
      have HD4 := HD.ext e4
      have E4 := E.trans e4
      have hnF : ¬ F.on h'.size := fun ho => by have := HD.lt ho; omega
      refine bind_w (dcalls_spec HD4 (bind_w (ddown_spec HD4 ?_)))
      have tail : ∀ {h5 : Heap} {D' : Dk} {e : Int}, DkAt h5 F D' → AwStep fn i D D' e → Ext h h5 → (ramblelaw04_DiskAway_j1 self (fn : Int) (some ⟨F.p, 0, none⟩) D.calls D.away (i : Int) e).wp h5 (fun r h' => r = true ∧ Ext h h') := by
        intro h5 D' e H5 hst E5
        obtain ⟨hA', hst⟩ := hst
        have hcal' := hA'.calls
        have hws : ∀ a b : Int, 0 ≤ a → a ≤ 9223372036854775807 → 0 ≤ b → b ≤ 9223372036854775807 → IntKind.wrap .i64 (a - b) = a - b := fun a b h1 h2 h3 h4 => w64 (by omega) (by omega)
        unfold ramblelaw04_DiskAway_j1
        have hwi : IntKind.wrap .i64 ((i : Int) + 1) = ((i + 1 : Nat) : Int) := by rw [w64 (by omega) (by omega)]; rfl
        have go : (self (IntKind.wrap .i64 ((i : Int) + 1))).wp h5 (fun r h' => r = true ∧ Ext h h') := by
          rw [hwi]
          exact hself _ _ ⟨i + 1, D', rfl, by omega, H5, hA', E5⟩ (by omega)
        have hwr : IntKind.wrap .i64 (D'.calls - D.calls) = D'.calls - D.calls := w64 (by omega) (by omega)
        rcases hst with ⟨a1, rfl, rfl⟩ | ⟨a1, rfl, a3, a4⟩ | ⟨a1, rfl, a3, a4⟩
        · rw [a1]
          refine iteT_b rfl (pure_b ?_)
          refine iteF_b rfl (assoc_b (bind_w (dcalls_spec H5 (pure_b ?_))))
          rw [hwr]
          refine iteF_b (by simp) (assoc_b (iteT_b rfl (assoc_b (bind_w (ddown_spec H5 (pure_b (pure_b ?_)))))))
          rw [a1]
          refine iteF rfl ?_
          refine iteF_b rfl (pure_b (iteF_b rfl (pure_b (iteF rfl go))))
        · rw [a1]
          refine iteF_b rfl (pure_b ?_)
          refine iteF_b rfl (assoc_b (bind_w (dcalls_spec H5 (pure_b ?_))))
          rw [hwr, a4]
          refine iteF_b (by have : D.calls + 1 - D.calls = 1 := by omega
                            rw [this]; rfl) (assoc_b (iteF_b rfl (pure_b (pure_b ?_))))
          refine iteF rfl ?_
          refine iteT_b rfl (assoc_b (bind_w (ddown_spec H5 (pure_b ?_))))
          rw [a3]
          exact iteF_b rfl (pure_b (iteF rfl go))
        · rw [a1]
          refine iteF_b rfl (pure_b ?_)
          refine iteF_b rfl (assoc_b (bind_w (dcalls_spec H5 (pure_b ?_))))
          rw [hwr, a4]
          refine iteF_b (by have : D.calls - D.calls = 0 := by omega
                            rw [this]; rfl) (assoc_b (iteT_b rfl (assoc_b (bind_w (ddown_spec H5 (pure_b (pure_b ?_)))))))
          rw [a3]
          refine iteF rfl ?_
          refine iteT_b rfl (assoc_b (bind_w (ddown_spec H5 (pure_b ?_))))
          rw [a3]
          obtain ⟨o1, o2⟩ := hA'.off a3
          refine iteT_b rfl (assoc_b ?_)
          refine iteF_b (by simp; omega) (assoc_b (bind_w (dcalls_spec H5 (pure_b (pure_b ?_)))))
          rw [hwf, w64 (by omega) (by omega)]
          exact iteF (by rw [o2]; simp) go
      refine ldI_b (n := o.d) (by rw [O4.cell]; rfl) ?_
      refine ite_w (fun hd => ?_) (fun hd => ?_)
      · exact bind_w (dflush_spec HD4 (fun h5 k5 H5 => tail H5 (aw_flush HA (by omega)) (E4.kp k5 hF)))
      · refine ldI_b (n := o.n) (by rw [O4.cell]; rfl) (ldI_b (n := (o.f.toNat : Int)) (by rw [O4.cell]; rfl) ?_)
        refine bind_w (filled_spec (b := o.f) rfl (fun h5 e5 => ?_))
        have O5 : DOB h5 h'.size o := e5.blk O4
        refine chk_b ⟨by rw [O5.cell]; rfl, by rw [O5.cell]; rfl⟩ ?_
        obtain ⟨a0, a1⟩ := and7 o.n
        exact bind_w (dwrite_spec (HD4.ext e5) rfl (fill_len _) (fun h6 k6 H6 => tail H6 (aw_write HA (by omega) a0 a1) ((E4.trans e5).kp k6 hF)))
    · refine bind_w (ddown_spec HD ?_)
      cases ha : D.away with
      | true =>
        refine iteT rfl (bind_w (dread_spec HD (fun h4 e4 => ?_)))
        have hr : D.read 0 = (zeros, 9) := by rw [Dk.read, ha]; rfl
        rw [hr]
        refine mkZ (E.trans e4) (fun h5 g5 e5 s5 b5 => need_b (by rw [bcells_size]; rfl) ?_)
        refine stB128 b5 rfl rfl (fun h6 u6 b6 => ?_)
        have H6 : DkAt h6 F D := ((HD.ext e4).ext g5).upd u6 (fun ho => by have := (HD.ext e4).lt ho; omega)
        have E6 := e5.upd u6 (E.trans e4).size
        refine iteT_b rfl (assoc_b (bind_w (dflush_spec H6 (fun h7 k7 H7 => pure_b (pure_w ⟨?_, E6.kp k7 hF⟩)))))
        have : D.flush.2 = 9 := by rw [Dk.flush, ha]; rfl
        rw [this]; rfl
      | false =>
        refine iteF rfl ?_
        rcases HA.on ha with ⟨h0, h1⟩ | ⟨h0, h1, h2⟩
        · refine iteT_b (by simp; omega) (pure_b (pure_w ⟨rfl, E⟩))
        · refine iteF_b (by simp; omega) (assoc_b (bind_w (dcalls_spec HD (pure_b (pure_w ⟨?_, E⟩)))))
          rw [hwf]
          simp; omega
  · by_cases h0 : fn = 0
    · exact .inl ⟨h0, by show (fn : Int) = 0; omega⟩
    · exact .inr ⟨h0, by show (0 : Int) < (fn : Int); omega, by show (fn : Int) = (fn : Int) - 0; omega⟩
end Gx
namespace Gx
open Go Go.Proofs Go.RowKit Go.ChangeShapes Go.WideShapes Go.ChangeAt Go.Joins
set_option linter.unusedVariables false
set_option maxRecDepth 100000
section
variable {H : Type} {enc : TypeId × Value → H}
theorem cells51 : Try.prog.cellsOf 51 = 6 := by kernel_rfl
theorem cells3 : Try.prog.cellsOf 3 = 1 := by kernel_rfl
theorem cells4 : Try.prog.cellsOf 4 = 1 := by kernel_rfl
theorem cells5 : Try.prog.cellsOf 5 = 1 := by kernel_rfl
theorem cells45 : Try.prog.cellsOf 45 = 1 := by kernel_rfl
theorem cells49 : Try.prog.cellsOf 49 = 1 := by kernel_rfl
theorem list6 {cs : List Value} (h : cs.length = 6) : ∃ a b c d e f, cs = [a, b, c, d, e, f] := by
  match cs, h with
  | [a, b, c, d, e, f], _ => exact ⟨a, b, c, d, e, f, rfl⟩
theorem open_bools {W : World} {n : Nat} {v : Value} {x : DataW H × List MemPlace} {sp : Nat → Bool} {held : Bool} {base : Nat}
    (h : DataW.trod enc Try.prog W base sp held n 45 [v] = some x) : ∃ (s : Sl) (l : List Bool), v = s.v ∧ Bls W.heap s l ∧ (l = [] ∨ ∀ i, Sl.on s i → i < W.heap.size) ∧ l.length ≤ 9223372036854775807 := by
  rcases DataW.trod_slice Try.underlying45 h with ⟨h0, hx⟩ | ⟨a, len, cap, elems, rest, m, _, h1, hx, _, hle, hm, hlen, hel, _, _⟩
  · cases h0
    exact ⟨Sl.nil, [], rfl, Bls.nil _, .inl rfl, by simp⟩
  · cases h1
    rw [cells4] at hel
    have key : ∀ i, i < len → ∃ b : Bool, hcell W.heap (a.add i) = some (.bool b) := fun i hi => by
      have h2 := hel i hi
      rw [List.getElem?_eq_getElem (by omega), Option.bind_eq_some_iff] at h2
      obtain ⟨cs, hcs, ht⟩ := h2
      rw [Nat.mul_one] at hcs
      obtain ⟨b, rfl, _⟩ := DataW.trod_bool Try.underlying4 ht
      exact ⟨b, (World.cells?_some hcs).2.2 0 (by omega)⟩
    have hmx : cap ≤ 9223372036854775807 := Nat.le_trans hm (by decide)
    refine ⟨⟨some a, len, cap⟩, List.ofFn (fun i : Fin len => Classical.choose (key i i.2)), rfl, ⟨by simp, .inr ⟨a, rfl, fun i b hi => ?_⟩⟩, ?_, by simp; omega⟩
    · have hil : i < len := by
        have := (List.getElem?_eq_some_iff.1 hi).1
        simpa using this
      rw [List.getElem?_ofFn, dif_pos hil] at hi
      cases hi
      exact Classical.choose_spec (key i hil)
    · rcases Nat.eq_zero_or_pos len with h0 | h0
      · left; subst h0; simp
      · right
        rintro i ⟨a', ha', rfl⟩
        cases ha'
        obtain ⟨b, hb⟩ := key 0 h0
        unfold hcell at hb
        rcases Nat.lt_or_ge a.block W.heap.size with h' | h'
        · exact h'
        · rw [add_block, Array.getElem?_eq_none h'] at hb
          cases hb
theorem open_dop {W : World} {sp : Nat → Bool} {held : Bool} {base m : Nat} {cs : List Value} {x : DataW H × List MemPlace} (h : DataW.trod enc Try.prog W base sp held m 51 cs = some x) :
    ∃ o : DOp, cs = (dopc o).toList ∧ o.n ≤ 9223372036854775807 ∧ -9223372036854775808 ≤ o.n := by
  obtain ⟨xs, n, _, _, hl, hxl, hf⟩ := DataW.trod_struct Try.underlying51 h
  rw [cells51] at hl
  obtain ⟨a, b, c, d, e, f, rfl⟩ := list6 hl
  have hxl' : xs.length = 6 := hxl
  have get : ∀ i, i < 6 → ∃ y, xs[i]? = some y := fun i hi => ⟨_, List.getElem?_eq_getElem (by omega)⟩
  obtain ⟨y0, e0⟩ := get 0 (by omega)
  obtain ⟨y1, e1⟩ := get 1 (by omega)
  obtain ⟨y2, e2⟩ := get 2 (by omega)
  obtain ⟨y3, e3⟩ := get 3 (by omega)
  obtain ⟨y4, e4⟩ := get 4 (by omega)
  obtain ⟨y5, e5⟩ := get 5 (by omega)
  have h0 : DataW.trod enc Try.prog W base sp held n 3 (([a, b, c, d, e, f].drop 0).take (Try.prog.cellsOf 3)) = xs[0]? := hf 0 _ rfl
  have h1 : DataW.trod enc Try.prog W base sp held n 3 (([a, b, c, d, e, f].drop 1).take (Try.prog.cellsOf 3)) = xs[1]? := hf 1 _ rfl
  have h2 : DataW.trod enc Try.prog W base sp held n 5 (([a, b, c, d, e, f].drop 2).take (Try.prog.cellsOf 5)) = xs[2]? := hf 2 _ rfl
  have h3 : DataW.trod enc Try.prog W base sp held n 45 (([a, b, c, d, e, f].drop 3).take (Try.prog.cellsOf 45)) = xs[3]? := hf 3 _ rfl
  have h4 : DataW.trod enc Try.prog W base sp held n 3 (([a, b, c, d, e, f].drop 4).take (Try.prog.cellsOf 3)) = xs[4]? := hf 4 _ rfl
  have h5 : DataW.trod enc Try.prog W base sp held n 49 (([a, b, c, d, e, f].drop 5).take (Try.prog.cellsOf 49)) = xs[5]? := hf 5 _ rfl
  rw [e0, cells3] at h0; rw [e1, cells3] at h1; rw [e2, cells5] at h2; rw [e3, cells45] at h3; rw [e4, cells3] at h4; rw [e5, cells49] at h5
  obtain ⟨n0, q0, _, _⟩ := DataW.trod_int Try.underlying3 h0
  obtain ⟨n1, q1, _, w1⟩ := DataW.trod_int Try.underlying3 h1
  obtain ⟨n2, q2, _, w2⟩ := DataW.trod_int Try.underlying5 h2
  obtain ⟨n4, q4, _, _⟩ := DataW.trod_int Try.underlying3 h4
  obtain ⟨n5, q5, _, _⟩ := DataW.trod_int Try.underlying49 h5
  have h3' : DataW.trod enc Try.prog W base sp held n 45 [d] = some y3 := h3
  obtain ⟨s, l, q3, _, _, _⟩ := open_bools h3'
  have r0 : [a] = [Value.int .i64 n0] := q0
  have r1 : [b] = [Value.int .i64 n1] := q1
  have r2 : [c] = [Value.int .u8 n2] := q2
  have r4 : [e] = [Value.int .i64 n4] := q4
  have r5 : [f] = [Value.int .u32 n5] := q5
  cases r0; cases r1; cases r2; cases r4; cases r5; subst q3
  have hw2 : 0 ≤ n2 ∧ n2 ≤ 255 := by simpa [Lit.wf, IntKind.min, IntKind.max, IntKind.signed, IntKind.bits] using w2
  refine ⟨⟨n0, n1, u8 n2, s, n4, n5⟩, ?_, ?_, ?_⟩
  · show _ = [Value.int .i64 n0, .int .i64 n1, .int .u8 (((u8 n2).toNat : Nat) : Int), s.v, .int .i64 n4, .int .u32 n5]
    rw [u8_toNat, show n2 % 256 = n2 by omega]
  · have := w1
    simp [Lit.wf, IntKind.min, IntKind.max, IntKind.signed, IntKind.bits] at this
    show n1 ≤ _
    omega
  · have := w1
    simp [Lit.wf, IntKind.min, IntKind.max, IntKind.signed, IntKind.bits] at this
    show _ ≤ n1
    omega
theorem open_dop1 {W : World} {v : Value} {d : DataW H} {p : List MemPlace} {r : Reach} {b0 : Nat} {sp : Nat → Bool} {held : Bool} {base : Nat} (hv : Value.okWide Try.prog W r b0 51 v) (h : DataW.Trod enc Try.prog W base sp held 51 v d p) : ∃ o : DOp, v = .agg (dopc o) := by
  obtain ⟨cs, rfl, hsz⟩ := okWide_struct Try.underlying51 hv
  obtain ⟨fuel, hf⟩ := h
  obtain ⟨o, ho, _⟩ := open_dop hf
  refine ⟨o, ?_⟩
  congr 1
  apply Array.ext'
  exact ho
theorem open_dops {W : World} {v : Value} {d : DataW H} {p : List MemPlace} {r : Reach} {b0 : Nat} {sp : Nat → Bool} {held : Bool} {base : Nat} (hv : Value.okWide Try.prog W r b0 44 v) (h : DataW.Trod enc Try.prog W base sp held 44 v d p) :
    ∃ (x : Sl) (ops : List DOp), v = x.v ∧ DOps W.heap x ops := by
  obtain ⟨a, len, cap, rfl⟩ := okWide_slice Try.underlying44 hv
  obtain ⟨fuel, hf⟩ := h
  rcases DataW.trod_slice Try.underlying44 hf with ⟨h0, _⟩ | ⟨a', len', cap', elems, rest, n, _, h1, _, _, hle, hm, hlen, hel, _, _⟩
  · have e : [Value.slice a len cap] = [.slice none 0 0] := h0
    cases e
    exact ⟨Sl.nil, [], rfl, rfl, .inl rfl, fun o ho => (by cases ho), by simp⟩
  · have e : [Value.slice a len cap] = [.slice (some a') len' cap'] := h1
    cases e
    rw [cells51] at hel
    have key : ∀ i, i < len → ∃ o : DOp, (∀ j, j < 6 → hcell W.heap (a'.add (i * 6 + j)) = (dopc o)[j]?) ∧ o.n ≤ 9223372036854775807 ∧ -9223372036854775808 ≤ o.n := fun i hi => by
      have h2 := hel i hi
      rw [List.getElem?_eq_getElem (by omega), Option.bind_eq_some_iff] at h2
      obtain ⟨cs, hcs, ht⟩ := h2
      obtain ⟨o, rfl, ho⟩ := open_dop ht
      refine ⟨o, fun j hj => ?_, ho⟩
      have h3 := (World.cells?_some hcs).2.2 j hj
      rw [Addr.add_add, Array.getElem?_toList] at h3
      exact h3
    have hmx : cap ≤ 9223372036854775807 := Nat.le_trans hm (by decide)
    refine ⟨⟨some a', len, cap⟩, List.ofFn (fun i : Fin len => Classical.choose (key i i.2)), rfl, by simp, .inr ⟨a', rfl, fun i o hi j hj => ?_⟩, fun o ho => ?_, by simp; omega⟩
    · have hil : i < len := by
        have := (List.getElem?_eq_some_iff.1 hi).1
        simpa using this
      rw [List.getElem?_ofFn, dif_pos hil] at hi
      cases hi
      exact (Classical.choose_spec (key i hil)).1 j hj
    · rw [List.mem_ofFn] at ho
      obtain ⟨i, rfl⟩ := ho
      exact (Classical.choose_spec (key i i.2)).2
end
end Gx
namespace Gx
open Go
set_option linter.unusedVariables false
set_option linter.unusedSimpArgs false
set_option maxRecDepth 20000
/-- eight sectors by value -/
structure AB (h : Heap) (b : Nat) (f : Nat → List UInt8) : Prop where
  blk : ∃ cells, h[b]? = some (.cells cells ty_8_api_Sector (0, 0)) ∧ cells.size = 1024 ∧ ∀ i, i < 8 → ∀ j, j < 128 → cells[i * 128 + j]? = (f i)[j]?.map bv
  lens : ∀ i, (f i).length = 128
theorem AB.same {h h' : Heap} {b : Nat} {f : Nat → List UInt8} (H : AB h b f) (e : h'[b]? = h[b]?) : AB h' b f := by
  obtain ⟨c, h1, h2⟩ := H.blk
  exact ⟨⟨c, e.trans h1, h2⟩, H.lens⟩
theorem AB.lt {h : Heap} {b : Nat} {f : Nat → List UInt8} (H : AB h b f) : b < h.size := by
  obtain ⟨c, h1, _⟩ := H.blk
  exact blk_lt h1
theorem AB.ext {h h' : Heap} {b : Nat} {f : Nat → List UInt8} (H : AB h b f) (e : Ext h h') : AB h' b f := H.same (e.same b H.lt)
theorem AB.ld {β : Type} {h : Heap} {b : Nat} {f : Nat → List UInt8} {Q : β → Heap → Prop} {k : Nat} {g : Array Value → M β} (H : AB h b f) (hk : k < 8) (hq : (g (bcells (f k))).wp h Q) : (ldG 128 ⟨b, k * 128, none⟩ >>= g).wp h Q := by
  obtain ⟨c, h1, hs, h2⟩ := H.blk
  refine ldG_b (by rw [bcells_size, H.lens]) (fun j hj => ?_) hq
  rw [add_mk, hcell_blk h1, h2 k hk j hj, bcells_get]
theorem AB.st {β : Type} {h : Heap} {b : Nat} {f : Nat → List UInt8} {Q : β → Heap → Prop} {k : Nat} {l : List UInt8} {g : Unit → M β} (H : AB h b f) (hk : k < 8) (hl : l.length = 128) (hq : ∀ h', Upd b h h' → AB h' b (put f k l) → (g ()).wp h' Q) : (stG ⟨b, k * 128, none⟩ (bcells l) >>= g).wp h Q := by
  obtain ⟨c, h1, hs, h2⟩ := H.blk
  refine stG_b (fun j hj => ?_) (one_bcells _) (hq _ (Upd.hsetL _ _ _ _ _) ⟨⟨_, hsetL_at _ _ _ _ h1, by rw [lay_size]; exact hs, fun i hi j hj => ?_⟩, fun i => ?_⟩)
  · rw [bcells_size, hl] at hj
    rw [add_mk, hcell_blk h1, hfrozen_blk h1]
    exact ⟨⟨_, Array.getElem?_eq_getElem (by omega)⟩, rfl⟩
  · rw [← Array.getElem?_toList, lay_toList _ _ _ (by rw [bcells_toList, List.length_map, hl]; omega), Nat.add_zero]
    have htl : (c.toList.take (k * 128)).length = k * 128 := by rw [List.length_take, Array.length_toList]; omega
    have hml : (bcells l).toList.length = 128 := by rw [bcells_toList, List.length_map, hl]
    unfold put
    by_cases he : i = k
    · subst he
      rw [if_pos rfl, List.append_assoc, List.getElem?_append_right (by omega), htl, List.getElem?_append_left (by omega), show i * 128 + j - i * 128 = j by omega, bcells_toList, List.getElem?_map]
    · rw [if_neg he, ← h2 i hi j hj]
      rcases Nat.lt_or_ge i k with h' | h'
      · rw [List.append_assoc, List.getElem?_append_left (by omega), List.getElem?_take, if_pos (by omega), Array.getElem?_toList]
      · rw [List.getElem?_append_right (by rw [List.length_append]; omega), List.length_append, htl, hml, List.getElem?_drop, Array.getElem?_toList]
        congr 1
        omega
  · unfold put
    split
    · exact hl
    · exact H.lens i
theorem stays_s (i : Nat) : ∀ (K : List Int) (D : Dk), (∀ k ∈ K, 0 ≤ k) → (D.stays K).s i = (if (i : Int) ∈ K then (mlk (i : Int) D.c).getD zeros else D.s i) ∧ (D.stays K).t i = (if (i : Int) ∈ K then false else D.t i)
  | [], D, _ => ⟨rfl, rfl⟩
  | k :: K, D, h => by
    have ih := stays_s i K (D.stay1 k) (fun x hx => h x (by simp [hx]))
    have e : (D.stays (k :: K)) = (D.stay1 k).stays K := rfl
    rw [e]
    have hk := h k (by simp)
    have hc : (D.stay1 k).c = D.c := rfl
    obtain ⟨h1, h2⟩ := ih
    rw [h1, h2, hc]
    have hs : (D.stay1 k).s i = if i = k.toNat then (mlk k D.c).getD zeros else D.s i := rfl
    have ht : (D.stay1 k).t i = if i = k.toNat then false else D.t i := rfl
    rw [hs, ht]
    by_cases hm : (i : Int) ∈ K
    · simp [hm]
    · by_cases he : i = k.toNat
      · have : k = (i : Int) := by omega
        subst this
        simp [hm]
      · have : ¬ ((i : Int) = k) := by omega
        simp [hm, he, this]
/-- what is so behind a crash and a start -/
structure After (had last : Nat → List UInt8) (keys : List Int) (tj : Option Nat) (D : Dk) : Prop where
  n : D.n = 8
  away : D.away = false
  fuse : D.fuse = 0
  s : ∀ i, D.s i = had i ∨ (D.s i = last i ∧ (i : Int) ∈ keys)
  t : ∀ i, D.t i = decide (tj = some i)
  tk : ∀ i, tj = some i → (i : Int) ∈ keys
theorem after_of {had last : Nat → List UInt8} {D : Dk} {xs : List Int} {torn : Int} {keep : List Bool} (hn : D.n = 8) (hs : D.s = had) (ht : D.t = fun _ => false) (hl : ∀ i : Nat, (i : Int) ∈ D.c.map Prod.fst → last i = (mlk (i : Int) D.c).getD zeros) (hp : xs.Perm (D.c.map Prod.fst)) (h0 : ∀ k ∈ D.c.map Prod.fst, 0 ≤ k) :
    ∃ tj, After had last (D.c.map Prod.fst) tj (Dk.decide { Dk.decide { D with away := true, fuse := 0 } xs torn keep with away := false } [] 0 []) ∧ (Dk.decide { Dk.decide { D with away := true, fuse := 0 } xs torn keep with away := false } [] 0 []).c = [] := by
  let D1 : Dk := { D with away := true, fuse := 0 }
  generalize hK : keptL keep xs 0 = K
  have hKm : ∀ k ∈ K, k ∈ D.c.map Prod.fst := fun k hk => hp.mem_iff.1 (keptL_sub keep xs 0 k (by rw [hK]; exact hk))
  have hK0 : ∀ k ∈ K, 0 ≤ k := fun k hk => h0 k (hKm k hk)
  have e1 : Dk.decide D1 xs torn keep = { (D1.stays K).tear K torn with c := [] } := by unfold Dk.decide; rw [hK]
  have e2 : ∀ E : Dk, E.c = [] → Dk.decide E [] 0 [] = E := fun E hc => by
    show ({ ((E.stays []).tear [] 0) with c := [] } : Dk) = E
    unfold Dk.tear
    rw [if_neg (by simp)]
    show ({ E with c := [] } : Dk) = E
    rw [← hc]
  have e3 : Dk.decide { Dk.decide D1 xs torn keep with away := false } [] 0 [] = { Dk.decide D1 xs torn keep with away := false } := e2 _ (by rw [e1])
  show ∃ tj, After had last (D.c.map Prod.fst) tj (Dk.decide { Dk.decide D1 xs torn keep with away := false } [] 0 []) ∧ (Dk.decide { Dk.decide D1 xs torn keep with away := false } [] 0 []).c = []
  rw [e3, e1]
  obtain ⟨en, ec, ea, ef, el⟩ := stays_eq D1 K
  have hss : ∀ i, (D1.stays K).s i = had i ∨ ((D1.stays K).s i = last i ∧ (i : Int) ∈ D.c.map Prod.fst) := fun i => by
    rw [(stays_s i K D1 hK0).1]
    by_cases hm : (i : Int) ∈ K
    · rw [if_pos hm]
      exact .inr ⟨(hl i (hKm _ hm)).symm, hKm _ hm⟩
    · rw [if_neg hm]
      left
      show D.s i = had i
      rw [hs]
  have hts : ∀ i, (D1.stays K).t i = false := fun i => by
    rw [(stays_s i K D1 hK0).2]
    split
    · rfl
    · show D.t i = false
      rw [ht]
  by_cases hc : 0 ≤ torn ∧ torn < K.length
  · have et : (D1.stays K).tear K torn = { (D1.stays K) with t := put (D1.stays K).t (K.getD torn.toNat 0).toNat true } := by unfold Dk.tear; rw [if_pos hc]
    rw [et]
    have htl : torn.toNat < K.length := by omega
    have hmem : K.getD torn.toNat 0 ∈ K := by
      rw [List.getD_eq_getElem?_getD, List.getElem?_eq_getElem htl]
      exact List.getElem_mem htl
    have h00 := hK0 _ hmem
    refine ⟨some (K.getD torn.toNat 0).toNat, ⟨by show (D1.stays K).n = 8; rw [en]; exact hn, rfl, by show (D1.stays K).fuse = 0; rw [ef], hss, fun i => ?_, fun i hi => ?_⟩, rfl⟩
    · show put (D1.stays K).t (K.getD torn.toNat 0).toNat true i = _
      unfold put
      by_cases he : i = (K.getD torn.toNat 0).toNat
      · rw [if_pos he]; simp [he]
      · rw [if_neg he, hts]
        symm
        simp only [decide_eq_false_iff_not, Option.some.injEq]
        exact fun h => he h.symm
    · have hi' : (K.getD torn.toNat 0).toNat = i := by simpa using hi
      have : ((i : Nat) : Int) = K.getD torn.toNat 0 := by omega
      rw [this]
      exact hKm _ hmem
  · have et : (D1.stays K).tear K torn = D1.stays K := by unfold Dk.tear; rw [if_neg hc]
    rw [et]
    refine ⟨none, ⟨by show (D1.stays K).n = 8; rw [en]; exact hn, rfl, by show (D1.stays K).fuse = 0; rw [ef], hss, fun i => ?_, fun i hi => by cases hi⟩, rfl⟩
    show (D1.stays K).t i = _
    rw [hts]
    rfl
theorem contains_spec {lo : Nat} {h : Heap} {Q : Bool → Heap → Prop} {r : Sl} {xs : List Int} {n : Int} (H : Gw lo h r 1 (xs.map (Value.int .i64))) (hl : r.len = xs.length) (hm : xs.length ≤ 1000000) (hq : Q (decide (n ∈ xs)) h) : (slices_Contains_slint_int r n).wp h Q := by
  unfold slices_Contains_slint_int slices_Index_slint_int
  refine bind_w ?_
  refine M.loop_inv (fun (t : Int) h' => h' = h ∧ ∃ i : Nat, t = (i : Int) ∧ i ≤ xs.length ∧ n ∉ xs.take i) (fun t _ => ((xs.length : Int) - t).toNat) ?_ ⟨rfl, 0, rfl, Nat.zero_le _, by simp⟩
  rintro t h' ⟨rfl, i, rfl, hi, hni⟩ self hself
  unfold slices_Index_slint_int_l1
  rw [hl]
  refine ite_w (fun hlt => ?_) (fun hge => ?_)
  · have hlt : i < xs.length := by have := of_decide_eq_true hlt; omega
    obtain ⟨b, hbase, hc⟩ := H.cell (j := i) (v := .int .i64 xs[i]) (by rw [List.getElem?_map, List.getElem?_eq_getElem hlt]; rfl)
    refine ixL_b (by omega) (by rw [hl]; omega) hbase ?_
    refine ldI_b (n := xs[i]) (by rw [add_mk, show 0 + (i : Int).toNat * 1 = i by omega]; exact hc) ?_
    refine ite_w (fun he => pure_w (pure_w ?_)) (fun he => ?_)
    · have he : n = xs[i] := by simpa using he
      have hmem : n ∈ xs := he ▸ List.getElem_mem hlt
      have e1 : decide ((i : Int) ≥ 0) = true := decide_eq_true (by omega)
      have e2 : decide (n ∈ xs) = true := decide_eq_true hmem
      rw [e2] at hq
      rw [e1]
      exact hq
    · have he : n ≠ xs[i] := by simpa using he
      rw [w64 (by omega) (by omega)]
      refine hself _ _ ⟨rfl, i + 1, by omega, by omega, ?_⟩ (by omega)
      rw [List.take_add_one, List.getElem?_eq_getElem hlt]
      show n ∉ xs.take i ++ [xs[i]]
      rw [List.mem_append, List.mem_singleton]
      exact fun h => h.elim hni he
  · have hge : i = xs.length := by have := of_decide_eq_false hge; omega
    subst hge
    rw [List.take_length] at hni
    refine pure_w (pure_w ?_)
    have e2 : decide (n ∈ xs) = false := decide_eq_false hni
    rw [e2] at hq
    exact hq
/-- a disk whose power stays -/
theorem write_on {D : Dk} {n : Int} {x : List UInt8} (hn : D.n = 8) (ha : D.away = false) (hf : D.fuse = 0) : (0 ≤ n ∧ n < 8 ∧ (D.write n x).2 = 0 ∧ (D.write n x).1 = { D with calls := IntKind.wrap .i64 (D.calls + 1), c := mput n x D.c }) ∨ (¬ (0 ≤ n ∧ n < 8) ∧ (D.write n x).2 = 41 ∧ (D.write n x).1 = D) := by
  have hc : D.call = ({ D with calls := IntKind.wrap .i64 (D.calls + 1) }, 0) := by unfold Dk.call; rw [if_neg (by omega)]
  unfold Dk.write
  rw [if_neg (by rw [ha]; decide), hc]
  by_cases h : n < 0 ∨ (D.n : Int) ≤ n
  · rw [if_pos h]
    exact .inr ⟨by omega, rfl, rfl⟩
  · rw [if_neg h, if_neg (by simp)]
    exact .inl ⟨by omega, by omega, rfl, rfl⟩
theorem flush_on {D : Dk} (ha : D.away = false) (hf : D.fuse = 0) : D.flush.2 = 0 ∧ D.flush.1 = Dk.kept { D with calls := IntKind.wrap .i64 (D.calls + 1) } := by
  have hc : D.call = ({ D with calls := IntKind.wrap .i64 (D.calls + 1) }, 0) := by unfold Dk.call; rw [if_neg (by omega)]
  unfold Dk.flush
  rw [if_neg (by rw [ha]; decide), hc, if_neg (by simp)]
  exact ⟨rfl, rfl⟩
theorem put_mlk {had base : Nat → List UInt8} {c : List (Int × List UInt8)} {n : Int} {x : List UInt8} (h0 : 0 ≤ n) (h : ∀ i : Nat, had i = (mlk (i : Int) c).getD (base i)) : ∀ i : Nat, put had n.toNat x i = (mlk (i : Int) (mput n x c)).getD (base i) := fun i => by
  rw [mlk_put]
  unfold put
  by_cases he : i = n.toNat
  · rw [if_pos he, if_pos (by omega)]; rfl
  · rw [if_neg he, if_neg (by omega)]
    exact h i
end Gx
namespace Gx
open Go
set_option linter.unusedVariables false
set_option linter.unusedSimpArgs false
set_option maxRecDepth 20000
theorem AB.mk0 {h : Heap} : AB (h.push (.cells (Array.replicate 1024 (.int .u8 0)) ty_8_api_Sector)) h.size (fun _ => zeros) := by
  refine ⟨⟨_, get_push_eq, by simp, fun i hi j hj => ?_⟩, fun i => rfl⟩
  have hz : zeros[j]? = some 0 := by rw [zeros, List.getElem?_replicate, if_pos hj]
  rw [hz, Array.getElem?_replicate, if_pos (by omega)]
  rfl
theorem mlk_of_mem {l : List (Int × List UInt8)} {k : Int} (h : k ∈ l.map Prod.fst) : ∃ v, mlk k l = some v := by
  unfold mlk
  cases hf : l.find? fun p => decide (p.1 = k) with
  | some p => exact ⟨p.2, rfl⟩
  | none =>
    obtain ⟨p, hp, rfl⟩ := List.mem_map.1 h
    have := List.find?_eq_none.1 hf p hp
    simp at this
theorem decide_away (D : Dk) (xs : List Int) (torn : Int) (keep : List Bool) : (D.decide xs torn keep).away = D.away := by
  unfold Dk.decide Dk.tear
  have := (stays_eq D (keptL keep xs 0)).2.2.1
  split <;> exact this
theorem decide_c (D : Dk) (xs : List Int) (torn : Int) (keep : List Bool) : (D.decide xs torn keep).c = [] := rfl
/-- one write, and what it is noted in -/
theorem keep_round {h : Heap} {F : Fp} {D : Dk} {b barr : Nat} {f : Nat → List UInt8} {o : DOp} {next : M Bool} {Q : Bool → Heap → Prop} (O : DOB h b o) (HD : DkAt h F D) (hb : ¬ F.on b) (A : AB h barr f) (ha : ¬ F.on barr) (hne : b ≠ barr) (hn : D.n = 8) (haw : D.away = false) (hf : D.fuse = 0)
    (H : ∀ h2 D2 f2, DkAt h2 F D2 → AB h2 barr f2 → h.size ≤ h2.size → (∀ i, i < h.size → ¬ F.on i → i ≠ barr → h2[i]? = h[i]?) → ((D2 = D ∧ f2 = f) ∨ (0 ≤ o.n ∧ o.n < 8 ∧ D2 = { D with calls := IntKind.wrap .i64 (D.calls + 1), c := mput o.n (fill o.f) D.c } ∧ f2 = put f o.n.toNat (fill o.f))) → next.wp h2 Q) :
    ((do
      let x46_42 ← ldI .i64 ((⟨b, 0, none⟩ : Addr).add 1)
      let x48_43 ← ldI .u8 ((⟨b, 0, none⟩ : Addr).add 2)
      let x49_44 ← ramblelaw04_filled x48_43
      chk (fun h : Heap => (hcell h ((⟨b, 0, none⟩ : Addr).add 1) = some (.int .i64 x46_42)) ∧ (hcell h ((⟨b, 0, none⟩ : Addr).add 2) = some (.int .u8 x48_43)))
      let x50_45 ← disk_Disk_Write (some ⟨F.p, 0, none⟩) x46_42 x49_44
      M.ite (x50_45 == 0) (do
        let x53_46 ← ldI .i64 ((⟨b, 0, none⟩ : Addr).add 1)
        let x55_47 ← ldI .u8 ((⟨b, 0, none⟩ : Addr).add 2)
        let x56_48 ← ramblelaw04_filled x55_47
        chk (fun h : Heap => (hcell h ((⟨b, 0, none⟩ : Addr).add 1) = some (.int .i64 x53_46)) ∧ (hcell h ((⟨b, 0, none⟩ : Addr).add 2) = some (.int .u8 x55_47)))
        let x57_49 ← ixA ⟨barr, 0, none⟩ 8 x53_46 128
        M.need (x56_48.size = 128)
        stG x57_49 x56_48
        next
        ) next : M Bool)).wp h Q := by
  refine ldI_b (n := o.n) (by rw [O.cell]; rfl) (ldI_b (n := (o.f.toNat : Int)) (by rw [O.cell]; rfl) ?_)
  refine bind_w (filled_spec (b := o.f) rfl (fun h1 e1 => ?_))
  have O1 : DOB h1 b o := e1.blk O
  refine chk_b ⟨by rw [O1.cell]; rfl, by rw [O1.cell]; rfl⟩ ?_
  refine bind_w (dwrite_spec (HD.ext e1) rfl (fill_len _) (fun h2 k2 H2 => ?_))
  have O2 : DOB h2 b o := k2.blk O1 hb
  have A2 : AB h2 barr f := (A.ext e1).same (k2.same barr (A.ext e1).lt ha)
  rcases write_on (n := o.n) (x := fill o.f) hn haw hf with ⟨w1, w2, w3, w4⟩ | ⟨w1, w3, w4⟩
  · rw [w3]
    rw [w4] at H2
    refine iteT rfl ?_
    refine ldI_b (n := o.n) (by rw [O2.cell]; rfl) (ldI_b (n := (o.f.toNat : Int)) (by rw [O2.cell]; rfl) ?_)
    refine bind_w (filled_spec (b := o.f) rfl (fun h3 e3 => ?_))
    have O3 : DOB h3 b o := e3.blk O2
    refine chk_b ⟨by rw [O3.cell]; rfl, by rw [O3.cell]; rfl⟩ ?_
    refine ixA_b (by omega) (by omega) (need_b (by rw [bcells_size, fill_len]) ?_)
    rw [add_mk, Nat.zero_add]
    refine (A2.ext e3).st (by omega) (fill_len _) (fun h4 u4 A4 => ?_)
    refine H h4 _ _ ((H2.ext e3).upd u4 ha) A4 ?_ (fun i hi hF hn => ?_) (.inr ⟨w1, w2, rfl, rfl⟩)
    · rw [u4.size]; exact Nat.le_trans e1.size (Nat.le_trans k2.size e3.size)
    · rw [u4.ne i hn, e3.same i (Nat.lt_of_lt_of_le hi (Nat.le_trans e1.size k2.size)), k2.same i (Nat.lt_of_lt_of_le hi e1.size) hF, e1.same i hi]
  · rw [w3]
    rw [w4] at H2
    refine iteF rfl ?_
    refine H h2 _ _ H2 A2 (Nat.le_trans e1.size k2.size) (fun i hi hF hn => ?_) (.inl ⟨rfl, rfl⟩)
    rw [k2.same i (Nat.lt_of_lt_of_le hi e1.size) hF, e1.same i hi]
def cnt (tj : Option Nat) (k : Nat) : Int := match tj with | some j => if j < k then 1 else 0 | none => 0
theorem cnt_le (tj : Option Nat) (k : Nat) : 0 ≤ cnt tj k ∧ cnt tj k ≤ 1 := by
  unfold cnt
  split
  · split <;> omega
  · omega
theorem cnt_same {tj : Option Nat} {k : Nat} (h : tj ≠ some k) : cnt tj (k + 1) = cnt tj k := by
  unfold cnt
  cases tj with
  | none => rfl
  | some j =>
    have : j ≠ k := fun e => h (by rw [e])
    dsimp only
    by_cases hj : j < k
    · rw [if_pos (by omega), if_pos hj]
    · rw [if_neg (by omega), if_neg hj]
theorem cnt_here {k : Nat} : cnt (some k) k = 0 ∧ cnt (some k) (k + 1) = 1 := by
  unfold cnt
  dsimp only
  rw [if_neg (by omega), if_pos (by omega)]
  exact ⟨rfl, rfl⟩
theorem read_on {had last : Nat → List UInt8} {keys : List Int} {tj : Option Nat} {D : Dk} {k : Nat} (H : After had last keys tj D) (hm : mlk (k : Int) D.c = none) (hk : k < 8) : D.read (k : Int) = if tj = some k then (zeros, 40) else (D.s k, 0) := by
  unfold Dk.read
  rw [H.away, if_neg (by decide), if_neg (by have := H.n; omega), hm]
  show (if D.t (k : Int).toNat then (zeros, (40 : Int)) else (D.s (k : Int).toNat, 0)) = _
  rw [show (k : Int).toNat = k by omega, H.t]
  by_cases h : tj = some k <;> simp [h]
/-- what the last loop lives on -/
structure L3 (h0 h : Heap) (F : Fp) (b1 b2 : Nat) (had last : Nat → List UInt8) (keys : List Int) (tj : Option Nat) (r : Sl) (xs : List Int) (k : Nat) (D : Dk) : Prop where
  dk : DkAt h F D
  af : After had last keys tj D
  un : ∀ m : Nat, k ≤ m → mlk (m : Int) D.c = none
  a1 : AB h b1 had
  a2 : AB h b2 last
  gw : Gw h0.size h r 1 (xs.map (Value.int .i64))
  ext : Ext h0 h
theorem L3.ext' {h0 h h' : Heap} {F : Fp} {b1 b2 : Nat} {had last : Nat → List UInt8} {keys : List Int} {tj : Option Nat} {r : Sl} {xs : List Int} {k : Nat} {D : Dk} (L : L3 h0 h F b1 b2 had last keys tj r xs k D) (e : Ext h h') : L3 h0 h' F b1 b2 had last keys tj r xs k D :=
  ⟨L.dk.ext e, L.af, L.un, L.a1.ext e, L.a2.ext e, L.gw.ext e, L.ext.trans e⟩
theorem keeps_last {h0 h : Heap} {F : Fp} {b1 b2 : Nat} {had last : Nat → List UInt8} {keys xs : List Int} {tj : Option Nat} {r : Sl} {D : Dk} (hF : ∀ i, F.on i → h0.size ≤ i) (hr : ∀ i, Sl.on r i → ¬ F.on i) (hb1 : ¬ F.on b1) (hb2 : ¬ F.on b2) (hl : r.len = xs.length) (hxl : xs.length ≤ 1000000) (hp : ∀ k, k ∈ xs ↔ k ∈ keys)
    (L : L3 h0 h F b1 b2 had last keys tj r xs 0 D) : (M.loop (ramblelaw04_DiskKeeps_l3 (some ⟨F.p, 0, none⟩) ⟨b1, 0, none⟩ ⟨b2, 0, none⟩ r) (0, 0)).wp h (fun r h' => r = true ∧ Ext h0 h') := by
  refine M.loop_inv (fun (t : Int × Int) h' => ∃ (k : Nat) (D : Dk), t.2 = (k : Int) ∧ t.1 = cnt tj k ∧ k ≤ 8 ∧ L3 h0 h' F b1 b2 had last keys tj r xs k D) (fun t _ => (8 - t.2).toNat) ?_ ⟨0, D, rfl, by unfold cnt; cases tj <;> simp, by omega, L⟩
  clear L D
  rintro ⟨q, t⟩ h' ⟨k, D, ht, hq, hk, L⟩ self hself
  dsimp only at ht hq
  subst ht; subst hq
  unfold ramblelaw04_DiskKeeps_l3
  have hcl := cnt_le tj k
  refine ite_w (fun hlt => ?_) (fun hge => pure_w ⟨by simp; omega, L.ext⟩)
  have hlt : k < 8 := by have := of_decide_eq_true hlt; omega
  have hwk : IntKind.wrap .i64 ((k : Int) + 1) = ((k + 1 : Nat) : Int) := by rw [w64 (by omega) (by omega)]; rfl
  have hrd := read_on L.af (L.un k (Nat.le_refl _)) hlt
  refine bind_w (dread_spec L.dk (fun h1 e1 => ?_))
  rw [hrd]
  have L1 := L.ext' e1
  have hslen : (D.s k).length = 128 := L.dk.lens k
  have next : ∀ {h2 : Heap} {D2 : Dk} {c : Int}, L3 h0 h2 F b1 b2 had last keys tj r xs (k + 1) D2 → c = cnt tj (k + 1) → (ramblelaw04_DiskKeeps_j3 self (k : Int) c).wp h2 (fun r h' => r = true ∧ Ext h0 h') := fun L2 hc => by
    unfold ramblelaw04_DiskKeeps_j3
    rw [hwk]
    exact hself _ _ ⟨k + 1, _, rfl, hc, by omega, L2⟩ (by dsimp only; omega)
  by_cases htj : tj = some k
  · rw [if_pos htj]
    refine mkZ e1 (fun h2 g2 e2 s2 bb2 => need_b (by rw [bcells_size]; rfl) (stB128 bb2 rfl rfl (fun h3 u3 bb3 => ?_)))
    have L3' : L3 h0 h3 F b1 b2 had last keys tj r xs k D := L1.ext' (g2.upd u3 (Nat.le_refl _))
    refine iteT rfl (bind_w (contains_spec L3'.gw hl hxl ?_))
    have hkey := L.af.tk k htj
    rw [decide_eq_true ((hp _).2 hkey)]
    refine iteF_b rfl (assoc_b (ixA_b (by omega) (by omega) (assoc_b ?_)))
    rw [add_mk, Nat.zero_add, show ((k : Int).toNat * 128) = k * 128 by omega]
    refine L3'.a2.ld hlt (assoc_b (bind_w (dwrite_spec L3'.dk rfl (L.a2.lens k) (fun h4 k4 H4 => pure_b ?_))))
    rcases write_on (n := (k : Int)) (x := last k) L.af.n L.af.away L.af.fuse with ⟨w1, w2, w3, w4⟩ | ⟨w1, w3, w4⟩
    · rw [w3]
      rw [w4] at H4
      refine iteF rfl ?_
      have kon : ∀ i, i < h3.size → ¬ F.on i → h4[i]? = h3[i]? := k4.same
      have L4 : L3 h0 h4 F b1 b2 had last keys tj r xs (k + 1) { D with calls := IntKind.wrap .i64 (D.calls + 1), c := mput (k : Int) (last k) D.c } :=
        ⟨H4, ⟨L.af.n, L.af.away, L.af.fuse, L.af.s, L.af.t, L.af.tk⟩, fun m hm => by
          show mlk (m : Int) (mput (k : Int) (last k) D.c) = none
          rw [mlk_put, if_neg (by omega)]
          exact L.un m (by omega), L3'.a1.same (kon _ L3'.a1.lt hb1), L3'.a2.same (kon _ L3'.a2.lt hb2), L3'.gw.same (fun i hi => kon i (L3'.gw.lt hi).1 (hr i hi)), L3'.ext.kp k4 hF⟩
      refine bind_w (dread_spec L4.dk (fun h5 e5 => ?_))
      have hr5 : Dk.read { D with calls := IntKind.wrap .i64 (D.calls + 1), c := mput (k : Int) (last k) D.c } (k : Int) = (last k, 0) := by
        unfold Dk.read
        have hn := L.af.n
        rw [if_neg (by show ¬ D.away = true; rw [L.af.away]; decide), if_neg (by show ¬ ((k : Int) < 0 ∨ (D.n : Int) ≤ (k : Int)); omega)]
        show (match mlk (k : Int) (mput (k : Int) (last k) D.c) with | some v => (v, (0 : Int)) | none => _) = _
        rw [mlk_put, if_pos rfl]
      rw [hr5]
      refine mkZ e5 (fun h6 g6 e6 s6 bb6 => need_b (by rw [bcells_size]; exact L.a2.lens k) (stB128 bb6 rfl (L.a2.lens k) (fun h7 u7 bb7 => ?_)))
      have L7 := L4.ext' (e5.trans (g6.upd u7 (Nat.le_refl _)))
      refine ixA_b (by omega) (by omega) ?_
      rw [add_mk, Nat.zero_add, show ((k : Int).toNat * 128) = k * 128 by omega]
      refine ldB128 bb7 (L.a2.lens k) (L7.a2.ld hlt ?_)
      refine eqA_b (nums_bcells _ (by rw [L.a2.lens]; exact Nat.le_refl _)) (nums_bcells _ (by rw [L.a2.lens]; exact Nat.le_refl _)) ?_
      rw [aEq_bcells _ _ (L.a2.lens k) (L.a2.lens k)]
      refine iteF (by simp) ?_
      unfold ramblelaw04_DiskKeeps_j4
      refine iteF rfl (next L7 ?_)
      rw [w64 (by omega) (by omega), htj, cnt_here.1, cnt_here.2]
      rfl
    · omega
  · rw [if_neg htj]
    refine mkZ e1 (fun h2 g2 e2 s2 bb2 => need_b (by rw [bcells_size]; exact hslen) (stB128 bb2 rfl hslen (fun h3 u3 bb3 => ?_)))
    have L3' : L3 h0 h3 F b1 b2 had last keys tj r xs k D := L1.ext' (g2.upd u3 (Nat.le_refl _))
    have Lk : L3 h0 h3 F b1 b2 had last keys tj r xs (k + 1) D := ⟨L3'.dk, L3'.af, fun m hm => L.un m (by omega), L3'.a1, L3'.a2, L3'.gw, L3'.ext⟩
    have done : (ramblelaw04_DiskKeeps_j5 self (cnt tj k) (k : Int) false).wp h3 (fun r h' => r = true ∧ Ext h0 h') := by
      unfold ramblelaw04_DiskKeeps_j5
      exact iteF rfl (next Lk (cnt_same htj).symm)
    have hnum1 := nums_bcells (q := 128) (D.s k) (by rw [hslen]; exact Nat.le_refl _)
    have hnum2 := nums_bcells (q := 128) (had k) (by rw [L.a1.lens]; exact Nat.le_refl _)
    have hnum3 := nums_bcells (q := 128) (last k) (by rw [L.a2.lens]; exact Nat.le_refl _)
    refine iteF rfl (iteF rfl (ixA_b (by omega) (by omega) ?_))
    rw [add_mk, Nat.zero_add, show ((k : Int).toNat * 128) = k * 128 by omega]
    refine ldB128 bb3 hslen (L3'.a1.ld hlt (eqA_b hnum1 hnum2 ?_))
    rw [aEq_bcells _ _ hslen (L.a1.lens k)]
    by_cases hs : D.s k = had k
    · rw [decide_eq_true hs]
      refine iteF rfl (bind_w (contains_spec L3'.gw hl hxl ?_))
      refine ite_w (fun _ => ?_) (fun _ => done)
      refine ixA_b (by omega) (by omega) ?_
      rw [add_mk, Nat.zero_add, show ((k : Int).toNat * 128) = k * 128 by omega]
      refine ldB128 bb3 hslen (L3'.a1.ld hlt (eqA_b hnum1 hnum2 ?_))
      rw [aEq_bcells _ _ hslen (L.a1.lens k), decide_eq_true hs]
      exact done
    · rw [decide_eq_false hs]
      rcases L.af.s k with h1 | ⟨h1, h2⟩
      · exact absurd h1 hs
      · refine iteT rfl (ixA_b (by omega) (by omega) ?_)
        rw [add_mk, Nat.zero_add, show ((k : Int).toNat * 128) = k * 128 by omega]
        refine ldB128 bb3 hslen (L3'.a2.ld hlt (eqA_b hnum1 hnum3 ?_))
        rw [aEq_bcells _ _ hslen (L.a2.lens k), decide_eq_true h1]
        refine iteF rfl (bind_w (contains_spec L3'.gw hl hxl ?_))
        rw [decide_eq_true ((hp _).2 h2)]
        exact iteF rfl done
/-- two arrays, a disk -/
structure L2 (h0 h : Heap) (F : Fp) (b1 b2 : Nat) (base had last : Nat → List UInt8) (D : Dk) : Prop where
  dk : DkAt h F D
  n : D.n = 8
  away : D.away = false
  fuse : D.fuse = 0
  s : D.s = base
  t : D.t = fun _ => false
  a1 : AB h b1 had
  a2 : AB h b2 last
  ext : Ext h0 h
theorem keeps_spec {h : Heap} {x0 x1 x3 : Sl} {ops1 ops2 : List DOp} {torn : Int} {keep : List Bool} (hx0 : DOps h x0 ops1) (hx1 : DOps h x1 ops2) (hk : Bls h x3 keep) (hkd : keep = [] ∨ ∀ i, Sl.on x3 i → i < h.size) :
    (ramblelaw04_DiskKeeps x0 x1 torn x3).wp h (fun r h' => r = true ∧ Ext h h') := by
  unfold ramblelaw04_DiskKeeps
  refine bind_w (dnew_spec (fun hh => by omega) (fun m hm _ _ h1 F e1 H1 hF => ?_))
  have hm8 : m = 8 := by omega
  subst hm8
  refine bind_w (begun04_spec (fun h2 e2 => ?_))
  refine iteF_b rfl (pure_b (iteF_b rfl (pure_b (iteF rfl ?_))))
  have H2 := H1.ext e2
  refine mkB_b ?_
  have e3 := Ext.push h2 (.cells (Array.replicate 1024 (.int .u8 0)) ty_8_api_Sector)
  have A3 := AB.mk0 (h := h2)
  have s3 : (h2.push (.cells (Array.replicate 1024 (.int .u8 0)) ty_8_api_Sector)).size = h2.size + 1 := by simp
  generalize h2.push (.cells (Array.replicate 1024 (.int .u8 0)) ty_8_api_Sector) = h3 at e3 A3 s3 ⊢
  refine mkB_b ?_
  have e4 := Ext.push h3 (.cells (Array.replicate 1024 (.int .u8 0)) ty_8_api_Sector)
  have A4 := AB.mk0 (h := h3)
  generalize h3.push (.cells (Array.replicate 1024 (.int .u8 0)) ty_8_api_Sector) = h4 at e4 A4 ⊢
  have hn1 : ¬ F.on h2.size := fun ho => by have := H2.lt ho; omega
  have hn2 : ¬ F.on h3.size := fun ho => by have := H2.lt ho; omega
  generalize hB1 : h2.size = b1 at *
  generalize hB2 : h3.size = b2 at *
  have hb12 : b1 ≠ b2 := by omega
  have E4 : Ext h h4 := ((e1.trans e2).trans e3).trans e4
  have hlo : h.size ≤ b1 ∧ h.size ≤ b2 := by have := (e1.trans e2).size; omega
  rw [hx0.len]
  have hmax0 := hx0.max
  have hmax1 := hx1.max
  refine M.loop_inv (fun (t : Int) h' => ∃ (i : Nat) (D : Dk) (had : Nat → List UInt8), t = (i : Int) ∧ i ≤ ops1.length ∧ L2 h h' F b1 b2 (fun _ => zeros) had (fun _ => zeros) D ∧ ∀ j : Nat, had j = (mlk (j : Int) D.c).getD zeros) (fun t _ => ((ops1.length : Int) - t).toNat) ?_
    ⟨0, Dk.new 8, fun _ => zeros, rfl, Nat.zero_le _, ⟨(H2.ext e3).ext e4, rfl, rfl, rfl, rfl, rfl, A3.ext e4, A4, E4⟩, fun j => rfl⟩
  rintro t h' ⟨i, D, had, rfl, hi, L, hhad⟩ self hself
  unfold ramblelaw04_DiskKeeps_l1
  refine ite_w (fun hlt => ?_) (fun hge => ?_)
  · have hlt : i < ops1.length := by have := of_decide_eq_true hlt; omega
    have hwi : IntKind.wrap .i64 ((i : Int) + 1) = ((i + 1 : Nat) : Int) := by rw [w64 (by omega) (by omega)]; rfl
    have hgo : ops1[i]? = some ops1[i] := List.getElem?_eq_getElem hlt
    generalize ops1[i] = o at hgo
    refine dop_b (hx0.ext L.ext) hgo (fun h5 e5 O5 => ?_)
    have hl1 := L.a1.lt
    have hl2 := L.a2.lt
    refine keep_round O5 (L.dk.ext e5) (fun ho => by have := L.dk.lt ho; omega) (L.a1.ext e5) hn1 (by omega) L.n L.away L.fuse (fun h6 D6 f6 H6 A6 s6 k6 hcase => ?_)
    unfold ramblelaw04_DiskKeeps_j1
    rw [hwi]
    have E6 : Ext h h6 := ⟨Nat.le_trans (L.ext.trans e5).size s6, fun j hj => by
      rw [k6 j (Nat.lt_of_lt_of_le hj (L.ext.trans e5).size) (fun ho => by have := hF j ho; omega) (by omega), (L.ext.trans e5).same j hj]⟩
    have A26 : AB h6 b2 (fun _ => zeros) := (L.a2.ext e5).same (k6 b2 (L.a2.ext e5).lt hn2 hb12.symm)
    refine hself _ _ ⟨i + 1, D6, f6, rfl, by omega, ?_⟩ (by omega)
    rcases hcase with ⟨rfl, rfl⟩ | ⟨w1, w2, rfl, rfl⟩
    · exact ⟨⟨H6, L.n, L.away, L.fuse, L.s, L.t, A6, A26, E6⟩, hhad⟩
    · exact ⟨⟨H6, L.n, L.away, L.fuse, L.s, L.t, A6, A26, E6⟩, put_mlk w1 hhad⟩
  · clear hself
    obtain ⟨f1, f2⟩ := flush_on L.away L.fuse
    refine bind_w (dflush_spec L.dk (fun h5 k5 H5 => ?_))
    rw [f1]
    rw [f2] at H5
    refine iteF rfl ?_
    have A15 := L.a1.same (k5.same b1 L.a1.lt hn1)
    have A25 := L.a2.same (k5.same b2 L.a2.lt hn2)
    have E5 := L.ext.kp k5 hF
    obtain ⟨c1, g1, z1, v1⟩ := A15.blk
    obtain ⟨c2, g2, z2, v2⟩ := A25.blk
    refine ldG_b (cs := c1) z1 (fun j hj => by rw [add_mk, Nat.zero_add, hcell_blk g1]) (need_b z1 ?_)
    have hone : ∀ v ∈ c1.toList, one v = true := fun v hv => by
      obtain ⟨q, hq, rfl⟩ := List.getElem_of_mem hv
      rw [Array.length_toList, z1] at hq
      have := v1 (q / 128) (by omega) (q % 128) (by omega)
      rw [show q / 128 * 128 + q % 128 = q by omega, Array.getElem?_eq_getElem (by omega)] at this
      rw [Array.getElem_toList]
      have hl := A15.lens (q / 128)
      rw [List.getElem?_eq_getElem (by omega)] at this
      simp only [Option.map_some, Option.some.injEq] at this
      rw [this]
      rfl
    refine stG_b (fun j hj => ?_) hone ?_
    · rw [add_mk, Nat.zero_add, hcell_blk g2, hfrozen_blk g2]
      exact ⟨⟨_, Array.getElem?_eq_getElem (by omega)⟩, rfl⟩
    have u6 := Upd.hsetL h5 b2 0 c1.toList 0
    have g6 : (hsetL h5 ⟨b2, 0, none⟩ c1.toList 0)[b2]? = some (.cells c1 ty_8_api_Sector (0, 0)) := by
      rw [hsetL_at _ _ _ _ g2, lay_full (by rw [Array.length_toList, z1, z2])]
    generalize hsetL h5 ⟨b2, 0, none⟩ c1.toList 0 = h6 at u6 g6 ⊢
    have hDk : Dk.kept { D with calls := IntKind.wrap .i64 (D.calls + 1) } = ⟨8, had, fun _ => false, [], false, 0, IntKind.wrap .i64 (D.calls + 1)⟩ := by
      show (⟨D.n, fun i => (mlk (i : Int) D.c).getD (D.s i), fun i => if (mlk (i : Int) D.c).isSome then false else D.t i, [], D.away, D.fuse, _⟩ : Dk) = _
      rw [L.n, L.away, L.fuse, L.s, L.t]
      congr 1
      · funext j; exact (hhad j).symm
      · funext j; split <;> rfl
    rw [hDk] at H5
    have H6 := H5.upd u6 hn2
    have E6 := E5.upd u6 hlo.2
    have A16 : AB h6 b1 had := A15.same (u6.ne b1 hb12)
    have A26 : AB h6 b2 had := ⟨⟨c1, g6, z1, v1⟩, A15.lens⟩
    rw [hx1.len]
    refine M.loop_inv (fun (t : Int) h' => ∃ (i : Nat) (D : Dk) (last : Nat → List UInt8), t = (i : Int) ∧ i ≤ ops2.length ∧ L2 h h' F b1 b2 had had last D ∧ ∀ j : Nat, last j = (mlk (j : Int) D.c).getD (had j)) (fun t _ => ((ops2.length : Int) - t).toNat) ?_
      ⟨0, _, had, rfl, Nat.zero_le _, ⟨H6, rfl, rfl, rfl, rfl, rfl, A16, A26, E6⟩, fun j => rfl⟩
    clear H6 H5 H1 H2
    rintro t h7 ⟨i, D2, last, rfl, hi, L', hlast⟩ self hself
    unfold ramblelaw04_DiskKeeps_l2
    refine ite_w (fun hlt => ?_) (fun hge => ?_)
    · have hlt : i < ops2.length := by have := of_decide_eq_true hlt; omega
      have hwi : IntKind.wrap .i64 ((i : Int) + 1) = ((i + 1 : Nat) : Int) := by rw [w64 (by omega) (by omega)]; rfl
      have hgo : ops2[i]? = some ops2[i] := List.getElem?_eq_getElem hlt
      generalize ops2[i] = o at hgo
      refine dop_b (hx1.ext L'.ext) hgo (fun h8 e8 O8 => ?_)
      have hl1 := L'.a1.lt
      have hl2 := L'.a2.lt
      refine keep_round O8 (L'.dk.ext e8) (fun ho => by have := L'.dk.lt ho; omega) (L'.a2.ext e8) hn2 (by omega) L'.n L'.away L'.fuse (fun h9 D9 f9 H9 A9 s9 k9 hcase => ?_)
      unfold ramblelaw04_DiskKeeps_j2
      rw [hwi]
      have E9 : Ext h h9 := ⟨Nat.le_trans (L'.ext.trans e8).size s9, fun j hj => by
        rw [k9 j (Nat.lt_of_lt_of_le hj (L'.ext.trans e8).size) (fun ho => by have := hF j ho; omega) (by omega), (L'.ext.trans e8).same j hj]⟩
      have A19 : AB h9 b1 had := (L'.a1.ext e8).same (k9 b1 (L'.a1.ext e8).lt hn1 hb12)
      refine hself _ _ ⟨i + 1, D9, f9, rfl, by omega, ?_⟩ (by omega)
      rcases hcase with ⟨rfl, rfl⟩ | ⟨w1, w2, rfl, rfl⟩
      · exact ⟨⟨H9, L'.n, L'.away, L'.fuse, L'.s, L'.t, A19, A9, E9⟩, hlast⟩
      · exact ⟨⟨H9, L'.n, L'.away, L'.fuse, L'.s, L'.t, A19, A9, E9⟩, put_mlk w1 hlast⟩
    · clear hself
      refine bind_w (dirty_spec L'.dk (fun h8 r xs e8 g8 hl8 hp8 hs8 => ?_))
      have H8 := L'.dk.ext e8
      have E8 := L'.ext.trans e8
      have hk8 : Bls h8 x3 keep := hk.ext E8
      have hkd8 : ∀ {g : Heap}, Ext h g → keep = [] ∨ ∀ i, Sl.on x3 i → ¬ F.on i ∧ i < g.size := fun e => hkd.imp id (fun hh i hi => ⟨fun ho => by have := hF i ho; have := hh i hi; omega, Nat.lt_of_lt_of_le (hh i hi) e.size⟩)
      refine bind_w (dcrash_spec H8 L'.away hk8 (hkd8 E8) (fun h9 ys hp9 hs9 k9 H9 => ?_))
      have E9 := E8.kp k9 hF
      refine iteF_b rfl (assoc_b (bind_w (dstart_spec H9 (decide_away _ _ _ _) (Bls.nil _) (.inl rfl) (fun h10 zs hp10 hs10 k10 H10 => pure_b ?_))))
      have hz : zs = [] := hp10.eq_nil
      subst hz
      have E10 := E9.kp k10 hF
      refine iteF rfl ?_
      obtain ⟨es, cc, hmap⟩ := L'.dk.map
      obtain ⟨tj, haf, hc0⟩ := after_of (had := had) (last := last) (D := D2) (xs := ys) (torn := torn) (keep := keep) L'.n L'.s L'.t (fun j hj => by
        obtain ⟨v, hv⟩ := mlk_of_mem hj
        rw [hlast j, hv]; rfl) hp9 (fun k hk => by
        obtain ⟨p, hp, rfl⟩ := List.mem_map.1 hk
        exact (L'.dk.clen p hp).2.1)
      have hxl : xs.length ≤ 1000000 := by
        rw [hp8.length_eq, List.length_map]
        have := clen_le L'.dk hmap.keys
        have := L'.n
        omega
      have kk : Kp F h8 h10 := k9.trans k10
      have hrF : ∀ i, Sl.on r i → ¬ F.on i := fun i hi ho => by have := (g8.lt hi).2; have := L'.dk.lt ho; omega
      exact keeps_last (keys := D2.c.map Prod.fst) hF hrF hn1 hn2 hl8 hxl (fun k => hp8.mem_iff) ⟨H10, haf, fun m _ => by rw [hc0]; rfl, (L'.a1.ext e8).same (kk.same b1 (L'.a1.ext e8).lt hn1), (L'.a2.ext e8).same (kk.same b2 (L'.a2.ext e8).lt hn2), (g8.same (fun i hi => kk.same i (g8.lt hi).1 (hrF i hi))).weak L'.ext.size, E10⟩
end Gx
