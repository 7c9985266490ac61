/- Own proofs: what those Lean programs compute. No condition. -/
import Derived.Test.YtklegajjmeajiaaHMap
import Derived.Test.YtklegajjmeajiaaHSeal2
import Derived.Test.YtklegajjmeajiaaAF5
namespace Gx
open Go
set_option linter.unusedVariables false
set_option linter.unusedSimpArgs false
/-! ### A disk of the program, in the heap -/
structure Dk where
  n : Nat
  s : Nat → List UInt8
  t : Nat → Bool
  c : List (Int × List UInt8)
  away : Bool
  fuse : Int
  calls : Int
structure Fp where
  p : Nat
  bs : Nat
  bt : Nat
  bm : Nat
def Fp.on (F : Fp) (i : Nat) : Prop := i = F.p ∨ i = F.bs ∨ i = F.bt ∨ i = F.bm
def kI : Int → Value := fun n => .int .i64 n
def dS : List UInt8 → Value := fun l => .agg (bcells l)
def dkCells (F : Fp) (D : Dk) (cs ct : Nat) : Array Value := #[(⟨some ⟨F.bs, 0, none⟩, D.n, cs⟩ : Sl).v, (⟨some ⟨F.bt, 0, none⟩, D.n, ct⟩ : Sl).v, .map (some F.bm), .bool D.away, .int .i64 D.fuse, .int .i64 D.calls]
structure DkAt (h : Heap) (F : Fp) (D : Dk) : Prop where
  blk : ∃ cs ct, h[F.p]? = some (.cells (dkCells F D cs ct) ty_disk_Disk (0, 0))
  sec : ∃ cells ty, h[F.bs]? = some (.cells cells ty (0, 0)) ∧ ∀ i, i < D.n → ∀ j, j < 128 → cells[i * 128 + j]? = (D.s i)[j]?.map bv
  tor : ∃ cells ty, h[F.bt]? = some (.cells cells ty (0, 0)) ∧ ∀ i, i < D.n → cells[i]? = some (.bool (D.t i))
  map : ∃ es c, MapR h F.bm kI dS D.c es c
  lens : ∀ i, (D.s i).length = 128
  nlt : D.n ≤ 16384
  clen : ∀ p ∈ D.c, p.2.length = 128 ∧ 0 ≤ p.1 ∧ p.1 < D.n
  ne : F.p ≠ F.bs ∧ F.p ≠ F.bt ∧ F.p ≠ F.bm ∧ F.bs ≠ F.bt ∧ F.bs ≠ F.bm ∧ F.bt ≠ F.bm
  fz : 0 ≤ D.fuse ∧ D.fuse ≤ 9223372036854775807
/-- all but the disk's own blocks is as it was -/
structure Kp (F : Fp) (h h' : Heap) : Prop where
  size : h.size ≤ h'.size
  same : ∀ i, i < h.size → ¬ F.on i → h'[i]? = h[i]?
theorem Kp.refl (F : Fp) (h : Heap) : Kp F h h := ⟨Nat.le_refl _, fun _ _ _ => rfl⟩
theorem Kp.trans {F : Fp} {h h' h'' : Heap} (a : Kp F h h') (b : Kp F h' h'') : Kp F h h'' :=
  ⟨Nat.le_trans a.size b.size, fun i hi hn => (b.same i (Nat.lt_of_lt_of_le hi a.size) hn).trans (a.same i hi hn)⟩
theorem Kp.ext {F : Fp} {h h' : Heap} (a : Ext h h') : Kp F h h' := ⟨a.size, fun i hi _ => a.same i hi⟩
theorem Kp.upd {F : Fp} {h h' : Heap} {b : Nat} (u : Upd b h h') (hb : F.on b) : Kp F h h' := ⟨by rw [u.size]; exact Nat.le_refl _, fun i hi hn => u.ne i (fun e => hn (e ▸ hb))⟩
theorem Kp.blk {F : Fp} {h h' : Heap} (k : Kp F h h') {b : Nat} {o : Obj} (hb : h[b]? = some o) (hn : ¬ F.on b) : h'[b]? = some o := (k.same b (blk_lt hb) hn).trans hb
theorem Ext.kp {F : Fp} {h h' h'' : Heap} (e : Ext h h') (k : Kp F h' h'') (hF : ∀ i, F.on i → h.size ≤ i) : Ext h h'' :=
  ⟨Nat.le_trans e.size k.size, fun i hi => (k.same i (Nat.lt_of_lt_of_le hi e.size) (fun ho => by have := hF i ho; omega)).trans (e.same i hi)⟩
/-- what a disk needs: its four blocks -/
theorem DkAt.same {h h' : Heap} {F : Fp} {D : Dk} (H : DkAt h F D) (e : ∀ i, F.on i → h'[i]? = h[i]?) : DkAt h' F D := by
  obtain ⟨cs, ct, hb⟩ := H.blk
  obtain ⟨c1, t1, h1, h1'⟩ := H.sec
  obtain ⟨c2, t2, h2, h2'⟩ := H.tor
  obtain ⟨es, c, hm⟩ := H.map
  exact ⟨⟨cs, ct, (e _ (.inl rfl)).trans hb⟩, ⟨c1, t1, (e _ (.inr (.inl rfl))).trans h1, h1'⟩, ⟨c2, t2, (e _ (.inr (.inr (.inl rfl)))).trans h2, h2'⟩, ⟨es, c, hm.ext (e _ (.inr (.inr (.inr rfl))))⟩, H.lens, H.nlt, H.clen, H.ne, H.fz⟩
theorem DkAt.lt {h : Heap} {F : Fp} {D : Dk} (H : DkAt h F D) {i : Nat} (hi : F.on i) : i < h.size := by
  obtain ⟨cs, ct, hb⟩ := H.blk
  obtain ⟨c1, t1, h1, h1'⟩ := H.sec
  obtain ⟨c2, t2, h2, h2'⟩ := H.tor
  obtain ⟨es, c, hm⟩ := H.map
  rcases hi with rfl | rfl | rfl | rfl
  · exact blk_lt hb
  · exact blk_lt h1
  · exact blk_lt h2
  · exact blk_lt hm.blk
theorem DkAt.ext {h h' : Heap} {F : Fp} {D : Dk} (H : DkAt h F D) (e : Ext h h') : DkAt h' F D := H.same fun i hi => e.same i (H.lt hi)
theorem DkAt.upd {h h' : Heap} {F : Fp} {D : Dk} {b : Nat} (H : DkAt h F D) (u : Upd b h h') (hb : ¬ F.on b) : DkAt h' F D := H.same fun i hi => u.ne i (fun e => hb (e ▸ hi))
theorem DkAt.kp {h h' : Heap} {F G : Fp} {D : Dk} (H : DkAt h F D) (k : Kp G h h') (hd : ∀ i, F.on i → ¬ G.on i) : DkAt h' F D := H.same fun i hi => k.same i (H.lt hi) (hd i hi)
/-- the disk's own block, laid anew -/
theorem DkAt.head {h h' : Heap} {F : Fp} {D : Dk} (H : DkAt h F D) {aw : Bool} {fu ca : Int} (u : Upd F.p h h') (hb : ∃ cs ct, h'[F.p]? = some (.cells (dkCells F { D with away := aw, fuse := fu, calls := ca } cs ct) ty_disk_Disk (0, 0)))
    (hf : 0 ≤ fu ∧ fu ≤ 9223372036854775807) : DkAt h' F { D with away := aw, fuse := fu, calls := ca } := by
  obtain ⟨c1, t1, h1, h1'⟩ := H.sec
  obtain ⟨c2, t2, h2, h2'⟩ := H.tor
  obtain ⟨es, c, hm⟩ := H.map
  obtain ⟨n1, n2, n3, n4, n5, n6⟩ := H.ne
  exact ⟨hb, ⟨c1, t1, (u.ne _ n1.symm).trans h1, h1'⟩, ⟨c2, t2, (u.ne _ n2.symm).trans h2, h2'⟩, ⟨es, c, hm.ext (u.ne _ n3.symm)⟩, H.lens, H.nlt, H.clen, H.ne, hf⟩
section
variable {h : Heap} {F : Fp} {D : Dk}
theorem DkAt.cell {cs ct : Nat} (hb : h[F.p]? = some (.cells (dkCells F D cs ct) ty_disk_Disk (0, 0))) (i : Nat) : hcell h ((⟨F.p, 0, none⟩ : Addr).add i) = (dkCells F D cs ct)[i]? := by
  rw [add_mk, Nat.zero_add, hcell_blk hb]
theorem dnone_spec {Q : Bool → Heap → Prop} (H : DkAt h F D) (hq : Q false h) : (disk_Disk_none (some ⟨F.p, 0, none⟩)).wp h Q := by
  obtain ⟨cs, ct, hb⟩ := H.blk
  unfold disk_Disk_none
  refine ite_b (fun h => by cases h) (fun _ => ?_)
  refine assoc_b (nilP_b (assoc_b (ldMp_b (n := some F.bm) (by rw [DkAt.cell hb]; rfl) (pure_b (pure_w ?_)))))
  exact hq
theorem dcan_spec {Q : Int → Heap → Prop} (H : DkAt h F D) (hq : Q (if D.away then 9 else 0) h) : (disk_Disk_can (some ⟨F.p, 0, none⟩)).wp h Q := by
  unfold disk_Disk_can
  refine bind_w (dnone_spec H ?_)
  obtain ⟨cs, ct, hb⟩ := H.blk
  refine ite_w (fun h => by cases h) (fun _ => ?_)
  refine nilP_b (ldB_b (n := D.away) (by rw [DkAt.cell hb]; rfl) ?_)
  refine ite_w (fun h => pure_w ?_) (fun h => pure_w ?_)
  · rw [h] at hq; exact hq
  · rw [h] at hq; exact hq
theorem dthere_spec {Q : Int → Heap → Prop} {x : Int} (H : DkAt h F D) (hq : Q (if x < 0 ∨ (D.n : Int) ≤ x then 41 else 0) h) : (disk_Disk_there (some ⟨F.p, 0, none⟩) x).wp h Q := by
  obtain ⟨cs, ct, hb⟩ := H.blk
  unfold disk_Disk_there
  refine ite_b (fun h => ?_) (fun h => ?_)
  · have : x < 0 := of_decide_eq_true h
    rw [if_pos (.inl this)] at hq
    exact pure_b (iteT rfl (pure_w hq))
  · have h0 : ¬ x < 0 := of_decide_eq_false h
    refine assoc_b (nilP_b (assoc_b (ldL_b (n := ⟨some ⟨F.bs, 0, none⟩, D.n, cs⟩) (by rw [DkAt.cell hb]; rfl) (pure_b ?_))))
    refine ite_w (fun h => pure_w ?_) (fun h => pure_w ?_)
    · have : (D.n : Int) ≤ x := of_decide_eq_true h
      rw [if_pos (.inr this)] at hq; exact hq
    · have : ¬ (D.n : Int) ≤ x := of_decide_eq_false h
      rw [if_neg (by omega)] at hq; exact hq
/-- a call is counted -/
def Dk.call (D : Dk) : Dk × Int := if 0 < D.fuse then (if D.fuse = 1 then ({ D with away := true, fuse := 0 }, 9) else ({ D with fuse := D.fuse - 1, calls := IntKind.wrap .i64 (D.calls + 1) }, 0)) else ({ D with calls := IntKind.wrap .i64 (D.calls + 1) }, 0)
theorem dcall_spec {Q : Int → Heap → Prop} (H : DkAt h F D) (hq : ∀ h', Upd F.p h h' → DkAt h' F D.call.1 → Q D.call.2 h') : (disk_Disk_call (some ⟨F.p, 0, none⟩)).wp h Q := by
  have j1 : ∀ {h1 : Heap} {D1 : Dk} {R : Int → Heap → Prop}, DkAt h1 F D1 → (∀ h', Upd F.p h1 h' → DkAt h' F { D1 with calls := IntKind.wrap .i64 (D1.calls + 1) } → R 0 h') → (disk_Disk_call_j1 (some ⟨F.p, 0, none⟩)).wp h1 R := by
    intro h1 D1 R H hr
    obtain ⟨cs, ct, hb⟩ := H.blk
    unfold disk_Disk_call_j1
    refine nilP_b (ldI_b (n := D1.calls) (by rw [DkAt.cell hb]; rfl) (nilP_b ?_))
    refine stV_b (x := .int .i64 D1.calls) (by rw [DkAt.cell hb]; rfl) (by rw [add_mk, hfrozen_blk hb]) rfl ?_
    rw [add_mk]
    refine pure_w (hr _ (Upd.hset _ _ _ _) (H.head (aw := D1.away) (fu := D1.fuse) (Upd.hset _ _ _ _) ⟨cs, ct, ?_⟩ H.fz))
    rw [hset_at hb]; rfl
  obtain ⟨cs, ct, hb⟩ := H.blk
  unfold disk_Disk_call
  refine nilP_b (ldI_b (n := D.fuse) (by rw [DkAt.cell hb]; rfl) ?_)
  have hfz := H.fz
  refine ite_w (fun hc => ?_) (fun hc => ?_)
  · have hpos : 0 < D.fuse := of_decide_eq_true hc
    refine nilP_b (ldI_b (n := D.fuse) (by rw [DkAt.cell hb]; rfl) (nilP_b ?_))
    have hw : IntKind.wrap .i64 (D.fuse - 1) = D.fuse - 1 := w64 (by omega) (by omega)
    rw [hw]
    refine stV_b (x := .int .i64 D.fuse) (by rw [DkAt.cell hb]; rfl) (by rw [add_mk, hfrozen_blk hb]) rfl ?_
    rw [add_mk]
    have u1 := Upd.hset h F.p (0 + 4) (.int .i64 (D.fuse - 1))
    have hb1 : (Gx.hset h ⟨F.p, 0 + 4, none⟩ (.int .i64 (D.fuse - 1)))[F.p]? = some (.cells (dkCells F { D with fuse := D.fuse - 1 } cs ct) ty_disk_Disk (0, 0)) := by
      rw [hset_at hb]; rfl
    have H1 : DkAt _ F { D with fuse := D.fuse - 1 } := H.head (aw := D.away) (fu := D.fuse - 1) (ca := D.calls) u1 ⟨cs, ct, hb1⟩ (by omega)
    generalize Gx.hset h ⟨F.p, 0 + 4, none⟩ (.int .i64 (D.fuse - 1)) = h1 at u1 hb1 H1 ⊢
    refine nilP_b (ldI_b (n := D.fuse - 1) (by rw [DkAt.cell hb1]; rfl) ?_)
    refine ite_w (fun hc1 => ?_) (fun hc1 => ?_)
    · have h1' : D.fuse = 1 := by have : D.fuse - 1 = 0 := by simpa using hc1
                                  omega
      refine nilP_b ?_
      refine stV_b (x := .bool D.away) (by rw [DkAt.cell hb1]; rfl) (by rw [add_mk, hfrozen_blk hb1]) rfl ?_
      rw [add_mk]
      have e : D.call = ({ D with away := true, fuse := 0 }, 9) := by rw [Dk.call, if_pos hpos, if_pos h1']
      rw [e] at hq
      refine pure_w (hq _ (u1.trans (Upd.hset _ _ _ _)) ?_)
      refine H.head (aw := true) (fu := 0) (ca := D.calls) (u1.trans (Upd.hset _ _ _ _)) ⟨cs, ct, ?_⟩ (by omega)
      rw [hset_at hb1, h1']; rfl
    · have h1' : ¬ D.fuse = 1 := fun e => by rw [e] at hc1; cases hc1
      have e : D.call = ({ D with fuse := D.fuse - 1, calls := IntKind.wrap .i64 (D.calls + 1) }, 0) := by rw [Dk.call, if_pos hpos, if_neg h1']
      rw [e] at hq
      exact j1 H1 (fun h' u' H' => hq h' (u1.trans u') H')
  · have hpos : ¬ 0 < D.fuse := of_decide_eq_false hc
    have e : D.call = ({ D with calls := IntKind.wrap .i64 (D.calls + 1) }, 0) := by rw [Dk.call, if_neg hpos]
    rw [e] at hq
    exact j1 H hq
end
end Gx
