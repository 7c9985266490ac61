/- Own proofs: what those Lean programs compute. No condition. -/
import Derived.Test.YtklegajjmeajiaaHGrow
import Derived.Test.YtklegajjmeajiaaHDisk5
import Derived.Test.YtklegajjmeajiaaAF10
namespace Gx
open Go
set_option linter.unusedVariables false
set_option linter.unusedSimpArgs false
/-! ### The reference's disk -/
structure Rp where
  p : Nat
  bs : Nat
  bt : Nat
  c : Sl
  ls : Nat
  lt : Nat
def Rp.on (G : Rp) (i : Nat) : Prop := i = G.p ∨ i = G.bs ∨ i = G.bt ∨ Sl.on G.c i
def ccell (p : Int × List UInt8) : List Value := .int .i64 p.1 :: p.2.map bv
def rkCells (G : Rp) (R : Dk) : Array Value := #[(⟨some ⟨G.bs, 0, none⟩, R.n, G.ls⟩ : Sl).v, (⟨some ⟨G.bt, 0, none⟩, R.n, G.lt⟩ : Sl).v, G.c.v, .bool R.away, .int .i64 R.fuse, .int .i64 R.calls]
structure RkAt (h : Heap) (G : Rp) (R : Dk) : Prop where
  blk : h[G.p]? = some (.cells (rkCells G R) ty_rambleref04_Disk (0, 0))
  sec : ∃ cells ty, h[G.bs]? = some (.cells cells ty (0, 0)) ∧ ∀ i, i < R.n → ∀ j, j < 128 → cells[i * 128 + j]? = (R.s i)[j]?.map bv
  tor : ∃ cells ty, h[G.bt]? = some (.cells cells ty (0, 0)) ∧ ∀ i, i < R.n → cells[i]? = some (.bool (R.t i))
  cac : Gw 0 h G.c 129 (R.c.flatMap ccell)
  lens : ∀ i, (R.s i).length = 128
  npos : 1 ≤ R.n
  nlt : R.n ≤ 16384
  clen : ∀ p ∈ R.c, p.2.length = 128 ∧ 0 ≤ p.1 ∧ p.1 < R.n
  keys : (R.c.map Prod.fst).Nodup
  ne : G.p ≠ G.bs ∧ G.p ≠ G.bt ∧ ¬ Sl.on G.c G.p
  fz : 0 ≤ R.fuse ∧ R.fuse ≤ 9223372036854775807
/-- all but some blocks is as it was -/
structure Km (S : Nat → Prop) (h h' : Heap) : Prop where
  size : h.size ≤ h'.size
  same : ∀ i, i < h.size → ¬ S i → h'[i]? = h[i]?
theorem Km.refl (S : Nat → Prop) (h : Heap) : Km S h h := ⟨Nat.le_refl _, fun _ _ _ => rfl⟩
theorem Km.trans {S : Nat → Prop} {h h' h'' : Heap} (a : Km S h h') (b : Km S h' h'') : Km S h h'' :=
  ⟨Nat.le_trans a.size b.size, fun i hi hn => (b.same i (Nat.lt_of_lt_of_le hi a.size) hn).trans (a.same i hi hn)⟩
theorem Km.ext {S : Nat → Prop} {h h' : Heap} (a : Ext h h') : Km S h h' := ⟨a.size, fun i hi _ => a.same i hi⟩
theorem Km.upd {S : Nat → Prop} {h h' : Heap} {b : Nat} (u : Upd b h h') (hb : S b) : Km S h h' := ⟨by rw [u.size]; exact Nat.le_refl _, fun i hi hn => u.ne i (fun e => hn (e ▸ hb))⟩
theorem Km.own {S : Nat → Prop} {h h' h'' : Heap} {b : Nat} (K : Km S h h') (u : Upd b h' h'') (hb : h.size ≤ b) : Km S h h'' :=
  ⟨by rw [u.size]; exact K.size, fun i hi hn => (u.ne i (by omega)).trans (K.same i hi hn)⟩
theorem Km.blk {S : Nat → Prop} {h h' : Heap} (k : Km S h h') {b : Nat} {o : Obj} (hb : h[b]? = some o) (hn : ¬ S b) : h'[b]? = some o := (k.same b (blk_lt hb) hn).trans hb
theorem Ext.km {S : Nat → Prop} {h h' h'' : Heap} (e : Ext h h') (k : Km S h' h'') (hF : ∀ i, S i → h.size ≤ i) : Ext h h'' :=
  ⟨Nat.le_trans e.size k.size, fun i hi => (k.same i (Nat.lt_of_lt_of_le hi e.size) (fun ho => by have := hF i ho; omega)).trans (e.same i hi)⟩
theorem ccell_len {p : Int × List UInt8} (h : p.2.length = 128) : (ccell p).length = 129 := by simp [ccell, h]
theorem flat_get' {α : Type} {f : α → List Value} {w : Nat} : ∀ (l : List α), (∀ x ∈ l, (f x).length = w) → ∀ (i j : Nat), j < w → (l.flatMap f)[i * w + j]? = (l[i]?).bind fun x => (f x)[j]?
  | [], hw, i, j, hj => by simp
  | x :: l, hw, i, j, hj => by
    have hx := hw x (by simp)
    rw [List.flatMap_cons]
    cases i with
    | zero =>
      rw [List.getElem?_append_left (by rw [hx]; omega)]
      simp
    | succ i =>
      rw [List.getElem?_append_right (by rw [hx, Nat.add_mul]; omega), hx, show (i + 1) * w + j - w = i * w + j by rw [Nat.add_mul]; omega, flat_get' l (fun y hy => hw y (by simp [hy])) i j hj]
      simp
theorem flat_len' {α : Type} {f : α → List Value} {w : Nat} : ∀ (l : List α), (∀ x ∈ l, (f x).length = w) → (l.flatMap f).length = l.length * w
  | [], hw => by simp
  | x :: l, hw => by
    rw [List.flatMap_cons, List.length_append, hw x (by simp), flat_len' l (fun y hy => hw y (by simp [hy])), List.length_cons, Nat.add_mul]; omega
section
variable {h : Heap} {G : Rp} {R : Dk}
theorem RkAt.same {h' : Heap} (H : RkAt h G R) (e : ∀ i, G.on i → h'[i]? = h[i]?) : RkAt h' G R := by
  obtain ⟨c1, t1, h1, h1'⟩ := H.sec
  obtain ⟨c2, t2, h2, h2'⟩ := H.tor
  exact ⟨(e _ (.inl rfl)).trans H.blk, ⟨c1, t1, (e _ (.inr (.inl rfl))).trans h1, h1'⟩, ⟨c2, t2, (e _ (.inr (.inr (.inl rfl)))).trans h2, h2'⟩, H.cac.same (fun i hi => e i (.inr (.inr (.inr hi)))), H.lens, H.npos, H.nlt, H.clen, H.keys, H.ne, H.fz⟩
theorem RkAt.lt (H : RkAt h G R) {i : Nat} (hi : G.on i) : i < h.size := by
  obtain ⟨c1, t1, h1, h1'⟩ := H.sec
  obtain ⟨c2, t2, h2, h2'⟩ := H.tor
  rcases hi with rfl | rfl | rfl | hi
  · exact blk_lt H.blk
  · exact blk_lt h1
  · exact blk_lt h2
  · exact (H.cac.lt hi).1
theorem RkAt.ext {h' : Heap} (H : RkAt h G R) (e : Ext h h') : RkAt h' G R := H.same fun i hi => e.same i (H.lt hi)
theorem RkAt.upd {h' : Heap} {b : Nat} (H : RkAt h G R) (u : Upd b h h') (hb : ¬ G.on b) : RkAt h' G R := H.same fun i hi => u.ne i (fun e => hb (e ▸ hi))
theorem RkAt.km {h' : Heap} {S : Nat → Prop} (H : RkAt h G R) (k : Km S h h') (hd : ∀ i, G.on i → ¬ S i) : RkAt h' G R := H.same fun i hi => k.same i (H.lt hi) (hd i hi)
theorem RkAt.cell (H : RkAt h G R) (i : Nat) : hcell h ((⟨G.p, 0, none⟩ : Addr).add i) = (rkCells G R)[i]? := by
  rw [add_mk, Nat.zero_add, hcell_blk H.blk]
theorem RkAt.clt (H : RkAt h G R) : R.c.length ≤ 16384 := by
  have h1 := nodup_lt_len R.n (R.c.map fun p => p.1.toNat) (by
    have := H.keys
    rw [List.Nodup, List.pairwise_map] at this ⊢
    refine this.imp_of_mem (fun {a b} ha hb hab e => hab ?_)
    have := H.clen a ha
    have := H.clen b hb
    omega) (fun x hx => by
    obtain ⟨p, hp, rfl⟩ := List.mem_map.1 hx
    have := H.clen p hp
    omega)
  rw [List.length_map] at h1
  have := H.nlt
  omega
theorem RkAt.cl (H : RkAt h G R) : G.c.len = R.c.length := by
  have := H.cac.len
  rw [flat_len' (w := 129) _ (fun p hp => ccell_len (H.clen p hp).1)] at this
  omega
/-- the disk's own block, laid anew -/
theorem RkAt.head {h' : Heap} (H : RkAt h G R) {aw : Bool} {fu ca : Int} (u : Upd G.p h h') (hb : h'[G.p]? = some (.cells (rkCells G { R with away := aw, fuse := fu, calls := ca }) ty_rambleref04_Disk (0, 0)))
    (hf : 0 ≤ fu ∧ fu ≤ 9223372036854775807) : RkAt h' G { R with away := aw, fuse := fu, calls := ca } := by
  obtain ⟨c1, t1, h1, h1'⟩ := H.sec
  obtain ⟨c2, t2, h2, h2'⟩ := H.tor
  obtain ⟨n1, n2, n3⟩ := H.ne
  exact ⟨hb, ⟨c1, t1, (u.ne _ n1.symm).trans h1, h1'⟩, ⟨c2, t2, (u.ne _ n2.symm).trans h2, h2'⟩, H.cac.same (fun i hi => u.ne _ (fun e => n3 (e ▸ hi))), H.lens, H.npos, H.nlt, H.clen, H.keys, H.ne, hf⟩
theorem rmay_spec {Q : Int → Heap → Prop} {x : Int} (H : RkAt h G R) (hq : Q (if R.away then 9 else if x < 0 ∨ (R.n : Int) ≤ x then 41 else 0) h) : (rambleref04_Disk_may (some ⟨G.p, 0, none⟩) x).wp h Q := by
  unfold rambleref04_Disk_may
  refine nilP_b (ldB_b (n := R.away) (by rw [H.cell]; rfl) ?_)
  refine ite_w (fun ha => pure_w (by rw [ha] at hq; exact hq)) (fun ha => ?_)
  rw [ha] at hq
  refine ite_b (fun h => ?_) (fun h => ?_)
  · have : x < 0 := of_decide_eq_true h
    rw [if_neg (by decide), if_pos (.inl this)] at hq
    exact pure_b (iteT rfl (pure_w hq))
  · have h0 : ¬ x < 0 := of_decide_eq_false h
    refine assoc_b (nilP_b (assoc_b (ldL_b (n := ⟨some ⟨G.bs, 0, none⟩, R.n, G.ls⟩) (by rw [H.cell]; rfl) (pure_b ?_))))
    refine ite_w (fun h => pure_w ?_) (fun h => pure_w ?_)
    · have : (R.n : Int) ≤ x := of_decide_eq_true h
      rw [if_neg (by decide), if_pos (.inr this)] at hq; exact hq
    · have : ¬ (R.n : Int) ≤ x := of_decide_eq_false h
      rw [if_neg (by decide), if_neg (by omega)] at hq; exact hq
theorem rcall_spec {Q : Bool → Heap → Prop} (H : RkAt h G R) (hq : ∀ h', Upd G.p h h' → RkAt h' G R.call.1 → Q (R.call.2 == 0) h') : (rambleref04_Disk_call (some ⟨G.p, 0, none⟩)).wp h Q := by
  have j1 : ∀ {h1 : Heap} {D1 : Dk} {P : Bool → Heap → Prop}, RkAt h1 G D1 → (∀ h', Upd G.p h1 h' → RkAt h' G { D1 with calls := IntKind.wrap .i64 (D1.calls + 1) } → P true h') → (rambleref04_Disk_call_j1 (some ⟨G.p, 0, none⟩)).wp h1 P := by
    intro h1 D1 P H hr
    unfold rambleref04_Disk_call_j1
    refine nilP_b (ldI_b (n := D1.calls) (by rw [H.cell]; rfl) (nilP_b ?_))
    refine stV_b (x := .int .i64 D1.calls) (by rw [H.cell]; rfl) (by rw [add_mk, hfrozen_blk H.blk]) rfl ?_
    rw [add_mk]
    refine pure_w (hr _ (Upd.hset _ _ _ _) (H.head (aw := D1.away) (fu := D1.fuse) (Upd.hset _ _ _ _) ?_ H.fz))
    rw [hset_at H.blk]; rfl
  unfold rambleref04_Disk_call
  refine nilP_b (ldI_b (n := R.fuse) (by rw [H.cell]; rfl) ?_)
  have hfz := H.fz
  refine ite_w (fun hc => ?_) (fun hc => ?_)
  · have h1 : R.fuse = 1 := by simpa using hc
    have e : R.call = ({ R with away := true, fuse := 0 }, 9) := by rw [Dk.call, if_pos (by omega), if_pos h1]
    rw [e] at hq
    refine nilP_b (stV_b (x := .bool R.away) (by rw [H.cell]; rfl) (by rw [add_mk, hfrozen_blk H.blk]) rfl ?_)
    rw [add_mk]
    have u1 := Upd.hset h G.p (0 + 3) (.bool true)
    have H1 : RkAt (Gx.hset h ⟨G.p, 0 + 3, none⟩ (.bool true)) G { R with away := true } := H.head (aw := true) (fu := R.fuse) (ca := R.calls) u1 (by rw [hset_at H.blk]; rfl) hfz
    generalize Gx.hset h ⟨G.p, 0 + 3, none⟩ (.bool true) = h1 at u1 H1 ⊢
    refine nilP_b (stV_b (x := .int .i64 R.fuse) (by rw [H1.cell]; rfl) (by rw [add_mk, hfrozen_blk H1.blk]) rfl ?_)
    rw [add_mk]
    refine pure_w (hq _ (u1.trans (Upd.hset _ _ _ _)) ?_)
    refine H1.head (aw := true) (fu := 0) (ca := R.calls) (Upd.hset _ _ _ _) ?_ (by omega)
    rw [hset_at H1.blk]; rfl
  · have h1 : ¬ R.fuse = 1 := by simpa using hc
    refine nilP_b (ldI_b (n := R.fuse) (by rw [H.cell]; rfl) ?_)
    refine ite_w (fun hc => ?_) (fun hc => ?_)
    · have hpos : 0 < R.fuse := of_decide_eq_true hc
      have e : R.call = ({ R with fuse := R.fuse - 1, calls := IntKind.wrap .i64 (R.calls + 1) }, 0) := by rw [Dk.call, if_pos hpos, if_neg h1]
      rw [e] at hq
      refine nilP_b (ldI_b (n := R.fuse) (by rw [H.cell]; rfl) (nilP_b ?_))
      rw [w64 (by omega) (by omega)]
      refine stV_b (x := .int .i64 R.fuse) (by rw [H.cell]; rfl) (by rw [add_mk, hfrozen_blk H.blk]) rfl ?_
      rw [add_mk]
      have u1 := Upd.hset h G.p (0 + 4) (.int .i64 (R.fuse - 1))
      have H1 : RkAt (Gx.hset h ⟨G.p, 0 + 4, none⟩ (.int .i64 (R.fuse - 1))) G { R with fuse := R.fuse - 1 } := H.head (aw := R.away) (fu := R.fuse - 1) (ca := R.calls) u1 (by rw [hset_at H.blk]; rfl) (by omega)
      exact j1 H1 (fun h' u' H' => hq h' (u1.trans u') H')
    · have hpos : ¬ 0 < R.fuse := of_decide_eq_false hc
      have e : R.call = ({ R with calls := IntKind.wrap .i64 (R.calls + 1) }, 0) := by rw [Dk.call, if_neg hpos]
      rw [e] at hq
      exact j1 H hq
end
end Gx
