/- Own proofs: what those Lean programs compute. No condition. -/
import Derived.Test.YtklegajjmeajiaaHDisk4
import Derived.Test.YtklegajjmeajiaaHBegun
namespace Gx
open Go
set_option linter.unusedVariables false
set_option linter.unusedSimpArgs false
section
variable {h : Heap} {F : Fp} {D : Dk}
def Dk.read (D : Dk) (n : Int) : List UInt8 × Int := if D.away then (zeros, 9) else if n < 0 ∨ (D.n : Int) ≤ n then (zeros, 41) else match mlk n D.c with
  | some v => (v, 0)
  | none => if D.t n.toNat then (zeros, 40) else (D.s n.toNat, 0)
theorem mlk_mem {l : List (Int × List UInt8)} {k : Int} {v : List UInt8} (h : mlk k l = some v) : (k, v) ∈ l := by
  obtain ⟨j, hj⟩ := mlk_some h
  exact List.mem_of_getElem? hj
theorem dread_len (H : DkAt h F D) (n : Int) : (D.read n).1.length = 128 := by
  unfold Dk.read
  split
  · rfl
  · split
    · rfl
    · cases hx : mlk n D.c with
      | some v => exact (H.clen _ (mlk_mem hx)).1
      | none =>
        show (if D.t n.toNat then (zeros, (40 : Int)) else (D.s n.toNat, 0)).1.length = 128
        split
        · rfl
        · exact H.lens _
theorem dread_spec {Q : Array Value × Int → Heap → Prop} {n : Int} (H : DkAt h F D) (hq : ∀ h', Ext h h' → Q (bcells (D.read n).1, (D.read n).2) h') : (disk_Disk_Read (some ⟨F.p, 0, none⟩) n).wp h Q := by
  unfold disk_Disk_Read
  refine mkZ (Ext.refl h) (fun h1 _ e1 s1 b1 => ?_)
  have H1 := H.ext e1
  have fin : ∀ {l : List UInt8} {e : Int} {h2 : Heap}, l.length = 128 → Ext h h2 → BB h2 h.size ty_api_Sector zeros → D.read n = (l, e) →
      ((do
        M.need ((bcells l).size = 128)
        stG ⟨h.size, 0, none⟩ (bcells l)
        let r4_9 ← ldG 128 ⟨h.size, 0, none⟩
        M.pure (r4_9, e)) : M (Array Value × Int)).wp h2 Q := by
    intro l e h2 hl e2 b2 hr
    refine need_b (by rw [bcells_size, hl]) ?_
    refine stB128 b2 rfl hl (fun h3 u3 b3 => ?_)
    refine ldB128 b3 hl (pure_w ?_)
    have := hq h3 (e2.upd u3 (Nat.le_refl _))
    rw [hr] at this
    exact this
  have zfin : ∀ {e : Int} {h2 : Heap}, Ext h h2 → BB h2 h.size ty_api_Sector zeros → D.read n = (zeros, e) →
      ((do
        M.need ((Array.replicate 128 (.int .u8 0) : Array Value).size = 128)
        stG ⟨h.size, 0, none⟩ (Array.replicate 128 (.int .u8 0) : Array Value)
        let r4_9 ← ldG 128 ⟨h.size, 0, none⟩
        M.pure (r4_9, e)) : M (Array Value × Int)).wp h2 Q := by
    intro e h2 e2 b2 hr
    rw [zeros_cells]
    exact fin rfl e2 b2 hr
  refine bind_w (dcan_spec H1 ?_)
  cases hw : D.away with
  | true => exact iteT rfl (zfin e1 b1 (by simp [Dk.read, hw]))
  | false =>
    refine ite_w (fun h => by cases h) (fun _ => ?_)
    refine bind_w (dthere_spec H1 ?_)
    by_cases hn : n < 0 ∨ (D.n : Int) ≤ n
    · rw [if_pos hn]
      exact iteT rfl (zfin e1 b1 (by rw [Dk.read, hw, if_neg (by decide), if_pos hn]))
    · rw [if_neg hn]
      refine ite_w (fun h => by cases h) (fun _ => ?_)
      obtain ⟨k, rfl⟩ : ∃ k : Nat, n = (k : Int) := ⟨n.toNat, by omega⟩
      have hk : k < D.n := by omega
      obtain ⟨cs, ct, hb⟩ := H1.blk
      obtain ⟨es, c, hm⟩ := H1.map
      refine nilP_b (ldMp_b (n := some F.bm) (by rw [DkAt.cell hb]; rfl) ?_)
      refine lkM_b (dec := dS) (g := bcells) (z' := (Array.replicate 128 (.int .u8 0) : Array Value)) keyI hm (fun _ => rfl) rfl ?_
      have hr : D.read (k : Int) = match mlk (k : Int) D.c with | some v => (v, 0) | none => if D.t k then (zeros, 40) else (D.s k, 0) := by
        rw [Dk.read, hw, if_neg (by decide), if_neg hn]
        rfl
      refine mkZ e1 (fun h2 g2 e2 s2 b2 => ?_)
      have H2 := H1.ext g2
      have b1' := b1.ext g2
      have hne : h.size ≠ h1.size := by omega
      cases hx : mlk (k : Int) D.c with
      | some v =>
        rw [hx] at hr
        have hv := (H.clen _ (mlk_mem hx)).1
        refine need_b (by show (bcells v).size = 128; rw [bcells_size, hv]) ?_
        refine stB128 b2 rfl hv (fun h3 u3 b3 => ?_)
        refine ite_w (fun _ => ?_) (fun h => by cases h)
        refine ldB128 b3 hv ?_
        exact fin hv (e2.upd u3 e1.size) (b1'.upd u3 hne) hr
      | none =>
        rw [hx] at hr
        refine need_b (by simp) ?_
        have hst : ∀ {f : Unit → M (Array Value × Int)}, (∀ h3, Upd h1.size h2 h3 → (f ()).wp h3 Q) → (stG ⟨h1.size, 0, none⟩ (Array.replicate 128 (.int .u8 0) : Array Value) >>= f).wp h2 Q := by
          intro f hf
          rw [zeros_cells]
          exact stB128 b2 rfl rfl (fun h3 u3 _ => hf h3 u3)
        refine hst (fun h3 u3 => ?_)
        refine ite_w (fun h => by cases h) (fun _ => ?_)
        have hnF : ¬ F.on h1.size := fun ho => by have := H1.lt ho; omega
        have H3 := H2.upd u3 hnF
        have E3 := e2.upd u3 e1.size
        have b13 := b1'.upd u3 hne
        obtain ⟨cs3, ct3, hb3⟩ := H3.blk
        refine nilP_b (ldL_b (n := ⟨some ⟨F.bt, 0, none⟩, D.n, ct3⟩) (by rw [DkAt.cell hb3]; rfl) ?_)
        refine ixL_b (by omega) (by show (k : Int) < (D.n : Int); omega) rfl ?_
        rw [add_mk, Nat.zero_add, show ((k : Int).toNat * 1) = k by omega]
        obtain ⟨c2, t2, h2', h2''⟩ := H3.tor
        refine ldB_b (n := D.t k) (by rw [hcell_blk h2', h2'' k hk]) ?_
        refine ite_w (fun ht => ?_) (fun ht => ?_)
        · rw [ht] at hr
          exact zfin E3 b13 hr
        · rw [ht] at hr
          refine nilP_b (ldL_b (n := ⟨some ⟨F.bs, 0, none⟩, D.n, cs3⟩) (by rw [DkAt.cell hb3]; rfl) ?_)
          refine ixL_b (by omega) (by show (k : Int) < (D.n : Int); omega) rfl ?_
          rw [add_mk, Nat.zero_add, show ((k : Int).toNat * 128) = k * 128 by omega]
          refine H3.ldS hk ?_
          exact fin (H.lens k) E3 b13 hr
end
def Dk.new (n : Nat) : Dk := ⟨n, fun _ => zeros, fun _ => false, [], false, 0, 0⟩
theorem zRow_get {z : Array Value} {n i : Nat} (hi : i < n) : (zRow z n)[i]? = some z[i % z.size]! := by
  unfold zRow
  simp [hi]
theorem new_tail {h h3 : Heap} {Q : Option Addr × Int → Heap → Prop} {n b1 b2 b3 : Nat} (hn : n ≤ 16384) (e : Ext h h3) (h1 : h3[b1]? = some (.cells (zRow (Array.replicate 128 (.int .u8 0)) (n * 128)) ty_api_Sector (0, 0)))
    (h2 : h3[b2]? = some (.cells (zRow #[.bool false] (n * 1)) ty_bool (0, 0))) (hm : MapR h3 b3 kI dS [] #[] 0) (ne : b1 ≠ b2 ∧ b1 ≠ b3 ∧ b2 ≠ b3) (ge : h.size ≤ b1 ∧ h.size ≤ b2 ∧ h.size ≤ b3)
    (hq : ∀ h' F, Ext h h' → DkAt h' F (Dk.new n) → (∀ i, F.on i → h.size ≤ i) → Q (some ⟨F.p, 0, none⟩, 0) h') :
    ((do
      let x16_23 ← mkB ty_disk_Disk (#[(⟨some ⟨b1, 0, none⟩, n, n⟩ : Sl).v, (⟨some ⟨b2, 0, none⟩, n, n⟩ : Sl).v, .map (some b3), .bool false, .int .i64 0, .int .i64 0] : Array Value)
      M.pure (some x16_23, 0)) : M (Option Addr × Int)).wp h3 Q := by
  refine mkB_b (pure_w (hq _ ⟨h3.size, b1, b2, b3⟩ (e.trans (Ext.push _ _)) ?_ ?_))
  · have l1 := blk_lt h1
    have l2 := blk_lt h2
    have l3 := blk_lt hm.blk
    have E := Ext.push h3 (.cells (#[(⟨some ⟨b1, 0, none⟩, n, n⟩ : Sl).v, (⟨some ⟨b2, 0, none⟩, n, n⟩ : Sl).v, .map (some b3), .bool false, .int .i64 0, .int .i64 0] : Array Value) ty_disk_Disk)
    refine ⟨⟨n, n, get_push_eq⟩, ⟨_, _, E.blk h1, fun i hi j hj => ?_⟩, ⟨_, _, E.blk h2, fun i hi => ?_⟩, ⟨_, _, hm.ext (E.same b3 l3)⟩, fun _ => rfl, hn, fun p hp => (by cases hp), ?_, ?_⟩
    · have hi' : i < n := hi
      rw [zRow_get (by omega)]
      have hj2 : zeros[j]? = some 0 := by rw [zeros, List.getElem?_replicate, if_pos hj]
      have : (i * 128 + j) % (Array.replicate 128 (Value.int .u8 0)).size = j := by rw [Array.size_replicate]; omega
      rw [this]
      show some (Array.replicate 128 (Value.int .u8 0))[j]! = zeros[j]?.map bv
      rw [hj2, getElem!_pos _ _ (by simpa using hj)]
      simp [bv]
    · have hi' : i < n := hi
      rw [zRow_get (by omega)]
      have : i % (#[Value.bool false] : Array Value).size = 0 := Nat.mod_one i
      rw [this]
      rfl
    · obtain ⟨a, b, c⟩ := ne
      exact ⟨by show h3.size ≠ b1; omega, by show h3.size ≠ b2; omega, by show h3.size ≠ b3; omega, a, b, c⟩
    · exact ⟨Int.le_refl _, by show (0 : Int) ≤ _; decide⟩
  · have := e.size
    rintro i (rfl | rfl | rfl | rfl)
    · exact this
    · exact ge.1
    · exact ge.2.1
    · exact ge.2.2
theorem mkSs_b {β : Type} {h : Heap} {Q : β → Heap → Prop} {e sz bytes : Nat} {z : Array Value} {n : Nat} {f : Sl → M β} (hb : bytes * n ≤ 281474976710656) (hn : n ≤ 16384)
    (H : ∀ h', Ext h h' → h'.size = h.size + 1 → h'[h.size]? = some (.cells (zRow z (n * sz)) e (0, 0)) → (f ⟨some ⟨h.size, 0, none⟩, n, n⟩).wp h' Q) : (mkS e sz bytes z (n : Int) (n : Int) >>= f).wp h Q := by
  exact ⟨by omega, by omega, by rw [← Int.natCast_mul]; omega, by omega, H _ (Ext.push _ _) (by simp) get_push_eq⟩
theorem dnew_spec {h : Heap} {Q : Option Addr × Int → Heap → Prop} {x : Int} (hbad : x < 1 ∨ 16384 < x → Q (none, 1) h) (hq : ∀ n : Nat, x = (n : Int) → 1 ≤ n → n ≤ 16384 → ∀ h' F, Ext h h' → DkAt h' F (Dk.new n) → (∀ i, F.on i → h.size ≤ i) → Q (some ⟨F.p, 0, none⟩, 0) h') : (disk_New x).wp h Q := by
  unfold disk_New
  have hor : (M.ite (decide (x < 1)) (M.pure true) (M.pure (decide (x > 16384))) : M Bool) = M.pure (decide (x < 1 ∨ 16384 < x)) := by
    by_cases h0 : x < 1
    · simp [h0, M.ite]
    · simp [h0, M.ite]
  rw [hor]
  refine pure_b (ite_w (fun hc => pure_w (hbad (of_decide_eq_true hc))) (fun hc => ?_))
  have hx : ¬ (x < 1 ∨ 16384 < x) := of_decide_eq_false hc
  obtain ⟨n, rfl⟩ : ∃ k : Nat, x = (k : Int) := ⟨x.toNat, by omega⟩
  have hn : n ≤ 16384 := by omega
  have hq' := hq n rfl (by omega) hn
  have m1 : 128 * n ≤ 281474976710656 := by omega
  have m2 : 1 * n ≤ 281474976710656 := by omega
  refine both_b (bind_w (mkSs_b m1 hn (fun h1 e1 s1 g1 => ?_))) (both_b (bind_w (mkSs_b m2 hn (fun h1 e1 s1 g1 => ?_))) (bind_w (mkMap_r (key := kI) (dec := dS) (fun h1 e1 s1 g1 => ?_))))
  · refine both_w (mkSs_b m2 hn (fun h2 e2 s2 g2 => ?_)) (mkMap_r (key := kI) (dec := dS) (fun h2 e2 s2 g2 => ?_))
    · refine mkMap_r (key := kI) (dec := dS) (fun h3 e3 s3 g3 => ?_)
      exact pure_w (new_tail hn ((e1.trans e2).trans e3) (e3.blk (e2.blk g1)) (e3.blk g2) g3 (by omega) (by omega) hq')
    · refine mkSs_b m2 hn (fun h3 e3 s3 g3 => ?_)
      exact pure_w (new_tail hn ((e1.trans e2).trans e3) (e3.blk (e2.blk g1)) g3 (g2.ext (e3.same _ (by omega))) (by omega) (by omega) hq')
  · refine both_w (mkSs_b m1 hn (fun h2 e2 s2 g2 => ?_)) (mkMap_r (key := kI) (dec := dS) (fun h2 e2 s2 g2 => ?_))
    · refine mkMap_r (key := kI) (dec := dS) (fun h3 e3 s3 g3 => ?_)
      exact pure_w (new_tail hn ((e1.trans e2).trans e3) (e3.blk g2) (e3.blk (e2.blk g1)) g3 (by omega) (by omega) hq')
    · refine mkSs_b m1 hn (fun h3 e3 s3 g3 => ?_)
      exact pure_w (new_tail hn ((e1.trans e2).trans e3) g3 (e3.blk (e2.blk g1)) (g2.ext (e3.same _ (by omega))) (by omega) (by omega) hq')
  · refine both_w (mkSs_b m1 hn (fun h2 e2 s2 g2 => ?_)) (mkSs_b m2 hn (fun h2 e2 s2 g2 => ?_))
    · refine mkSs_b m2 hn (fun h3 e3 s3 g3 => ?_)
      exact pure_w (new_tail hn ((e1.trans e2).trans e3) (e3.blk g2) g3 ((g1.ext (e2.same _ (by omega))).ext (e3.same _ (by omega))) (by omega) (by omega) hq')
    · refine mkSs_b m1 hn (fun h3 e3 s3 g3 => ?_)
      exact pure_w (new_tail hn ((e1.trans e2).trans e3) g3 (e3.blk g2) ((g1.ext (e2.same _ (by omega))).ext (e3.same _ (by omega))) (by omega) (by omega) hq')
end Gx
