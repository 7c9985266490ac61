/- Own proofs: what those Lean programs compute. No condition. -/
import Derived.Test.YtklegajjmeajiaaHRef5
import Derived.Test.YtklegajjmeajiaaHLaw12
namespace Gx
open Go
set_option linter.unusedVariables false
set_option linter.unusedSimpArgs false
theorem rnew_tail {h h3 : Heap} {Q : Option Addr × Int → Heap → Prop} {n b1 b2 : Nat} (hn1 : 1 ≤ n) (hn : n ≤ 16384) (e : Ext h h3) (h1 : h3[b1]? = some (.cells (zRow (Array.replicate 128 (.int .u8 0)) (n * 128)) ty_api_Sector (0, 0)))
    (h2 : h3[b2]? = some (.cells (zRow #[.bool false] (n * 1)) ty_bool (0, 0))) (ne : b1 ≠ b2) (ge : h.size ≤ b1 ∧ h.size ≤ b2)
    (hq : ∀ h' G, Ext h h' → RkAt h' G (Dk.new n) → (∀ i, G.on i → h.size ≤ i) → Q (some ⟨G.p, 0, none⟩, 0) h') :
    ((do
      let x16_23 ← mkB ty_rambleref04_Disk (#[(⟨some ⟨b1, 0, none⟩, n, n⟩ : Sl).v, (⟨some ⟨b2, 0, none⟩, n, n⟩ : Sl).v, .slice none 0 0, .bool false, .int .i64 0, .int .i64 0] : Array Value)
      M.pure (some x16_23, 0)) : M (Option Addr × Int)).wp h3 Q := by
  refine mkB_b (pure_w (hq _ ⟨h3.size, b1, b2, Sl.nil, n, n⟩ (e.trans (Ext.push _ _)) ?_ ?_))
  · have l1 := blk_lt h1
    have l2 := blk_lt h2
    have E := Ext.push h3 (.cells (#[(⟨some ⟨b1, 0, none⟩, n, n⟩ : Sl).v, (⟨some ⟨b2, 0, none⟩, n, n⟩ : Sl).v, .slice none 0 0, .bool false, .int .i64 0, .int .i64 0] : Array Value) ty_rambleref04_Disk)
    refine ⟨get_push_eq, ⟨_, _, E.blk h1, fun i hi j hj => ?_⟩, ⟨_, _, E.blk h2, fun i hi => ?_⟩, Gw.nil _ _ _, fun _ => rfl, hn1, hn, fun p hp => (by cases hp), List.nodup_nil, ?_, ?_⟩
    · have hi' : i < n := hi
      rw [zRow_get (by omega)]
      have hj2 : zeros[j]? = some 0 := by rw [zeros, List.getElem?_replicate, if_pos hj]
      have : (i * 128 + j) % (Array.replicate 128 (Value.int .u8 0)).size = j := by rw [Array.size_replicate]; omega
      rw [this]
      show some (Array.replicate 128 (Value.int .u8 0))[j]! = zeros[j]?.map bv
      rw [hj2, getElem!_pos _ _ (by simpa using hj)]
      simp [bv]
    · have hi' : i < n := hi
      rw [zRow_get (by omega)]
      have : i % (#[Value.bool false] : Array Value).size = 0 := Nat.mod_one i
      rw [this]
      rfl
    · exact ⟨by show h3.size ≠ b1; omega, by show h3.size ≠ b2; omega, fun ⟨a, ha, _⟩ => by cases ha⟩
    · exact ⟨Int.le_refl _, by show (0 : Int) ≤ _; decide⟩
  · have := e.size
    rintro i (rfl | rfl | rfl | ⟨a, ha, _⟩)
    · exact this
    · exact ge.1
    · exact ge.2
    · cases ha
theorem rnew_spec {h : Heap} {Q : Option Addr × Int → Heap → Prop} {x : Int} (hbad : x < 1 ∨ 16384 < x → Q (none, 1) h) (hq : ∀ n : Nat, x = (n : Int) → 1 ≤ n → n ≤ 16384 → ∀ h' G, Ext h h' → RkAt h' G (Dk.new n) → (∀ i, G.on i → h.size ≤ i) → Q (some ⟨G.p, 0, none⟩, 0) h') : (rambleref04_New x).wp h Q := by
  unfold rambleref04_New
  have hor : (M.ite (decide (x < 1)) (M.pure true) (M.pure (decide (x > 16384))) : M Bool) = M.pure (decide (x < 1 ∨ 16384 < x)) := by
    by_cases h0 : x < 1
    · simp [h0, M.ite]
    · simp [h0, M.ite]
  rw [hor]
  refine pure_b (ite_w (fun hc => pure_w (hbad (of_decide_eq_true hc))) (fun hc => ?_))
  have hx : ¬ (x < 1 ∨ 16384 < x) := of_decide_eq_false hc
  obtain ⟨n, rfl⟩ : ∃ k : Nat, x = (k : Int) := ⟨x.toNat, by omega⟩
  have hn : n ≤ 16384 := by omega
  have hq' := hq n rfl (by omega) hn
  have m1 : 128 * n ≤ 281474976710656 := by omega
  have m2 : 1 * n ≤ 281474976710656 := by omega
  refine both_b (bind_w (mkSs_b m1 hn (fun h1 e1 s1 g1 => ?_))) (bind_w (mkSs_b m2 hn (fun h1 e1 s1 g1 => ?_)))
  · refine mkSs_b m2 hn (fun h2 e2 s2 g2 => ?_)
    exact pure_w (rnew_tail (by omega) hn (e1.trans e2) (e2.blk g1) g2 (by omega) (by omega) hq')
  · refine mkSs_b m1 hn (fun h2 e2 s2 g2 => ?_)
    exact pure_w (rnew_tail (by omega) hn (e1.trans e2) g2 (e2.blk g1) (by omega) (by omega) hq')
section
variable {h : Heap} {F : Fp} {G : Rp} {D R : Dk}
def Dk.put (D : Dk) (a k n : Int) (pay : List UInt8) : Dk × Int := if badF k n pay then (D, 1) else D.write a (sealed k n pay)
def Dk.rput (D : Dk) (a k n : Int) (pay : List UInt8) : Dk × Int := if badF k n pay then (D, 1) else D.rwrite a (sealed k n pay)
theorem dput_spec {Q : Int → Heap → Prop} {x2 : Array Value} {a k n : Int} {s : Sl} {pay : List UInt8} (H : DkAt h F D) (hx : x2 = fcells k n s) (hb : Bys h s pay) (hlen : pay.length ≤ 9223372036854775807) (hn : n ≤ 9223372036854775807)
    (hq : ∀ h', Kp F h h' → DkAt h' F (D.put a k n pay).1 → Q (D.put a k n pay).2 h') : (sector_Put (some ⟨F.p, 0, none⟩) a x2).wp h Q := by
  subst hx
  unfold sector_Put
  refine mkF (k := k) (n := n) (s := s) (Ext.refl h) (fun h1 _ e1 s1 f1 => ?_)
  refine ldF f1 ?_
  refine bind_w (seal_spec rfl (hb.ext e1) hlen hn (fun h2 e2 => ?_))
  have E2 := e1.trans e2
  rcases sealOut_cases k n pay hn with ⟨hbad, hs⟩ | ⟨hbad, hs, hl⟩
  · rw [hs]
    refine mkZ E2 (fun h3 g3 e3 s3 b3 => ?_)
    refine need_b (by rw [bcells_size]; rfl) ?_
    refine stB128 b3 rfl rfl (fun h4 u4 b4 => ?_)
    have e : D.put a k n pay = (D, 1) := by rw [Dk.put, if_pos hbad]
    rw [e] at hq
    have E4 := e3.upd u4 E2.size
    exact iteT rfl (pure_w (hq _ (Kp.ext E4) (H.ext E4)))
  · rw [hs]
    refine mkZ E2 (fun h3 g3 e3 s3 b3 => ?_)
    refine need_b (by rw [bcells_size]; exact hl) ?_
    refine stB128 b3 rfl hl (fun h4 u4 b4 => ?_)
    have e : D.put a k n pay = D.write a (sealed k n pay) := by rw [Dk.put, hbad]; rfl
    rw [e] at hq
    have E4 := e3.upd u4 E2.size
    refine ite_w (fun h => by cases h) (fun _ => ?_)
    refine ldB128 b4 hl ?_
    refine bind_w (dwrite_spec (H.ext E4) rfl hl (fun h5 k5 H5 => pure_w (hq h5 ((Kp.ext E4).trans k5) H5)))
theorem rput_spec {Q : Int → Heap → Prop} {x2 : Array Value} {a k n : Int} {s : Sl} {pay : List UInt8} (H : RkAt h G R) (hx : x2 = fcells k n s) (hb : Bys h s pay) (hlen : pay.length ≤ 9223372036854775807) (hn : n ≤ 9223372036854775807)
    (hq : ∀ h' G', Km (fun i => i = G.p) h h' → (∀ i, G'.on i → G.on i ∨ h.size ≤ i) → G'.p = G.p → RkAt h' G' (R.rput a k n pay).1 → Q (R.rput a k n pay).2 h') : (rambleref05_Put (some ⟨G.p, 0, none⟩) a x2).wp h Q := by
  subst hx
  unfold rambleref05_Put
  refine mkF (k := k) (n := n) (s := s) (Ext.refl h) (fun h1 _ e1 s1 f1 => ?_)
  refine ldF f1 ?_
  refine bind_w (rseal_spec rfl (hb.ext e1) hlen hn (fun h2 e2 => ?_))
  have E2 := e1.trans e2
  rcases sealOut_cases k n pay hn with ⟨hbad, hs⟩ | ⟨hbad, hs, hl⟩
  · rw [hs]
    refine mkZ E2 (fun h3 g3 e3 s3 b3 => ?_)
    refine need_b (by rw [bcells_size]; rfl) ?_
    refine stB128 b3 rfl rfl (fun h4 u4 b4 => ?_)
    have e : R.rput a k n pay = (R, 1) := by rw [Dk.rput, if_pos hbad]
    rw [e] at hq
    have E4 := e3.upd u4 E2.size
    exact iteT rfl (pure_w (hq _ G (Km.ext E4) (fun i hi => .inl hi) rfl (H.ext E4)))
  · rw [hs]
    refine mkZ E2 (fun h3 g3 e3 s3 b3 => ?_)
    refine need_b (by rw [bcells_size]; exact hl) ?_
    refine stB128 b3 rfl hl (fun h4 u4 b4 => ?_)
    have e : R.rput a k n pay = R.rwrite a (sealed k n pay) := by rw [Dk.rput, hbad]; rfl
    rw [e] at hq
    have E4 := e3.upd u4 E2.size
    refine ite_w (fun h => by cases h) (fun _ => ?_)
    refine ldB128 b4 hl ?_
    refine bind_w (rwrite_spec (H.ext E4) rfl hl (fun h5 G5 k5 on5 p5 H5 => pure_w (hq h5 G5 ((Km.ext E4).trans k5) (fun i hi => ?_) p5 H5)))
    rcases on5 i hi with h1 | h1
    · exact .inl h1
    · exact .inr (Nat.le_trans E4.size h1)
def gout (r : List UInt8 × Int) (kind n : Int) : List UInt8 × Int := if r.2 ≠ 0 then ([], r.2) else if openOk r.1 then (if k0 r.1 ≠ kind ∨ n0 r.1 ≠ n then ([], 50) else (p0 r.1, 0)) else ([], 50)
/-- what both Get come to, behind their Read -/
theorem get_tail {Q : Sl × Int → Heap → Prop} {h1 : Heap} {r : List UInt8 × Int} {kind n : Int} {op : Array Value → M (Array Value × Int)} (e1 : Ext h h1) (hl : r.1.length = 128)
    (hop : ∀ (x : List UInt8) (H : Heap) (P : Array Value × Int → Heap → Prop), x.length = 128 → (openOk x = false → ∀ h', Ext H h' → P (fcells 0 0 Sl.nil, 50) h') → (openOk x = true → ∀ h' s, Ext H h' → Bys h' s (p0 x) → P (fcells (k0 x) (n0 x) s, 0) h') → (op (bcells x)).wp H P)
    (hq : ∀ h' s, Ext h h' → Bys h' s (gout r kind n).1 → Q (s, (gout r kind n).2) h') :
    ((do
      let x10_4 ← mkB ty_api_Sector (Array.replicate 128 (.int .u8 0) : Array Value)
      M.need ((bcells r.1).size = 128)
      stG x10_4 (bcells r.1)
      M.ite (r.2 != 0) (do
        M.pure (Sl.nil, r.2)
        ) (do
        let x23_10 ← ldG 128 x10_4
        let x24_11 ← op x23_10
        let x12_12 ← mkB ty_api_Frame (#[.int .i64 0, .int .i64 0, .slice none 0 0] : Array Value)
        M.need (x24_11.1.size = 3)
        stG x12_12 x24_11.1
        let x34_16 ← M.ite (x24_11.2 != 0) (do
          M.pure true
          ) (do
          let x31_17 ← ldI .i64 ((x12_12).add 0)
          M.pure (x31_17 != kind)
          )
        let x40_18 ← M.ite x34_16 (do
          M.pure true
          ) (do
          let x37_19 ← ldI .i64 ((x12_12).add 1)
          M.pure (x37_19 != n)
          )
        M.ite x40_18 (do
          M.pure (Sl.nil, 50)
          ) (do
          let x42_22 ← ldL ((x12_12).add 2)
          M.pure (x42_22, 0)
          )
        )) : M (Sl × Int)).wp h1 Q := by
  refine mkZ e1 (fun h2 g2 e2 s2 b2 => ?_)
  refine need_b (by rw [bcells_size]; exact hl) ?_
  refine stB128 b2 rfl hl (fun h3 u3 b3 => ?_)
  have E3 := e2.upd u3 e1.size
  refine ite_w (fun hc => ?_) (fun hc => ?_)
  · have h0 : r.2 ≠ 0 := by simpa using hc
    have e : gout r kind n = ([], r.2) := by rw [gout, if_pos h0]
    rw [e] at hq
    exact pure_w (hq h3 Sl.nil E3 (Bys.nil _))
  · have h0 : ¬ r.2 ≠ 0 := by simpa using hc
    refine ldB128 b3 hl ?_
    refine bind_w (hop _ _ _ hl (fun ho h4 e4 => ?_) (fun ho h4 s e4 b4 => ?_))
    · have e : gout r kind n = ([], 50) := by rw [gout, if_neg h0, ho]; rfl
      rw [e] at hq
      have E4 := E3.trans e4
      refine mkF (k := 0) (n := 0) (s := Sl.nil) E4 (fun h5 g5 e5 s5 f5 => ?_)
      refine need_b rfl ?_
      refine stF (k' := 0) (n' := 0) (s' := Sl.nil) f5 (fun h6 u6 f6 => ?_)
      refine ite_b (fun _ => pure_b ?_) (fun h => by cases h)
      refine ite_b (fun _ => pure_b ?_) (fun h => by cases h)
      refine ite_w (fun _ => ?_) (fun h => by cases h)
      exact pure_w (hq h6 Sl.nil (e5.upd u6 E4.size) (Bys.nil _))
    · have E4 := E3.trans e4
      refine mkF (k := 0) (n := 0) (s := Sl.nil) E4 (fun h5 g5 e5 s5 f5 => ?_)
      refine need_b rfl ?_
      refine stF (k' := k0 r.1) (n' := n0 r.1) (s' := s) f5 (fun h6 u6 f6 => ?_)
      have E6 := e5.upd u6 E4.size
      have b6 := b4.ext (g5.upd u6 (Nat.le_refl _))
      have hg : gout r kind n = if k0 r.1 ≠ kind ∨ n0 r.1 ≠ n then ([], 50) else (p0 r.1, 0) := by rw [gout, if_neg h0, ho]; rfl
      refine ite_b (fun h => by cases h) (fun _ => ?_)
      refine assoc_b (ldI_b (n := k0 r.1) (by rw [add_mk, f6.cell]; rfl) (pure_b ?_))
      refine ite_b (fun hk => pure_b ?_) (fun hk => ?_)
      · have hk' : k0 r.1 ≠ kind := by simpa using hk
        rw [if_pos (.inl hk')] at hg
        rw [hg] at hq
        exact iteT rfl (pure_w (hq h6 Sl.nil E6 (Bys.nil _)))
      · have hk' : ¬ k0 r.1 ≠ kind := by simpa using hk
        refine assoc_b (ldI_b (n := n0 r.1) (by rw [add_mk, f6.cell]; rfl) (pure_b ?_))
        refine ite_w (fun hn => ?_) (fun hn => ?_)
        · have hn' : n0 r.1 ≠ n := by simpa using hn
          rw [if_pos (.inr hn')] at hg
          rw [hg] at hq
          exact pure_w (hq h6 Sl.nil E6 (Bys.nil _))
        · have hn' : ¬ n0 r.1 ≠ n := by simpa using hn
          rw [if_neg (by rintro (h | h); exact hk' h; exact hn' h)] at hg
          rw [hg] at hq
          refine ldL_b (n := s) (by rw [add_mk, f6.cell]; rfl) (pure_w (hq h6 s E6 b6))
theorem dget_spec {Q : Sl × Int → Heap → Prop} {a kind n : Int} (H : DkAt h F D) (hq : ∀ h' s, Ext h h' → Bys h' s (gout (D.read a) kind n).1 → Q (s, (gout (D.read a) kind n).2) h') : (sector_Get (some ⟨F.p, 0, none⟩) a kind n).wp h Q := by
  unfold sector_Get
  refine bind_w (dread_spec H (fun h1 e1 => ?_))
  exact get_tail e1 (dread_len H a) (fun x H P hx h1 h2 => open_spec rfl hx h1 h2) hq
theorem rread_len (H : RkAt h G R) (n : Int) : (R.read n).1.length = 128 := by
  unfold Dk.read
  split
  · rfl
  · split
    · rfl
    · cases hx : mlk n R.c with
      | some v => exact (H.clen _ (mlk_mem hx)).1
      | none =>
        show (if R.t n.toNat then (zeros, (40 : Int)) else (R.s n.toNat, 0)).1.length = 128
        split
        · rfl
        · exact H.lens _
theorem rget_spec {Q : Sl × Int → Heap → Prop} {a kind n : Int} (H : RkAt h G R) (hq : ∀ h' s, Ext h h' → Bys h' s (gout (R.read a) kind n).1 → Q (s, (gout (R.read a) kind n).2) h') : (rambleref05_Get (some ⟨G.p, 0, none⟩) a kind n).wp h Q := by
  unfold rambleref05_Get
  refine bind_w (rread_spec H (fun h1 e1 => ?_))
  exact get_tail e1 (rread_len H a) (fun x H P hx h1 h2 => ropen_spec rfl hx h1 h2) hq
theorem bytes_eq_spec {Q : Bool → Heap → Prop} {s s' : Sl} {l l' : List UInt8} (hb : Bys h s l) (hb' : Bys h s' l') (hq : Q (decide (l = l')) h) : (bytes_Equal s s').wp h Q := by
  unfold bytes_Equal
  refine b2s_b hb.len.symm hb.reads (b2s_b hb'.len.symm hb'.reads (pure_w ?_))
  rw [sEq_mk]
  exact hq
theorem put_none {Q : Int → Heap → Prop} (hq : ∀ h', Ext h h' → Q 2 h') : (sector_Put (none : Option Addr) 0 (#[.int .i64 1, .int .i64 0, .slice none 0 0] : Array Value)).wp h Q := by
  unfold sector_Put
  refine mkF (k := 1) (n := 0) (s := Sl.nil) (Ext.refl h) (fun h1 _ e1 s1 f1 => ?_)
  refine ldF f1 ?_
  refine bind_w (seal_spec (k := 1) (n := 0) (s := Sl.nil) (pay := []) rfl (Bys.nil _) (by decide) (by decide) (fun h2 e2 => ?_))
  have E2 := e1.trans e2
  have hs : sealOut 1 0 [] = (bcells (sealed 1 0 []), 0) := rfl
  have hl : (sealed 1 0 []).length = 128 := sealed_length (by decide)
  rw [hs]
  refine mkZ E2 (fun h3 g3 e3 s3 b3 => ?_)
  refine need_b (by rw [bcells_size]; exact hl) ?_
  refine stB128 b3 rfl hl (fun h4 u4 b4 => ?_)
  have E4 := e3.upd u4 E2.size
  refine ite_w (fun h => by cases h) (fun _ => ?_)
  refine ldB128 b4 hl ?_
  unfold disk_Disk_Write
  refine bind_w (mkB_b ?_)
  have E5 := E4.trans (Ext.push h4 (.cells (bcells (sealed 1 0 [])) ty_api_Sector))
  refine bind_w ?_
  unfold disk_Disk_can
  refine bind_w ?_
  unfold disk_Disk_none
  refine ite_b (fun _ => pure_b (pure_w ?_)) (fun h => by cases h)
  refine ite_w (fun _ => pure_w ?_) (fun h => by cases h)
  exact iteT rfl (pure_w (pure_w (hq _ E5)))
end
end Gx
