/- Own proofs: what those Lean programs compute. No condition. -/
import Derived.Test.YtklegajjmeajiaaHBegun
import Derived.Test.YtklegajjmeajiaaAF3
namespace Gx
open Go
set_option linter.unusedVariables false
theorem open_zeros : openOk zeros = false := by
  have h : badF (k0 zeros) (n0 zeros) (p0 zeros) = true := by
    have : k0 zeros = 0 := by simp [k0, zeros]
    rw [this]
    unfold badF
    simp
  unfold openOk
  rw [h]
  exact Bool.false_and _
theorem sealOut_cases (k n : Int) (pay : List UInt8) (hn : n ≤ 9223372036854775807) :
    (badF k n pay = true ∧ sealOut k n pay = (bcells zeros, 1)) ∨ (badF k n pay = false ∧ sealOut k n pay = (bcells (sealed k n pay), 0) ∧ (sealed k n pay).length = 128) := by
  cases hb : badF k n pay with
  | true => exact .inl ⟨rfl, by simp [sealOut, hb]⟩
  | false =>
    refine .inr ⟨rfl, by simp [sealOut, hb], sealed_length ?_⟩
    unfold badF at hb
    simp only [Bool.or_eq_false_iff, decide_eq_false_iff_not] at hb
    omega
theorem back_spec {x0 : Array Value} {k n : Int} {s : Sl} {pay : List UInt8} {h : Heap} (hx : x0 = fcells k n s) (hb : Bys h s pay) (hlen : pay.length ≤ 9223372036854775807) (hn : n ≤ 9223372036854775807) :
    (ramblelaw05_SectorBack x0).wp h (fun r h' => r = true ∧ Ext h h') := by
  subst hx
  unfold ramblelaw05_SectorBack
  refine mkF (k := k) (n := n) (s := s) (Ext.refl h) (fun h1 _ e1 s1 f1 => ?_)
  refine ldF f1 ?_
  refine bind_w (seal_spec rfl (hb.ext e1) hlen hn (fun h2 e2 => ?_))
  have f2 := f1.ext e2
  have E2 := e1.trans e2
  obtain ⟨L, hL, hLl, c, hc, hcase⟩ : ∃ L, (sealOut k n pay).1 = bcells L ∧ L.length = 128 ∧ ∃ c, (sealOut k n pay).2 = c ∧ ((c = 1) ∨ (c = 0 ∧ badF k n pay = false ∧ L = sealed k n pay)) := by
    rcases sealOut_cases k n pay hn with ⟨h1, h2⟩ | ⟨h1, h2, h3⟩
    · exact ⟨zeros, by rw [h2], rfl, 1, by rw [h2], .inl rfl⟩
    · exact ⟨_, by rw [h2], h3, 0, by rw [h2], .inr ⟨rfl, h1, rfl⟩⟩
  rw [hL, hc]
  refine mkZ E2 (fun h3 g3 e3 s3 b3 => ?_)
  refine need_b (by rw [bcells_size]; exact hLl) ?_
  refine stB128 b3 rfl hLl (fun h4 u4 b4 => ?_)
  have E4 := e3.upd u4 E2.size
  have f4 := (f2.ext g3).upd u4 (by have := e1.size; have := e2.size; omega)
  rw [zeros_cells]
  refine bind_w (open_spec rfl rfl (fun _ h5 e5 => ?_) (fun ho => by rw [open_zeros] at ho; cases ho))
  have E5 := E4.trans e5
  refine mkF (k := 0) (n := 0) (s := Sl.nil) E5 (fun h6 g6 e6 s6 f6 => ?_)
  refine need_b rfl ?_
  refine stF (k' := 0) (n' := 0) (s' := Sl.nil) f6 (fun h7 u7 f7 => ?_)
  have E7 := e6.upd u7 E5.size
  refine bind_w (begun_spec (fun h8 e8 => ?_))
  have E8 := E7.trans e8
  have f8 := (((f4.ext e5).ext g6).upd u7 (by have := e1.size; have := e2.size; have := e5.size; have := u4.size; omega)).ext e8
  have b8 : BB h8 h2.size ty_api_Sector L := (((b4.ext e5).ext g6).upd u7 (by have := e5.size; have := u4.size; omega)).ext e8
  refine ite_b (fun h => by cases h) (fun _ => pure_b ?_)
  refine ite_w (fun h => by cases h) (fun _ => ?_)
  refine ite_w (fun hh => ?_) (fun hh => ?_)
  · rcases hcase with rfl | ⟨rfl, _⟩
    · exact pure_w ⟨rfl, E8⟩
    · cases hh
  · rcases hcase with rfl | ⟨rfl, hbad, rfl⟩
    · cases hh
    · refine ldB128 b8 hLl ?_
      have hok := open_sealed hbad hn
      obtain ⟨k1, _, n1, p1⟩ := sealed_fields hbad hn
      refine bind_w (open_spec rfl hLl (fun ho => by rw [hok] at ho; cases ho) (fun _ h9 r e9 b9 => ?_))
      rw [k1, n1]; rw [p1] at b9
      have E9 := E8.trans e9
      refine mkF (k := 0) (n := 0) (s := Sl.nil) E9 (fun h10 g10 e10 s10 f10 => ?_)
      refine need_b rfl ?_
      refine stF (k' := k) (n' := n) (s' := r) f10 (fun h11 u11 f11 => ?_)
      have E11 := e10.upd u11 E9.size
      refine ite_b (fun _ => ?_) (fun h => by cases h)
      refine assoc_b (ldF f11 ?_)
      have hlt8 : h.size < h9.size := by have := e1.size; have := e2.size; have := E8.size; have := e9.size; have := blk_lt (f8.ext e9); exact this
      refine assoc_b (ldF (((f8.ext e9).ext g10).upd u11 (by omega)) ?_)
      refine assoc_b (bind_w (same_spec rfl rfl (b9.ext (g10.upd u11 (Nat.le_refl _))) (hb.ext E11) (fun h12 e12 => ?_)))
      exact pure_b (pure_w ⟨by simp, E11.trans e12⟩)
theorem frames_spec {x0 x1 : Array Value} {k n : Int} {s : Sl} {pay l : List UInt8} {h : Heap} (hx : x0 = fcells k n s) (hy : x1 = bcells l) (hl : l.length = 128) (hb : Bys h s pay) (hlen : pay.length ≤ 9223372036854775807) (hn : n ≤ 9223372036854775807) :
    (ramblelaw05_SectorFrames x0 x1).wp h (fun r h' => r = true ∧ Ext h h') := by
  subst hx; subst hy
  unfold ramblelaw05_SectorFrames
  refine mkF (k := k) (n := n) (s := s) (Ext.refl h) (fun h1 _ e1 s1 f1 => ?_)
  refine mkS128 (l := l) e1 (fun h2 e2 E2 s2 b2 => ?_)
  have f2 := f1.ext e2
  refine ldF f2 ?_
  refine bind_w (seal_spec rfl (hb.ext E2) hlen hn (fun h3 e3 => ?_))
  obtain ⟨L, hL, hLl, c, hc⟩ : ∃ L, (sealOut k n pay).1 = bcells L ∧ L.length = 128 ∧ ∃ c, (sealOut k n pay).2 = c := by
    rcases sealOut_cases k n pay hn with ⟨h1, h2⟩ | ⟨h1, h2, h3⟩
    · exact ⟨zeros, by rw [h2], rfl, 1, by rw [h2]⟩
    · exact ⟨_, by rw [h2], h3, 0, by rw [h2]⟩
  have hsz := e1.size
  have hsz3 := e3.size
  have E3 := E2.trans e3
  rw [hL, hc]
  refine mkZ E3 (fun h4 e4 E4 s4 b4 => ?_)
  refine need_b (by rw [bcells_size]; exact hLl) ?_
  refine stB128 b4 rfl hLl (fun h5 u5 b5 => ?_)
  have E5 := E4.upd u5 E3.size
  have E25 : Ext h2 h5 := (e3.trans e4).upd u5 hsz3
  have f5 := f2.ext E25
  refine ldF f5 ?_
  refine bind_w (rseal_spec rfl (hb.ext E5) hlen hn (fun h6 e6 => ?_))
  rw [hL, hc]
  have E6 := E5.trans e6
  refine mkZ E6 (fun h7 e7 E7 s7 b7 => ?_)
  refine need_b (by rw [bcells_size]; exact hLl) ?_
  refine stB128 b7 rfl hLl (fun h8 u8 b8 => ?_)
  have E8 := E7.upd u8 E6.size
  have E58 : Ext h5 h8 := (e6.trans e7).upd u8 e6.size
  have E28 := E25.trans E58
  have c8 := b5.ext E58
  refine ldB128 (b2.ext E28) hl ?_
  -- what both open functions tell
  suffices hs : ∀ (kk nn : Int) (cc : Int) (pp : List UInt8) (r1 : Sl) (h9 : Heap), Ext h8 h9 → Bys h9 r1 pp →
      (∀ (Q : Array Value × Int → Heap → Prop) (H : Heap), (∀ h' r2, Ext H h' → Bys h' r2 pp → Q (fcells kk nn r2, cc) h') → (rambleref05_Open (bcells l)).wp H Q) →
      ((do
        let x9_17 ← mkB ty_api_Frame (#[.int .i64 0, .int .i64 0, .slice none 0 0] : Array Value)
        M.need ((fcells kk nn r1).size = 3)
        stG x9_17 (fcells kk nn r1)
        let x29_20 ← ldG 128 ⟨h1.size, 0, none⟩
        let x30_21 ← rambleref05_Open x29_20
        let x11_22 ← mkB ty_api_Frame (#[.int .i64 0, .int .i64 0, .slice none 0 0] : Array Value)
        M.need (x30_21.1.size = 3)
        stG x11_22 x30_21.1
        let x33_25 ← ramblelaw05_begun
        M.ite x33_25 (do
          let x35_27 ← ldG 128 ⟨h3.size, 0, none⟩
          let x36_28 ← ldG 128 ⟨h6.size, 0, none⟩
          let x37_29 ← eqA .u8 128 x35_27 x36_28
          M.ite x37_29 (do
            M.ite (c == c) (do
              let x45_32 ← ldG 3 x9_17
              let x46_33 ← ldG 3 x11_22
              let x47_34 ← rambleref05_Same x45_32 x46_33
              M.ite x47_34 (do
                M.ite (cc == x30_21.2) (do
                  let x56_37 ← ldL ((⟨h.size, 0, none⟩ : Addr).add 2)
                  let x59_38 ← ldL ((⟨h.size, 0, none⟩ : Addr).add 2)
                  let x57_39 ← sector_Sum x56_37
                  chk (fun H : Heap => (hcell H ((⟨h.size, 0, none⟩ : Addr).add 2) = some ((x56_37 : Sl).v)) ∧ (hcell H ((⟨h.size, 0, none⟩ : Addr).add 2) = some ((x59_38 : Sl).v)))
                  let x60_40 ← rambleref05_Sum x59_38
                  ramblelaw05_SectorFrames_j1 (x57_39 == x60_40)
                  ) (do
                  ramblelaw05_SectorFrames_j1 false
                  )
                ) (do
                ramblelaw05_SectorFrames_j1 false
                )
              ) (do
              ramblelaw05_SectorFrames_j1 false
              )
            ) (do
            ramblelaw05_SectorFrames_j1 false
            )
          ) (do
          ramblelaw05_SectorFrames_j1 false
          )) : M Bool).wp h9 (fun r h' => r = true ∧ Ext h h') by
    refine bind_w (open_spec rfl hl (fun ho h9 e9 => ?_) (fun ho h9 r1 e9 b9 => ?_))
    · exact hs 0 0 50 [] Sl.nil h9 e9 (Bys.nil _) (fun Q H hq => ropen_spec rfl hl (fun _ h' e' => hq h' Sl.nil e' (Bys.nil _)) (fun ho' => by rw [ho] at ho'; cases ho'))
    · exact hs (k0 l) (n0 l) 0 (p0 l) r1 h9 e9 b9 (fun Q H hq => ropen_spec rfl hl (fun ho' => by rw [ho] at ho'; cases ho') (fun _ h' r2 e' b' => hq h' r2 e' b'))
  intro kk nn cc pp r1 h9 e9 b9 hop
  have E9 := E8.trans e9
  refine mkF (k := 0) (n := 0) (s := Sl.nil) E9 (fun h10 e10 E10 s10 f10 => ?_)
  refine need_b rfl ?_
  refine stF (k' := kk) (n' := nn) (s' := r1) f10 (fun h11 u11 f11 => ?_)
  have E911 := e10.upd u11 (Nat.le_refl _)
  have E811 := e9.trans E911
  have E11 := E8.trans E811
  have E211 := E28.trans E811
  refine ldB128 (b2.ext E211) hl ?_
  refine bind_w (hop _ _ (fun h12 r2 e12 b12 => ?_))
  have E12 := E11.trans e12
  refine mkF (k := 0) (n := 0) (s := Sl.nil) E12 (fun h13 e13 E13 s13 f13 => ?_)
  refine need_b rfl ?_
  refine stF (k' := kk) (n' := nn) (s' := r2) f13 (fun h14 u14 f14 => ?_)
  have E1214 := e13.upd u14 (Nat.le_refl _)
  have E1114 := e12.trans E1214
  refine bind_w (begun_spec (fun h15 e15 => ?_))
  have E1115 := E1114.trans e15
  have E915 := E911.trans E1115
  have E815 := e9.trans E915
  have E15 := E8.trans E815
  have g1 : BB h15 h3.size ty_api_Sector L := c8.ext E815
  have g2 : BB h15 h6.size ty_api_Sector L := b8.ext E815
  have g3 : FB h15 h9.size kk nn r1 := f11.ext E1115
  have g4 : FB h15 h12.size kk nn r2 := f14.ext e15
  have g5 : FB h15 h.size k n s := f2.ext (E28.trans E815)
  refine ite_w (fun _ => ?_) (fun hh => by cases hh)
  refine ldB128 g1 hLl (ldB128 g2 hLl (eqA_b (nums_bcells _ (by omega)) (nums_bcells _ (by omega)) ?_))
  rw [aEq_bcells _ _ hLl hLl]
  refine ite_w (fun _ => ?_) (fun hh => by simp at hh)
  refine ite_w (fun _ => ?_) (fun hh => by simp at hh)
  refine ldF g3 (ldF g4 ?_)
  refine bind_w (same_spec rfl rfl (b9.ext E915) (b12.ext (E1214.trans e15)) (fun h16 e16 => ?_))
  refine ite_w (fun _ => ?_) (fun hh => by simp at hh)
  refine ite_w (fun _ => ?_) (fun hh => by simp at hh)
  have g6 := g5.ext e16
  have hcel : hcell h16 ((⟨h.size, 0, none⟩ : Addr).add 2) = some s.v := by rw [add_mk, Nat.zero_add, g6.cell]; rfl
  refine ldL_b hcel (ldL_b hcel ?_)
  have hb16 := hb.ext (E15.trans e16)
  refine bind_w (sum_spec hb16 hlen ?_)
  refine chk_b ⟨hcel, hcel⟩ ?_
  refine bind_w (rsum_spec hb16 hlen ?_)
  exact pure_w ⟨by simp, E15.trans e16⟩
end Gx
