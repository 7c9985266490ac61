/- Own proofs: what those Lean programs compute. No condition. -/
import Derived.Test.YtklegajjmeajiaaHDisk5
import Derived.Test.YtklegajjmeajiaaHBurst
import Derived.Test.YtklegajjmeajiaaHLaw12
import Derived.Test.YtklegajjmeajiaaAF6
namespace Gx
open Go
set_option linter.unusedVariables false
set_option linter.unusedSimpArgs false
theorem onO {F : Fp} {h : Heap} (g : ∀ i, F.on i → h.size ≤ i) {b : Nat} (hb : b < h.size) : ¬ F.on b := fun ho => by have := g b ho; omega
theorem damage_spec {x0 : Array Value} {k n x1 x2 : Int} {s : Sl} {pay : List UInt8} {h : Heap} (hx : x0 = fcells k n s) (hb : Bys h s pay) (hlen : pay.length ≤ 9223372036854775807) (hn : n ≤ 9223372036854775807) (h1a : 0 ≤ x1) (h1b : x1 < 65536) (h2a : 0 ≤ x2) (h2b : x2 < 4294967296) :
    (ramblelaw05_SectorDamage x0 x1 x2).wp h (fun r h' => r = true ∧ Ext h h') := by
  subst hx
  unfold ramblelaw05_SectorDamage
  refine mkF (k := k) (n := n) (s := s) (Ext.refl h) (fun h1 _ e1 s1 f1 => ?_)
  refine ldF f1 ?_
  refine bind_w (seal_spec rfl (hb.ext e1) hlen hn (fun h2 e2 => ?_))
  have E2 := e1.trans e2
  obtain ⟨L, hL, hLl, c, hc, hcase⟩ : ∃ L, (sealOut k n pay).1 = bcells L ∧ L.length = 128 ∧ ∃ c, (sealOut k n pay).2 = c ∧ ((c = 1) ∨ (c = 0 ∧ badF k n pay = false ∧ L = sealed k n pay)) := by
    rcases sealOut_cases k n pay hn with ⟨h1, h2⟩ | ⟨h1, h2, h3⟩
    · exact ⟨zeros, by rw [h2], rfl, 1, by rw [h2], .inl rfl⟩
    · exact ⟨_, by rw [h2], h3, 0, by rw [h2], .inr ⟨rfl, h1, rfl⟩⟩
  rw [hL, hc]
  refine mkZ E2 (fun h3 g3 e3 s3 b3 => ?_)
  refine need_b (by rw [bcells_size]; exact hLl) ?_
  refine stB128 b3 rfl hLl (fun h4 u4 b4 => ?_)
  have E4 := e3.upd u4 E2.size
  refine bind_w (begun_spec (fun h5 e5 => ?_))
  have E5 := E4.trans e5
  have b5 : BB h5 h2.size ty_api_Sector L := b4.ext e5
  refine ite_b (fun h => by cases h) (fun _ => pure_b ?_)
  rcases hcase with rfl | ⟨rfl, hbad, rfl⟩
  · refine ite_w (fun _ => ?_) (fun h => by cases h)
    exact bind_w (begun_spec (fun h6 e6 => pure_w ⟨rfl, E5.trans e6⟩))
  · refine ite_w (fun h => by cases h) (fun _ => ?_)
    refine bind_w (dnew_spec (fun hh => by omega) (fun m hm _ _ h6 F e6 H6 hF => ?_))
    have hm1 : m = 1 := by omega
    subst hm1
    have E6 := E5.trans e6
    have hFh : ∀ i, F.on i → h.size ≤ i := fun i hi => Nat.le_trans E5.size (hF i hi)
    have hbF : ¬ F.on h2.size := onO hF (blk_lt b5)
    refine ite_b (fun h => by cases h) (fun _ => pure_b ?_)
    refine ite_b (fun h => by cases h) (fun _ => ?_)
    have b6 := b5.ext e6
    refine assoc_b (ldB128 b6 hLl ?_)
    refine assoc_b (bind_w (dwrite_spec H6 rfl hLl (fun h7 k7 H7 => pure_b ?_)))
    have hw : (Dk.new 1).write 0 (sealed k n pay) = ({ (Dk.new 1) with calls := 1, c := [(0, sealed k n pay)] }, 0) := rfl
    rw [hw] at H7 ⊢
    have b7 : BB h7 h2.size ty_api_Sector (sealed k n pay) := k7.blk b6 hbF
    have E7 := E6.kp k7 hFh
    refine ite_b (fun h => by cases h) (fun _ => ?_)
    refine assoc_b (bind_w (dflush_spec H7 (fun h8 k8 H8 => pure_b ?_)))
    have hf : Dk.flush { (Dk.new 1) with calls := 1, c := [(0, sealed k n pay)] } = (Dk.kept { (Dk.new 1) with calls := 2, c := [(0, sealed k n pay)] }, 0) := rfl
    rw [hf] at H8 ⊢
    have b8 : BB h8 h2.size ty_api_Sector (sealed k n pay) := k8.blk b7 hbF
    have E8 := E7.kp k8 hFh
    have ew : IntKind.wrap .i64 x1 = x1 := w64 (by omega) (by omega)
    have em : Int.tmod (IntKind.wrap .i64 x1) 1024 = ((x1.toNat % 1024 : Nat) : Int) := by rw [ew, Int.tmod_eq_emod_of_nonneg h1a]; omega
    rw [em]
    generalize ho : x1.toNat % 1024 = o
    have ho' : o < 1024 := by omega
    refine ite_b (fun h => by cases h) (fun _ => ?_)
    refine assoc_b (bind_w (dburst_spec H8 h2a h2b (fun h9 k9 H9 => pure_b ?_)))
    generalize hD : Dk.kept { (Dk.new 1) with calls := 2, c := [(0, sealed k n pay)] } = D at H8 H9
    have hDn : D.n = 1 := by rw [← hD]; rfl
    have hDa : D.away = false := by rw [← hD]; rfl
    have hDc : D.c = [] := by rw [← hD]; rfl
    have hDs : D.s 0 = sealed k n pay := by rw [← hD]; rfl
    have hDt : D.t 0 = false := by rw [← hD]; rfl
    have hbu : D.burst 0 (o : Int) x2 = ({ D with s := put D.s 0 (burstL o x2.toNat (min 32 (1024 - o)) (D.s 0)) }, 0) := by
      rw [Dk.burst, if_neg (by omega), if_neg (by omega)]
      rfl
    rw [hbu] at H9 ⊢
    have b9 : BB h9 h2.size ty_api_Sector (sealed k n pay) := k9.blk b8 hbF
    have E9 := E8.kp k9 hFh
    refine ite_w (fun h => by cases h) (fun _ => ?_)
    refine bind_w (dread_spec H9 (fun h10 e10 => ?_))
    have hrd : Dk.read { D with s := put D.s 0 (burstL o x2.toNat (min 32 (1024 - o)) (D.s 0)) } 0 = (burstL o x2.toNat (min 32 (1024 - o)) (sealed k n pay), 0) := by
      rw [Dk.read]
      simp only [hDa, hDn, hDc, mlk, List.find?_nil, Option.map_none]
      rw [if_neg (by decide), if_neg (by omega)]
      show (if D.t 0 then (zeros, (40 : Int)) else (put D.s 0 _ 0, 0)) = _
      rw [hDt, hDs]
      rfl
    rw [hrd]
    have hbo := @burst_open o x2.toNat (min 32 (1024 - o)) (sealed k n pay) (by omega) (by rw [hLl]; omega) (open_sealed hbad hn)
    have hXl : (burstL o x2.toNat (min 32 (1024 - o)) (sealed k n pay)).length = 128 := by rw [burstL_length, hLl]
    generalize burstL o x2.toNat (min 32 (1024 - o)) (sealed k n pay) = X at hbo hXl ⊢
    have E10 := E9.trans e10
    refine mkZ E10 (fun h11 g11 e11 s11 b11 => ?_)
    refine need_b (by rw [bcells_size]; exact hXl) ?_
    refine stB128 b11 rfl hXl (fun h12 u12 b12 => ?_)
    have E12 := e11.upd u12 E10.size
    have EE : Ext h10 h12 := g11.upd u12 (Nat.le_refl _)
    have b12' : BB h12 h2.size ty_api_Sector (sealed k n pay) := (b9.ext e10).ext EE
    refine ldB128 b12 hXl ?_
    suffices hs : ∀ (r : Array Value × Int) (h13 : Heap), Ext h12 h13 → r.1.size = 3 → (∃ kk nn ss, r.1 = fcells kk nn ss) → ((X = sealed k n pay → r.2 = 0) ∧ (X ≠ sealed k n pay → r.2 = 50)) → ((do
        let x13_34 ← mkB ty_api_Frame (#[.int .i64 0, .int .i64 0, .slice none 0 0] : Array Value)
        M.need (r.1.size = 3)
        stG x13_34 r.1
        let x86_37 ← M.ite ((0 : Int) == 0) (do
          let x70_38 ← ldG 128 ⟨h10.size, 0, none⟩
          let x71_39 ← ldG 128 ⟨h2.size, 0, none⟩
          let x72_40 ← eqA .u8 128 x70_38 x71_39
          let x76_41 ← M.ite x72_40 (do
            M.pure (r.2 == 0)
            ) (do
            M.pure false
            )
          let x85_42 ← M.ite x76_41 (do
            M.pure true
            ) (do
            let x78_43 ← ldG 128 ⟨h10.size, 0, none⟩
            let x79_44 ← ldG 128 ⟨h2.size, 0, none⟩
            let x80_45 ← eqA .u8 128 x78_43 x79_44
            let x84_46 ← M.ite (!x80_45) (do
              M.pure (r.2 == 50)
              ) (do
              M.pure false
              )
            M.pure x84_46
            )
          M.pure x85_42
          ) (do
          M.pure false
          )
        M.pure x86_37) : M Bool).wp h13 (fun r h' => r = true ∧ Ext h h') by
      refine bind_w (open_spec rfl hXl (fun hop h13 e13 => ?_) (fun hop h13 ss e13 b13 => ?_))
      · refine hs _ h13 e13 rfl ⟨_, _, _, rfl⟩ ⟨fun e => ?_, fun _ => rfl⟩
        rw [e, open_sealed hbad hn] at hop; cases hop
      · exact hs _ h13 e13 rfl ⟨_, _, _, rfl⟩ ⟨fun _ => rfl, fun e => absurd (hbo hop) e⟩
    rintro ⟨r1, r2⟩ h13 e13 hr3 ⟨kk, nn, ss, hr⟩ ⟨hr1, hr2⟩
    have hr' : r1 = fcells kk nn ss := hr
    subst hr'
    have E13 := E12.trans e13
    refine mkF (k := 0) (n := 0) (s := Sl.nil) E13 (fun h14 g14 e14 s14 f14 => ?_)
    refine need_b rfl ?_
    refine stF (k' := kk) (n' := nn) (s' := ss) f14 (fun h15 u15 f15 => ?_)
    have E15 := e14.upd u15 E13.size
    have EX : Ext h12 h15 := e13.trans (g14.upd u15 (Nat.le_refl _))
    have bx : BB h15 h10.size ty_api_Sector X := b12.ext EX
    have bs : BB h15 h2.size ty_api_Sector (sealed k n pay) := b12'.ext EX
    refine ite_b (fun _ => ?_) (fun h => by cases h)
    refine assoc_b (ldB128 bx hXl (assoc_b (ldB128 bs hLl (assoc_b (eqA_b (nums_bcells _ (by omega)) (nums_bcells _ (by omega)) ?_)))))
    rw [aEq_bcells _ _ hXl hLl]
    by_cases he : X = sealed k n pay
    · have h0 := hr1 he
      have h0' : r2 = 0 := h0
      subst h0'
      rw [decide_eq_true he]
      exact pure_w ⟨rfl, E15⟩
    · have h0 : r2 = 50 := hr2 he
      subst h0
      rw [decide_eq_false he]
      refine assoc_b (pure_b ?_)
      refine assoc_b (ite_b (fun h => by cases h) (fun _ => ?_))
      refine assoc_b (ldB128 bx hXl (assoc_b (ldB128 bs hLl (assoc_b (eqA_b (nums_bcells _ (by omega)) (nums_bcells _ (by omega)) ?_)))))
      rw [aEq_bcells _ _ hXl hLl, decide_eq_false he]
      exact pure_w ⟨rfl, E15⟩
end Gx
