/- Own proofs: what those Lean programs compute. No condition. -/
import Derived.Test.YtklegajjmeajiaaHPut
namespace Gx
open Go
set_option linter.unusedVariables false
set_option linter.unusedSimpArgs false
/-- both disks stand alike -/
structure Rel (D R : Dk) : Prop where
  n : D.n = R.n
  s : D.s = R.s
  t : D.t = R.t
  c : ∀ k, mlk k D.c = mlk k R.c
  away : D.away = R.away
  fuse : D.fuse = R.fuse
  calls : D.calls = R.calls
theorem call_two (D : Dk) : D.call.2 = 0 ∨ D.call.2 = 9 := by
  unfold Dk.call
  split <;> (try split) <;> simp
theorem Rel.call {D R : Dk} (H : Rel D R) : Rel D.call.1 R.call.1 ∧ D.call.2 = R.call.2 := by
  obtain ⟨n, s, t, c, a, f, l⟩ := H
  unfold Dk.call
  rw [f]
  split
  · split
    · exact ⟨⟨n, s, t, c, rfl, rfl, l⟩, rfl⟩
    · exact ⟨⟨n, s, t, c, a, rfl, by show IntKind.wrap .i64 (D.calls + 1) = IntKind.wrap .i64 (R.calls + 1); rw [l]⟩, rfl⟩
  · exact ⟨⟨n, s, t, c, a, rfl, by show IntKind.wrap .i64 (D.calls + 1) = IntKind.wrap .i64 (R.calls + 1); rw [l]⟩, rfl⟩
theorem Rel.write {D R : Dk} (H : Rel D R) (n : Int) (x : List UInt8) : Rel (D.write n x).1 (R.rwrite n x).1 ∧ (D.write n x).2 = (R.rwrite n x).2 := by
  have hcall := H.call
  unfold Dk.write Dk.rwrite
  rw [H.away, H.n]
  split
  · exact ⟨H, rfl⟩
  · split
    · exact ⟨H, rfl⟩
    · rw [hcall.2]
      split
      · rename_i h
        have : R.call.2 = 9 := by
          rcases call_two R with h' | h'
          · exact absurd h' h
          · exact h'
        exact ⟨hcall.1, this⟩
      · obtain ⟨n, s, t, c, a, f, l⟩ := hcall.1
        refine ⟨⟨n, s, t, fun k => ?_, a, f, l⟩, rfl⟩
        show mlk k (mput _ x D.c) = mlk k (rgo _ x false R.c)
        rw [mlk_put, rgo_lk, H.c]
        rfl
theorem Rel.put {D R : Dk} (H : Rel D R) (a k n : Int) (pay : List UInt8) : Rel (D.put a k n pay).1 (R.rput a k n pay).1 ∧ (D.put a k n pay).2 = (R.rput a k n pay).2 := by
  unfold Dk.put Dk.rput
  split
  · exact ⟨H, rfl⟩
  · exact H.write _ _
theorem Rel.flush {D R : Dk} (H : Rel D R) : Rel D.flush.1 R.rflush.1 ∧ D.flush.2 = R.rflush.2 := by
  have hcall := H.call
  unfold Dk.flush Dk.rflush
  rw [H.away, hcall.2]
  split
  · exact ⟨H, rfl⟩
  · split
    · rename_i h
      have : R.call.2 = 9 := by
        rcases call_two R with h' | h'
        · exact absurd h' h
        · exact h'
      exact ⟨hcall.1, this⟩
    · obtain ⟨n, s, t, c, a, f, l⟩ := hcall.1
      refine ⟨⟨n, ?_, ?_, fun k => rfl, a, f, l⟩, rfl⟩
      · show (fun i : Nat => (mlk (i : Int) D.call.1.c).getD (D.call.1.s i)) = fun i : Nat => (mlk (i : Int) R.call.1.c).getD (R.call.1.s i)
        funext i
        rw [c, s]
      · show (fun i : Nat => if (mlk (i : Int) D.call.1.c).isSome then false else D.call.1.t i) = fun i : Nat => if (mlk (i : Int) R.call.1.c).isSome then false else R.call.1.t i
        funext i
        rw [c, t]
theorem Rel.burst {D R : Dk} (H : Rel D R) (n o w : Int) : Rel (D.burst n o w).1 (R.burst n o w).1 ∧ (D.burst n o w).2 = (R.burst n o w).2 := by
  unfold Dk.burst
  rw [H.n]
  split
  · exact ⟨H, rfl⟩
  · split
    · exact ⟨H, rfl⟩
    · refine ⟨⟨rfl, ?_, H.t, H.c, H.away, H.fuse, H.calls⟩, rfl⟩
      show Gx.put D.s _ _ = Gx.put R.s _ _
      rw [H.s]
theorem Rel.read {D R : Dk} (H : Rel D R) (n : Int) : D.read n = R.read n := by
  unfold Dk.read
  rw [H.away, H.n, H.c, H.t, H.s]
/-! ### The script -/
structure OpV where
  d : Int
  a : Int
  k : Int
  n : Int
  s : Sl
  pay : List UInt8
  bit : Int
  bits : Int
def opCells (o : OpV) : Array Value := #[.int .i64 o.d, .int .i64 o.a, .int .i64 o.k, .int .i64 o.n, o.s.v, .int .i64 o.bit, .int .u32 o.bits]
structure OpsAt (h : Heap) (x : Sl) (ops : List OpV) : Prop where
  len : x.len = ops.length
  at_ : ops = [] ∨ ∃ a, x.base = some a ∧ ∀ (i : Nat) o, ops[i]? = some o → ∀ j, j < 7 → hcell h (a.add (i * 7 + j)) = (opCells o)[j]?
  ok : ∀ o ∈ ops, Bys h o.s o.pay ∧ o.pay.length ≤ 9223372036854775807 ∧ o.n ≤ 9223372036854775807 ∧ 0 ≤ o.bits ∧ o.bits < 4294967296
  max : ops.length ≤ 9223372036854775807
theorem OpsAt.ext {h h' : Heap} {x : Sl} {ops : List OpV} (H : OpsAt h x ops) (e : Ext h h') : OpsAt h' x ops := by
  refine ⟨H.len, ?_, fun o ho => ?_, H.max⟩
  · rcases H.at_ with h1 | ⟨a, ha, hc⟩
    · exact .inl h1
    · refine .inr ⟨a, ha, fun i o hi j hj => ?_⟩
      have := hc i o hi j hj
      have hj7 : j < (opCells o).size := hj
      rw [Array.getElem?_eq_getElem hj7] at this ⊢
      exact e.cell this
  · obtain ⟨a, b⟩ := H.ok o ho
    exact ⟨a.ext e, b⟩
def OB (h : Heap) (b : Nat) (o : OpV) : Prop := h[b]? = some (.cells (opCells o) ty_ramblelaw05_Op (0, 0))
theorem OB.cell {h : Heap} {b : Nat} {o : OpV} (H : OB h b o) (i : Nat) : hcell h ⟨b, i, none⟩ = (opCells o)[i]? := hcell_blk H
theorem OB.frame {h : Heap} {b : Nat} {o : OpV} (H : OB h b o) : ∀ i, i < 3 → hcell h (Addr.add ((⟨b, 0, none⟩ : Addr).add 2) i) = (fcells o.k o.n o.s)[i]? := by
  intro i hi
  rw [add_mk, add_mk, H.cell]
  match i, hi with
  | 0, _ => rfl
  | 1, _ => rfl
  | 2, _ => rfl
theorem mkO {β : Type} {o : OpV} {h : Heap} {Q : β → Heap → Prop} {f : Addr → M β}
    (H : ∀ h2, Ext h h2 → OB h2 h.size o → (f ⟨h.size, 0, none⟩).wp h2 Q) :
    (mkB ty_ramblelaw05_Op (#[.int .i64 0, .int .i64 0, .int .i64 0, .int .i64 0, .slice none 0 0, .int .i64 0, .int .u32 0] : Array Value) >>= fun a => M.need ((opCells o).size = 7) >>= fun _ => stG a (opCells o) >>= fun _ => f a).wp h Q := by
  refine mkB_b (need_b rfl ?_)
  have g : (h.push (.cells (#[.int .i64 0, .int .i64 0, .int .i64 0, .int .i64 0, .slice none 0 0, .int .i64 0, .int .u32 0] : Array Value) ty_ramblelaw05_Op))[h.size]? = some (.cells (#[.int .i64 0, .int .i64 0, .int .i64 0, .int .i64 0, .slice none 0 0, .int .i64 0, .int .u32 0] : Array Value) ty_ramblelaw05_Op (0, 0)) := get_push_eq
  refine stG_b (fun i hi => ?_) (fun v hv => ?_) (H _ ((Ext.push h _).upd (Upd.hsetL _ _ _ _ _) (Nat.le_refl _)) ?_)
  · rw [add_mk, hcell_blk g, hfrozen_blk g]
    have hi' : 0 + i < 7 := by rw [Nat.zero_add]; exact hi
    exact ⟨⟨_, Array.getElem?_eq_getElem hi'⟩, rfl⟩
  · simp only [opCells, List.mem_cons, List.not_mem_nil, or_false] at hv
    rcases hv with rfl | rfl | rfl | rfl | rfl | rfl | rfl <;> rfl
  · unfold OB
    rw [hsetL_at _ _ _ _ g]
    rfl
/-- how both disks lie -/
structure Both (h0 h : Heap) (p : Nat) (F : Fp) : Prop where
  at_ : ∃ D G R, DkAt h F D ∧ RkAt h G R ∧ Rel D R ∧ G.p = p ∧ (∀ i, F.on i → ¬ G.on i) ∧ (∀ i, F.on i → h0.size ≤ i) ∧ (∀ i, G.on i → h0.size ≤ i)
  ext : Ext h0 h
theorem disks_spec {x0 : Sl} {ops : List OpV} {h : Heap} (hx : OpsAt h x0 ops) : (ramblelaw05_SectorDisks x0).wp h (fun r h' => r = true ∧ Ext h h') := by
  unfold ramblelaw05_SectorDisks
  refine bind_w (dnew_spec (fun hh => by omega) (fun m hm _ _ h1 F e1 H1 hF => ?_))
  refine bind_w (rnew_spec (fun hh => by omega) (fun m2 hm2 _ _ h2 G e2 H2 hG => ?_))
  have hmm : m = m2 := by omega
  subst hmm
  have E2 := e1.trans e2
  refine bind_w (begun_spec (fun h3 e3 => ?_))
  have E3 := E2.trans e3
  refine ite_b (fun h => by cases h) (fun _ => pure_b ?_)
  refine ite_b (fun h => by cases h) (fun _ => pure_b ?_)
  refine ite_b (fun h => by cases h) (fun _ => pure_b ?_)
  refine ite_w (fun h => by cases h) (fun _ => ?_)
  have hB : Both h h3 G.p F := ⟨⟨_, G, _, (H1.ext e2).ext e3, H2.ext e3, ⟨rfl, rfl, rfl, fun _ => rfl, rfl, rfl, rfl⟩, rfl, fun i hi hg => by have := H1.lt hi; have := hG i hg; omega, hF, fun i hi => Nat.le_trans e1.size (hG i hi)⟩, E3⟩
  have hmax := hx.max
  refine M.loop_inv (fun (t' : Int) h' => ∃ i : Nat, i ≤ ops.length ∧ t' = (i : Int) ∧ Both h h' G.p F) (fun t' _ => ((ops.length : Int) - t').toNat) ?_ ⟨0, by omega, rfl, hB⟩
  clear hB H1 H2 hF hG e1 e2 e3 E2 E3
  generalize G.p = p
  rintro t' h' ⟨i, hi, rfl, ⟨D, G, R, HD, HR, hrel, rfl, hdis, hF, hG⟩, E⟩ self hself
  have hx' := hx.ext E
  have e1 : i < ops.length → IntKind.wrap .i64 ((i : Int) + 1) = ((i + 1 : Nat) : Int) := fun h => by rw [w64 (by omega) (by omega)]; rfl
  have next : i < ops.length → ∀ {h4 : Heap}, Both h h4 G.p F → (ramblelaw05_SectorDisks_j1 self (i : Int)).wp h4 (fun r h' => r = true ∧ Ext h h') := by
    intro hlt h4 hB
    unfold ramblelaw05_SectorDisks_j1
    rw [e1 hlt]
    exact hself _ _ ⟨i + 1, by omega, rfl, hB⟩ (by omega)
  unfold ramblelaw05_SectorDisks_l1
  rw [hx.len]
  refine ite_w (fun hc => ?_) (fun hc => ?_)
  · have hlt : i < ops.length := by have := of_decide_eq_true hc; omega
    have hgo : ops[i]? = some ops[i] := List.getElem?_eq_getElem hlt
    generalize hoo : ops[i] = o at hgo
    obtain ⟨hbys, hpl, hnn, hb0, hb1⟩ := hx'.ok o (List.mem_of_getElem? hgo)
    obtain ⟨a, ha, hcells⟩ : ∃ a, x0.base = some a ∧ ∀ (i : Nat) o, ops[i]? = some o → ∀ j, j < 7 → hcell h' (a.add (i * 7 + j)) = (opCells o)[j]? := by
      rcases hx'.at_ with h1 | h1
      · rw [h1] at hlt; simp at hlt
      · exact h1
    refine ixL_b (by omega) (by rw [hx.len]; omega) ha ?_
    rw [show ((i : Int).toNat * 7) = i * 7 by omega]
    refine ldG_b (cs := opCells o) rfl (fun j hj => ?_) ?_
    · have := hcells i o hgo j hj
      rw [← this, Addr.add_add]
    refine mkO (fun h4 e4 O4 => ?_)
    have HD4 := HD.ext e4
    have HR4 := HR.ext e4
    have E4 := E.trans e4
    have hnF : ¬ F.on h'.size := fun ho => by have := HD.lt ho; omega
    have hnG : ¬ G.on h'.size := fun ho => by have := HR.lt ho; omega
    have hbys4 := hbys.ext e4
    refine ldI_b (n := o.d) (by rw [add_mk, O4.cell]; rfl) ?_
    refine ite_w (fun hd0 => ?_) (fun hd0 => ?_)
    · have ca : ∀ {H : Heap}, OB H h'.size o → hcell H ((⟨h'.size, 0, none⟩ : Addr).add 1) = some (.int .i64 o.a) := fun hO => by rw [add_mk, hO.cell]; rfl
      refine ldI_b (ca O4) ?_
      refine ldG_b (cs := fcells o.k o.n o.s) rfl O4.frame ?_
      refine ldI_b (ca O4) ?_
      refine ldG_b (cs := fcells o.k o.n o.s) rfl O4.frame ?_
      refine bind_w (dput_spec HD4 rfl hbys4 hpl hnn (fun h5 k5 H5 => ?_))
      have O5 : OB h5 h'.size o := k5.blk O4 hnF
      have E5 := E4.kp k5 hF
      have HR5 : RkAt h5 G R := HR4.km (S := F.on) ⟨k5.size, k5.same⟩ (fun i hi hf => hdis i hf hi)
      refine chk_b ⟨ca O5, ⟨rfl, O5.frame⟩, ca O5, rfl, O5.frame⟩ ?_
      have hbys5 : Bys h5 o.s o.pay := (hx.ok o (List.mem_of_getElem? hgo)).1.ext E5
      refine bind_w (rput_spec HR5 rfl hbys5 hpl hnn (fun h6 G6 k6 on6 p6 H6 => ?_))
      obtain ⟨hr1, hr2⟩ := hrel.put o.a o.k o.n o.pay
      rw [hr2]
      refine ite_w (fun h => by simp at h) (fun _ => ?_)
      refine next hlt ⟨⟨_, G6, _, H5.kp (G := ⟨G.p, G.p, G.p, G.p⟩) ⟨k6.size, fun i hi hn => k6.same i hi (fun e => hn (.inl e))⟩ (fun i hi ho => ?_), H6, hr1, p6, fun i hi hg => ?_, hF, fun i hi => ?_⟩, E5.km k6 (fun i hi => hG i (.inl hi))⟩
      · have : i = G.p := by rcases ho with h | h | h | h <;> exact h
        exact hdis i hi (.inl this)
      · rcases on6 i hg with h1 | h1
        · exact hdis i hi h1
        · have := H5.lt hi; omega
      · rcases on6 i hi with h1 | h1
        · exact hG i h1
        · exact Nat.le_trans E5.size h1
    · refine ite_w (fun hd1 => ?_) (fun hd1 => ?_)
      · refine bind_w (dflush_spec HD4 (fun h5 k5 H5 => ?_))
        have O5 : OB h5 h'.size o := k5.blk O4 hnF
        have E5 := E4.kp k5 hF
        have HR5 : RkAt h5 G R := HR4.km (S := F.on) ⟨k5.size, k5.same⟩ (fun i hi hf => hdis i hf hi)
        refine bind_w (rflush_spec HR5 (fun h6 G6 k6 on6 p6 H6 => ?_))
        have hkG : ∀ {h1 h2 : Heap}, Km (fun i => i = G.p) h1 h2 → Kp ⟨G.p, G.p, G.p, G.p⟩ h1 h2 := fun k => ⟨k.size, fun i hi hn => k.same i hi (fun e => hn (.inl e))⟩
        have hdG : ∀ i, F.on i → ¬ (⟨G.p, G.p, G.p, G.p⟩ : Fp).on i := fun i hi ho => by
          have : i = G.p := by rcases ho with h | h | h | h <;> exact h
          exact hdis i hi (.inl this)
        have HD6 := H5.kp (hkG k6) hdG
        have E6 := E5.km k6 (fun i hi => hG i (.inl hi))
        have hdis6 : ∀ i, F.on i → ¬ G6.on i := fun i hi hg => by
          rcases on6 i hg with h1 | h1
          · exact hdis i hi h1
          · have := H5.lt hi; omega
        have hG6 : ∀ i, G6.on i → h.size ≤ i := fun i hi => by
          rcases on6 i hi with h1 | h1
          · exact hG i h1
          · exact Nat.le_trans E5.size h1
        have O6 : OB h6 h'.size o := k6.blk O5 (fun e => hnG (.inl e))
        obtain ⟨hr1, hr2⟩ := hrel.flush
        rw [hr2]
        refine ite_w (fun h => by simp at h) (fun _ => ?_)
        have ca : ∀ {H : Heap}, OB H h'.size o → hcell H ((⟨h'.size, 0, none⟩ : Addr).add 1) = some (.int .i64 o.a) := fun hO => by rw [add_mk, hO.cell]; rfl
        have cb : ∀ {H : Heap}, OB H h'.size o → hcell H ((⟨h'.size, 0, none⟩ : Addr).add 5) = some (.int .i64 o.bit) := fun hO => by rw [add_mk, hO.cell]; rfl
        have cc : ∀ {H : Heap}, OB H h'.size o → hcell H ((⟨h'.size, 0, none⟩ : Addr).add 6) = some (.int .u32 o.bits) := fun hO => by rw [add_mk, hO.cell]; rfl
        refine ldI_b (ca O6) (ldI_b (cb O6) (ldI_b (cc O6) (ldI_b (ca O6) (ldI_b (cb O6) (ldI_b (cc O6) ?_)))))
        refine bind_w (dburst_spec HD6 hb0 hb1 (fun h7 k7 H7 => ?_))
        have O7 : OB h7 h'.size o := k7.blk O6 hnF
        have E7 := E6.kp k7 hF
        have HR7 : RkAt h7 G6 _ := H6.km (S := F.on) ⟨k7.size, k7.same⟩ (fun i hi hf => hdis6 i hf hi)
        refine chk_b ⟨ca O7, cb O7, cc O7, ca O7, cb O7, cc O7⟩ ?_
        rw [← p6]
        refine bind_w (rburst_spec HR7 hb0 hb1 (fun h8 G8 k8 on8 p8 H8 => ?_))
        obtain ⟨hr3, hr4⟩ := hr1.burst o.a o.bit o.bits
        rw [hr4]
        unfold ramblelaw05_SectorDisks_j2
        refine ite_w (fun h => by simp at h) (fun _ => ?_)
        have hkG6 : Kp ⟨G.p, G.p, G.p, G.p⟩ h7 h8 := ⟨k8.size, fun i hi hn => k8.same i hi (fun e => hn (.inl (e.trans p6)))⟩
        refine next hlt ⟨⟨_, G8, _, H7.kp hkG6 hdG, H8, hr3, p8.trans p6, fun i hi hg => ?_, hF, fun i hi => ?_⟩, E7.km k8 (fun i hi => hG6 i (.inl hi))⟩
        · rcases on8 i hg with h1 | h1
          · exact hdis6 i hi h1
          · have := H7.lt hi; omega
        · rcases on8 i hi with h1 | h1
          · exact hG6 i h1
          · exact Nat.le_trans E7.size h1
      · have ca : ∀ {H : Heap}, OB H h'.size o → hcell H ((⟨h'.size, 0, none⟩ : Addr).add 1) = some (.int .i64 o.a) := fun hO => by rw [add_mk, hO.cell]; rfl
        have cb : ∀ {H : Heap}, OB H h'.size o → hcell H (((⟨h'.size, 0, none⟩ : Addr).add 2).add 0) = some (.int .i64 o.k) := fun hO => by rw [add_mk, add_mk, hO.cell]; rfl
        have cc : ∀ {H : Heap}, OB H h'.size o → hcell H (((⟨h'.size, 0, none⟩ : Addr).add 2).add 1) = some (.int .i64 o.n) := fun hO => by rw [add_mk, add_mk, hO.cell]; rfl
        refine ldI_b (ca O4) (ldI_b (cb O4) (ldI_b (cc O4) ?_))
        refine bind_w (dget_spec HD4 (fun h5 s5 e5 b5 => ?_))
        have O5 : OB h5 h'.size o := e5.blk O4
        refine ldI_b (ca O5) (ldI_b (cb O5) (ldI_b (cc O5) ?_))
        refine bind_w (rget_spec (HR4.ext e5) (fun h6 s6 e6 b6 => ?_))
        rw [hrel.read] at b5 ⊢
        refine bind_w (bytes_eq_spec (b5.ext e6) b6 ?_)
        refine ite_b (fun h => by simp at h) (fun _ => pure_b ?_)
        refine ite_w (fun h => by simp at h) (fun _ => ?_)
        exact next hlt ⟨⟨D, G, R, (HD4.ext e5).ext e6, (HR4.ext e5).ext e6, hrel, rfl, hdis, hF, hG⟩, (E4.trans e5).trans e6⟩
  · refine bind_w (put_none (fun h4 e4 => pure_w ⟨rfl, E.trans e4⟩))
end Gx
