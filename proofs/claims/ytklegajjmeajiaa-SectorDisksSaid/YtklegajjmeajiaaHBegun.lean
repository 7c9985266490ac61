/- Own proofs: what those Lean programs compute. No condition. -/
import Derived.Test.YtklegajjmeajiaaHROpen
import Derived.Test.YtklegajjmeajiaaAF4
import Derived.KernelRfl
namespace Gx
open Go
set_option linter.unusedVariables false
theorem sEq_mk (l l' : List UInt8) : sEq ⟨l.toArray⟩ ⟨l'.toArray⟩ = decide (l = l') := by
  unfold sEq
  rw [Bool.eq_iff_iff, beq_iff_eq, decide_eq_true_eq]
  have e : ∀ l : List UInt8, (⟨l.toArray⟩ : ByteArray).toList = l := fun l => by simp
  rw [e, e]
theorem Bys.reads {h : Heap} {s : Sl} {l : List UInt8} (hb : Bys h s l) : Reads h s.base (l.map fun b => Value.int .u8 (b.toNat : Int)) := hb.at_
theorem same_spec {x0 x1 : Array Value} {k n k' n' : Int} {s s' : Sl} {l l' : List UInt8} {h : Heap} {Q : Bool → Heap → Prop} (hx : x0 = fcells k n s) (hy : x1 = fcells k' n' s') (hb : Bys h s l) (hb' : Bys h s' l')
    (H : ∀ h', Ext h h' → Q (decide (k = k' ∧ n = n' ∧ l = l')) h') : (rambleref05_Same x0 x1).wp h Q := by
  subst hx; subst hy
  unfold rambleref05_Same
  refine mkB_b (mkB_b ?_)
  have e1 : Ext h (h.push (.cells (fcells k n s) ty_api_Frame)) := Ext.push _ _
  have f1 : FB (h.push (.cells (fcells k n s) ty_api_Frame)) h.size k n s := FB.mk
  generalize h.push (Obj.cells (fcells k n s) ty_api_Frame) = h1 at e1 f1 ⊢
  have e2 : Ext h (h1.push (.cells (fcells k' n' s') ty_api_Frame)) := e1.trans (Ext.push _ _)
  have f2 : FB (h1.push (.cells (fcells k' n' s') ty_api_Frame)) h.size k n s := f1.ext (Ext.push _ _)
  have g2 : FB (h1.push (.cells (fcells k' n' s') ty_api_Frame)) h1.size k' n' s' := FB.mk
  generalize h1.push (Obj.cells (fcells k' n' s') ty_api_Frame) = h2 at e2 f2 g2 ⊢
  simp only [add_mk, Nat.zero_add]
  have c0 : ∀ {b : Nat} {k n : Int} {s : Sl}, FB h2 b k n s → hcell h2 ⟨b, 0, none⟩ = some (.int .i64 k) := fun hb => by rw [hb.cell]; rfl
  have c1 : ∀ {b : Nat} {k n : Int} {s : Sl}, FB h2 b k n s → hcell h2 ⟨b, 1, none⟩ = some (.int .i64 n) := fun hb => by rw [hb.cell]; rfl
  have c2 : ∀ {b : Nat} {k n : Int} {s : Sl}, FB h2 b k n s → hcell h2 ⟨b, 2, none⟩ = some s.v := fun hb => by rw [hb.cell]; rfl
  refine ldI_b (c0 f2) (ldI_b (c0 g2) ?_)
  have hQ := H h2 e2
  have hk : (k == k') = decide (k = k') := rfl
  have hn : (n == n') = decide (n = n') := rfl
  refine ite_b (fun h1 => ?_) (fun h1 => ?_)
  · have e1 : k = k' := by simpa using h1
    refine assoc_b (ldI_b (c1 f2) (assoc_b (ldI_b (c1 g2) (pure_b ?_))))
    refine ite_b (fun h2 => ?_) (fun h2 => ?_)
    · have e2' : n = n' := by simpa using h2
      refine assoc_b (ldL_b (c2 f2) (assoc_b (b2s_b hb.len.symm (hb.ext e2).reads (assoc_b (ldL_b (c2 g2) (assoc_b (b2s_b hb'.len.symm (hb'.ext e2).reads (pure_b (pure_w ?_)))))))))
      rw [sEq_mk]
      have : decide (k = k' ∧ n = n' ∧ l = l') = decide (l = l') := by simp [e1, e2']
      rw [← this]; exact hQ
    · have : ¬ n = n' := by simpa using h2
      refine pure_b (pure_w ?_)
      have : decide (k = k' ∧ n = n' ∧ l = l') = false := by simp [this]
      rw [← this]; exact hQ
  · have : ¬ k = k' := by simpa using h1
    refine pure_b ?_
    refine ite_b (fun h2 => by cases h2) (fun h2 => pure_b (pure_w ?_))
    have : decide (k = k' ∧ n = n' ∧ l = l') = false := by simp [this]
    rw [← this]; exact hQ
theorem crc_check : crc [49, 50, 51, 52, 53, 54, 55, 56, 57] = 3421780262#32 := by kernel_rfl
theorem Ext.modify {h h' : Heap} {b : Nat} {f : Obj → Obj} (e : Ext h h') (hb : h.size ≤ b) : Ext h (h'.modify b f) :=
  ⟨by rw [Array.size_modify]; exact e.size, fun i hi => by
    rw [Array.getElem?_modify, if_neg (by omega)]; exact e.same i hi⟩
theorem mkF {β : Type} {k n : Int} {s : Sl} {h h1 : Heap} {Q : β → Heap → Prop} {f : Addr → M β} (e : Ext h h1)
    (H : ∀ h2, Ext h1 h2 → Ext h h2 → h2.size = h1.size + 1 → FB h2 h1.size k n s → (f ⟨h1.size, 0, none⟩).wp h2 Q) : (mkB ty_api_Frame (fcells k n s) >>= f).wp h1 Q :=
  mkB_b (H _ (Ext.push _ _) (e.trans (Ext.push _ _)) (by simp) FB.mk)
theorem mkS128 {β : Type} {l : List UInt8} {h h1 : Heap} {Q : β → Heap → Prop} {f : Addr → M β} (e : Ext h h1)
    (H : ∀ h2, Ext h1 h2 → Ext h h2 → h2.size = h1.size + 1 → BB h2 h1.size ty_api_Sector l → (f ⟨h1.size, 0, none⟩).wp h2 Q) : (mkB ty_api_Sector (bcells l) >>= f).wp h1 Q :=
  mkB_b (H _ (Ext.push _ _) (e.trans (Ext.push _ _)) (by simp) get_push_eq)
theorem mkZ {β : Type} {h h1 : Heap} {Q : β → Heap → Prop} {f : Addr → M β} (e : Ext h h1)
    (H : ∀ h2, Ext h1 h2 → Ext h h2 → h2.size = h1.size + 1 → BB h2 h1.size ty_api_Sector zeros → (f ⟨h1.size, 0, none⟩).wp h2 Q) : (mkB ty_api_Sector (Array.replicate 128 (.int .u8 0) : Array Value) >>= f).wp h1 Q := by
  rw [zeros_cells]
  exact mkS128 e H
theorem bdL_bys {β : Type} {l : List UInt8} {t n : Nat} {cs : Array Value} {h h1 : Heap} {Q : β → Heap → Prop} {f : Sl → M β} (e : Ext h h1) (hc : cs = bcells l) (hn : n = l.length)
    (H : ∀ h2, Ext h1 h2 → Ext h h2 → h2.size = h1.size + 1 → h2[h1.size]? = some (.cells (bcells l) t (0, 0)) → Bys h2 ⟨some ⟨h1.size, 0, none⟩, n, n⟩ l → (f ⟨some ⟨h1.size, 0, none⟩, n, n⟩).wp h2 Q) : (bdL t n cs >>= f).wp h1 Q := by
  subst hc; subst hn
  refine bdL_b (H _ (Ext.push _ _) (e.trans (Ext.push _ _)) (by simp) get_push_eq ?_)
  have hb : BB (h1.push (.cells (bcells l) t)) h1.size t l := get_push_eq
  have := hb.bys 0 l.length l.length (by omega)
  rw [List.drop_zero, List.take_of_length_le (Nat.le_refl _)] at this
  exact this
theorem seal78 : sealOut 1 5 [7, 8] = (bcells (sealed 1 5 [7, 8]), 0) := rfl
theorem begun_spec {h : Heap} {Q : Bool → Heap → Prop} (H : ∀ h', Ext h h' → Q true h') : ramblelaw05_begun.wp h Q := by
  unfold ramblelaw05_begun
  refine bdL_bys (l := [7, 8]) (Ext.refl h) rfl rfl (fun h1 _ e1 s1 _ b1 => ?_)
  refine bind_w (seal_spec rfl b1 (by decide) (by decide) (fun h2 e2 => ?_))
  rw [seal78]
  have hl : (sealed 1 5 [7, 8]).length = 128 := sealed_length (by decide)
  have hE2 := e1.trans e2
  refine mkZ hE2 (fun h3 _ e3 s3 b3 => ?_)
  refine need_b (by rw [bcells_size]; exact hl) ?_
  refine stB128 b3 rfl hl (fun h4 u4 b4 => ?_)
  have e4 := e3.upd u4 hE2.size
  refine ldB128 b4 hl ?_
  have hok := open_sealed (k := 1) (n := 5) (pay := [7, 8]) rfl (by decide)
  obtain ⟨k1, _, n1, p1⟩ := sealed_fields (k := 1) (n := 5) (pay := [7, 8]) rfl (by decide)
  refine bind_w (open_spec rfl hl (fun hf => by rw [hok] at hf; cases hf) (fun _ h5 s e5 b5 => ?_))
  rw [k1, n1]; rw [p1] at b5
  have hE5 := e4.trans e5
  refine mkF (k := 0) (n := 0) (s := Sl.nil) hE5 (fun h6 f6 e6 s6 b6 => ?_)
  refine need_b rfl ?_
  refine stF b6 (fun h7 u7 b7 => ?_)
  have e7 := e6.upd u7 hE5.size
  have hs7 : Bys h7 s [7, 8] := by
    refine ((b5.ext f6).upd u7 (fun a ha hh => ?_))
    obtain ⟨a', ha', hc⟩ := b5.get (show 0 < 2 by decide)
    rw [ha] at ha'; cases ha'
    simp only [hcell, add_block, hh] at hc
    rw [Array.getElem?_eq_none (Nat.le_refl _)] at hc
    cases hc
  refine bdL_bys (l := [49, 50, 51, 52, 53, 54, 55, 56, 57]) e7 rfl rfl (fun h8 f8 e8 s8 b8 y8 => ?_)
  refine ⟨_, ⟨rfl, _, _, _, _, rfl, b8⟩, ?_⟩
  have hm : hmrk ⟨some ⟨h7.size, 0, none⟩, 9, 9⟩ h8 = h8.modify h7.size fun
      | .cells c' t (lo, hi) => .cells c' t (if lo = hi then ((bcells [49, 50, 51, 52, 53, 54, 55, 56, 57]).size, (bcells [49, 50, 51, 52, 53, 54, 55, 56, 57]).size + 1) else (min lo (bcells [49, 50, 51, 52, 53, 54, 55, 56, 57]).size, max hi ((bcells [49, 50, 51, 52, 53, 54, 55, 56, 57]).size + 1)))
      | o => o := by
    unfold hmrk
    simp only [b8]
    rfl
  generalize hh9 : hmrk ⟨some ⟨h7.size, 0, none⟩, 9, 9⟩ h8 = h9
  have y9 : Bys h9 ⟨some ⟨h7.size, 0, none⟩, 9, 9⟩ [49, 50, 51, 52, 53, 54, 55, 56, 57] := by
    refine ⟨rfl, .inr ⟨_, rfl, fun j v hj => ?_⟩⟩
    rw [add_mk, ← hh9, hm]
    have : (h8.modify h7.size fun
      | .cells c' t (lo, hi) => .cells c' t (if lo = hi then ((bcells [49, 50, 51, 52, 53, 54, 55, 56, 57]).size, (bcells [49, 50, 51, 52, 53, 54, 55, 56, 57]).size + 1) else (min lo (bcells [49, 50, 51, 52, 53, 54, 55, 56, 57]).size, max hi ((bcells [49, 50, 51, 52, 53, 54, 55, 56, 57]).size + 1)))
      | o => o)[h7.size]? = some (.cells (bcells [49, 50, 51, 52, 53, 54, 55, 56, 57]) ty_uint8 (9, 10)) := by
      rw [Array.getElem?_modify, if_pos rfl, b8]
      rfl
    rw [hcell_blk this, Nat.zero_add, bcells_get]
    rw [List.getElem?_map] at hj
    exact hj
  have e9 : Ext h h9 := by rw [← hh9, hm]; exact e8.modify e7.size
  have e79 : Ext h7 h9 := by rw [← hh9, hm]; exact f8.modify (Nat.le_refl _)
  have hs9 := hs7.ext e79
  have f9 := b7.ext e79
  refine bind_w (sum_spec y9 (by decide) ?_)
  rw [crc_check]
  refine ite_b (fun _ => pure_b ?_) (fun hf => absurd hf (by decide))
  refine ite_b (fun _ => pure_b ?_) (fun hf => by cases hf)
  refine ite_b (fun _ => ?_) (fun hf => by cases hf)
  refine assoc_b (ldF f9 (assoc_b ?_))
  refine bdL_bys (l := [7, 8]) e9 rfl rfl (fun h10 f10 e10 s10 _ y10 => ?_)
  refine assoc_b (bind_w (same_spec rfl rfl (hs9.ext f10) y10 (fun h11 e11 => ?_)))
  refine pure_b (pure_w ?_)
  exact H _ (e10.trans e11)
end Gx
