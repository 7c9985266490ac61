/- Own proofs: what those Lean programs compute. No condition. -/
import Derived.Test.YtklegajjmeajiaaHSeal2
namespace Gx
open Go
set_option linter.unusedVariables false
set_option linter.unusedSimpArgs false
/-! ### Aggregates put together -/
theorem zip_lay (c : List Value) : ∀ (cs : Array Value) (off k : Nat), (c.zipIdx k).foldl (fun cs (x : Value × Nat) => cs.setIfInBounds (off + x.2) x.1) cs = lay cs (off + k) c := by
  induction c with
  | nil => intro cs off k; rfl
  | cons v r ih =>
    intro cs off k
    rw [List.zipIdx_cons, List.foldl_cons, ih]
    rfl
theorem fill_cons {place : Nat → Option (Nat × Nat)} {cells : Array Value} {i off size : Nat} {v : Value} {rest : List (Nat × Value)} (hp : place i = some (off, size)) (hs : v.cells.size = size) (hl : off + size ≤ cells.size) :
    Instr.fill place cells ((i, v) :: rest) = Instr.fill place (lay cells off v.cells.toList) rest := by
  conv => lhs; unfold Instr.fill
  simp only [hp]
  rw [if_neg (by rw [hs]; simp; omega)]
  congr 1
  rw [← Array.foldl_toList, Array.toList_zipIdx]
  exact zip_lay _ _ _ 0
theorem lay_full {cs : Array Value} {vs : List Value} (h : vs.length = cs.size) : lay cs 0 vs = vs.toArray := by
  apply Array.ext'
  rw [lay_toList _ _ _ (by omega)]
  simp [h]
theorem fillL1_b {β : Type} {h : Heap} {Q : β → Heap → Prop} {sz : Nat} {z c : Array Value} {f : Array Value → M β} (hc : c.size = sz) (H : (f c).wp h Q) : (fillL sz 1 z [(0, .agg c)] >>= f).wp h Q := by
  refine ⟨c, ?_, H⟩
  have hz : (zRow z (1 * sz)).size = sz := by simp [zRow]
  show Instr.fill (fun i => some (i * sz, sz)) (zRow z (1 * sz)) [(0, Value.agg c)] = some c
  rw [fill_cons (off := 0) (size := sz) (v := Value.agg c) (by simp) hc (by omega)]
  show some _ = some c
  rw [show (Value.agg c).cells = c from rfl, lay_full (by rw [Array.length_toList]; omega)]
/-! ### Slices that grow by append, one's own -/
structure Row (lo : Nat) (h : Heap) (r : Sl) (sz b : Nat) (ty : TypeId) (cells : Array Value) (vs : List Value) : Prop where
  base : r.base = some ⟨b, 0, none⟩
  lo : lo ≤ b
  blk : h[b]? = some (.cells cells ty (0, 0))
  size : cells.size = r.cap * sz
  cap : r.len ≤ r.cap
  len : vs.length = r.len * sz
  get : ∀ (j : Nat) v, vs[j]? = some v → cells[j]? = some v
def Gw (lo : Nat) (h : Heap) (r : Sl) (sz : Nat) (vs : List Value) : Prop := (r = Sl.nil ∧ vs = []) ∨ ∃ b ty cells, Row lo h r sz b ty cells vs
theorem Gw.nil (lo : Nat) (h : Heap) (sz : Nat) : Gw lo h Sl.nil sz [] := .inl ⟨rfl, rfl⟩
/-- the blocks of a slice -/
def Sl.on (r : Sl) (i : Nat) : Prop := ∃ a, r.base = some a ∧ a.block = i
theorem Gw.same {lo : Nat} {h h' : Heap} {r : Sl} {sz : Nat} {vs : List Value} (H : Gw lo h r sz vs) (e : ∀ i, Sl.on r i → h'[i]? = h[i]?) : Gw lo h' r sz vs := by
  rcases H with H | ⟨b, ty, cells, H⟩
  · exact .inl H
  · exact .inr ⟨b, ty, cells, H.base, H.lo, (e b ⟨_, H.base, rfl⟩).trans H.blk, H.size, H.cap, H.len, H.get⟩
theorem Gw.lt {lo : Nat} {h : Heap} {r : Sl} {sz : Nat} {vs : List Value} (H : Gw lo h r sz vs) {i : Nat} (hi : Sl.on r i) : i < h.size ∧ lo ≤ i := by
  obtain ⟨a, ha, rfl⟩ := hi
  rcases H with ⟨rfl, _⟩ | ⟨b, ty, cells, H⟩
  · cases ha
  · rw [H.base] at ha
    cases ha
    exact ⟨blk_lt H.blk, H.lo⟩
theorem Gw.reads {lo : Nat} {h : Heap} {r : Sl} {sz : Nat} {vs : List Value} (H : Gw lo h r sz vs) : Reads h r.base vs := by
  rcases H with ⟨_, rfl⟩ | ⟨b, ty, cells, H⟩
  · exact .inl rfl
  · refine .inr ⟨_, H.base, fun j v hj => ?_⟩
    rw [add_mk, Nat.zero_add, hcell_blk H.blk]
    exact H.get j v hj
theorem Gw.cell {lo : Nat} {h : Heap} {r : Sl} {sz : Nat} {vs : List Value} (H : Gw lo h r sz vs) {j : Nat} {v : Value} (hj : vs[j]? = some v) : ∃ b, r.base = some ⟨b, 0, none⟩ ∧ hcell h ⟨b, j, none⟩ = some v := by
  rcases H with ⟨_, rfl⟩ | ⟨b, ty, cells, H⟩
  · cases hj
  · exact ⟨b, H.base, by rw [hcell_blk H.blk]; exact H.get j v hj⟩
theorem Gw.len {lo : Nat} {h : Heap} {r : Sl} {sz : Nat} {vs : List Value} (H : Gw lo h r sz vs) : vs.length = r.len * sz := by
  rcases H with ⟨rfl, rfl⟩ | ⟨b, ty, cells, H⟩
  · simp [Sl.nil]
  · exact H.len
theorem zRow_size (z : Array Value) (n : Nat) : (zRow z n).size = n := by simp [zRow]
/-- append -/
theorem ap_grow {lo : Nat} {h : Heap} {Q : Sl → Heap → Prop} {e sz bytes : Nat} {z : Array Value} {r x : Sl} {vs news : List Value} (hz : z.size = sz) (H : Gw lo h r sz vs) (hn : news.length = x.len * sz) (hr : Reads h x.base news) (h1 : ∀ v ∈ news, one v = true)
    (hb : (r.len + x.len) * bytes ≤ 140737488355328) (hm : r.len + x.len ≤ 9223372036854775807) (hlo : lo ≤ h.size)
    (hq : ∀ h' r', Gw lo h' r' sz (vs ++ news) → r'.len = r.len + x.len → h.size ≤ h'.size → (∀ i, i < h.size → ¬ Sl.on r i → h'[i]? = h[i]?) → (∀ i, Sl.on r' i → Sl.on r i ∨ h.size ≤ i) → Q r' h') : (apL e sz bytes z r x).wp h Q := by
  refine ⟨news, hn, hr, ?_⟩
  unfold apGo
  split
  · rename_i hc
    rcases H with ⟨rfl, rfl⟩ | ⟨b, ty, cells, H⟩
    · have h0 : x.len = 0 := by simp [Sl.nil] at hc; exact hc
      have : news = [] := List.length_eq_zero_iff.1 (by rw [hn, h0]; simp)
      subst this
      refine ⟨fun a ha => (by cases ha), by simp, ?_⟩
      rw [h0]
      exact hq h _ (.inl ⟨rfl, rfl⟩) (by rw [h0]) (Nat.le_refl _) (fun i _ _ => rfl) (fun i hi => .inl hi)
    · have hsz : r.len * sz + news.length ≤ cells.size := by
        rw [hn, H.size, ← Nat.add_mul]
        exact Nat.mul_le_mul_right _ hc
      have hblk : (hputL h r.base (r.len * sz) news)[b]? = some (.cells (lay cells (r.len * sz) news) ty (0, 0)) := by
        rw [H.base]
        show (hsetL h ((⟨b, 0, none⟩ : Addr).add (r.len * sz)) news 0)[b]? = _
        rw [add_mk, Nat.zero_add, hsetL_at _ _ _ _ H.blk, Nat.add_zero]
      have hne : ∀ i, i ≠ b → (hputL h r.base (r.len * sz) news)[i]? = h[i]? := fun i hi => by
        rw [H.base]
        show (hsetL h ((⟨b, 0, none⟩ : Addr).add (r.len * sz)) news 0)[i]? = _
        rw [add_mk, hsetL_ne hi]
      have hsize : (hputL h r.base (r.len * sz) news).size = h.size := by
        rw [H.base]
        exact hsetL_size _ _ _
      refine ⟨fun a ha j hj => ?_, h1, hq _ _ (.inr ⟨b, ty, _, H.base, H.lo, hblk, ?_, hc, ?_, fun j v hj => ?_⟩) rfl (by rw [hsize]; exact Nat.le_refl _) (fun i hi hno => hne i (fun e => hno ⟨_, H.base, e.symm⟩)) (fun i hi => .inl hi)⟩
      · rw [H.base] at ha; cases ha
        rw [add_mk, add_mk, Nat.zero_add, hcell_blk H.blk, hfrozen_blk H.blk]
        exact ⟨⟨_, Array.getElem?_eq_getElem (by omega)⟩, rfl⟩
      · rw [lay_size]; exact H.size
      · rw [List.length_append, H.len, hn, Nat.add_mul]
      · rw [← Array.getElem?_toList, lay_toList _ _ _ hsz]
        have hlen : (cells.toList.take (r.len * sz)).length = r.len * sz := by rw [List.length_take, Array.length_toList]; omega
        by_cases hj1 : j < vs.length
        · rw [List.getElem?_append_left hj1] at hj
          have := H.get j v hj
          rw [List.append_assoc, List.getElem?_append_left (by rw [hlen, ← H.len]; exact hj1), List.getElem?_take, if_pos (by rw [← H.len]; exact hj1), Array.getElem?_toList]
          exact this
        · rw [List.getElem?_append_right (by omega)] at hj
          have hjn : j - vs.length < news.length := (List.getElem?_eq_some_iff.1 hj).1
          rw [List.append_assoc, List.getElem?_append_right (by rw [hlen, ← H.len]; omega), hlen, List.getElem?_append_left (by rw [← H.len]; exact hjn), ← H.len]
          exact hj
  · rename_i hc
    refine ⟨hb, hm, vs, H.len, H.reads, fun cap hcap => ?_⟩
    have hl := H.len
    refine hq _ _ (.inr ⟨h.size, e, _, rfl, hlo, get_push_eq, ?_, hcap, ?_, fun j v hj => ?_⟩) rfl (by simp) (fun i hi _ => get_push_lt hi) (fun i hi => .inr ?_)
    · rw [Array.size_append, Array.size_append, zRow_size, List.size_toArray, List.size_toArray, hl, hn, hz]
      show r.len * sz + x.len * sz + (cap - (r.len + x.len)) * sz = cap * sz
      rw [← Nat.add_mul, ← Nat.add_mul]
      congr 1
      omega
    · rw [List.length_append, hl, hn, Nat.add_mul]
    · have hlt : j < (vs ++ news).length := (List.getElem?_eq_some_iff.1 hj).1
      rw [Array.getElem?_append_left (by simpa using hlt)]
      rw [← hj]
      simp
    · obtain ⟨a, ha, rfl⟩ := hi
      cases ha
      exact Nat.le_refl _
/-- rows of one width, one behind the other -/
theorem flat_get {α : Type} {f : α → List Value} {w : Nat} (hw : ∀ x, (f x).length = w) : ∀ (l : List α) (i j : Nat), j < w → (l.flatMap f)[i * w + j]? = (l[i]?).bind fun x => (f x)[j]?
  | [], i, j, hj => by simp
  | x :: l, i, j, hj => by
    rw [List.flatMap_cons]
    cases i with
    | zero =>
      rw [List.getElem?_append_left (by rw [hw]; omega)]
      simp
    | succ i =>
      rw [List.getElem?_append_right (by rw [hw, Nat.add_mul]; omega), hw, show (i + 1) * w + j - w = i * w + j by rw [Nat.add_mul]; omega, flat_get hw l i j hj]
      simp
theorem flat_len {α : Type} {f : α → List Value} {w : Nat} (hw : ∀ x, (f x).length = w) (l : List α) : (l.flatMap f).length = l.length * w := by
  induction l with
  | nil => simp
  | cons x l ih => rw [List.flatMap_cons, List.length_append, hw, ih, List.length_cons, Nat.add_mul]; omega
end Gx
