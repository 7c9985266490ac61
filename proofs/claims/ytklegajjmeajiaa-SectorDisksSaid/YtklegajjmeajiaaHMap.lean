/- Own proofs: what those Lean programs compute. No condition. -/
import Derived.Test.YtklegajjmeajiaaHSeal
namespace Gx
open Go
set_option linter.unusedVariables false
set_option linter.unusedSectionVars false
set_option linter.unusedSimpArgs false
section
variable {κ τ τ' : Type} [DecidableEq κ] {kd : TypeDesc} {key : κ → Value} {dec : τ → Value} {dec' : τ' → Value} {h : Heap} {β : Type} {Q : β → Heap → Prop}
/-- keys are compared as they are -/
def KeyF (kd : TypeDesc) (key : κ → Value) : Prop := ∀ a b, Instr.sameNow kd (key a) (key b) = some (decide (a = b))
theorem keyI {k : IntKind} : KeyF (.int k) (fun n : Int => Value.int k n) := fun a b => by
  simp only [Instr.sameNow, if_pos]
  rfl
/-- a key's value -/
def mlk (k : κ) (l : List (κ × τ)) : Option τ := (l.find? fun p => decide (p.1 = k)).map Prod.snd
/-- a key's value is laid -/
def mput (k : κ) (v : τ) (l : List (κ × τ)) : List (κ × τ) := if k ∈ l.map Prod.fst then l.map (fun p => if p.1 = k then (k, v) else p) else l ++ [(k, v)]
/-- a map in the heap -/
structure MapR (h : Heap) (m : Nat) (key : κ → Value) (dec : τ → Value) (l : List (κ × τ)) (es : Array MapEntry) (clock : Nat) : Prop where
  blk : h[m]? = some (.map es clock)
  ents : es.toList.map (fun e => (e.key, e.val)) = l.map fun p => (key p.1, dec p.2)
  keys : (l.map Prod.fst).Nodup
  born : ∀ e ∈ es.toList, e.born < clock
  borns : (es.toList.map (·.born)).Nodup
theorem MapR.size {m : Nat} {l : List (κ × τ)} {es : Array MapEntry} {c : Nat} (H : MapR h m key dec l es c) : es.size = l.length := by
  have := congrArg List.length H.ents
  simpa using this
theorem MapR.get {m : Nat} {l : List (κ × τ)} {es : Array MapEntry} {c : Nat} (H : MapR h m key dec l es c) {j : Nat} {p : κ × τ} (hj : l[j]? = some p) : ∃ b, es[j]? = some ⟨key p.1, dec p.2, b⟩ := by
  have := congrArg (·[j]?) H.ents
  simp only [List.getElem?_map, hj, Option.map_some] at this
  cases he : es[j]? with
  | none => rw [Array.getElem?_toList, he] at this; cases this
  | some e =>
    rw [Array.getElem?_toList, he] at this
    simp only [Option.map_some, Option.some.injEq, Prod.mk.injEq] at this
    obtain ⟨k, v, b⟩ := e
    simp only at this
    rw [this.1, this.2]
    exact ⟨b, rfl⟩
theorem find_spec (hk : KeyF kd key) (k : κ) : ∀ (l : List (κ × τ)) (es : List MapEntry) (i : Nat), es.map (fun e => (e.key, e.val)) = l.map (fun p => (key p.1, dec p.2)) →
    (mlk k l = none ∧ k ∉ l.map Prod.fst ∧ Instr.findNow kd (key k) es i = some none) ∨ (∃ j v, l[j]? = some (k, v) ∧ k ∈ l.map Prod.fst ∧ mlk k l = some v ∧ Instr.findNow kd (key k) es i = some (some (i + j, dec v)))
  | [], es, i, he => by
    have : es = [] := by simpa using he
    subst this
    exact .inl ⟨rfl, by simp, rfl⟩
  | p :: l, es, i, he => by
    cases es with
    | nil => simp at he
    | cons e es =>
      simp only [List.map_cons, List.cons.injEq, Prod.mk.injEq] at he
      obtain ⟨⟨h1, h2⟩, h3⟩ := he
      by_cases hp : p.1 = k
      · refine .inr ⟨0, p.2, by rw [← hp]; rfl, by simp [hp], by simp [mlk, hp], ?_⟩
        unfold Instr.findNow
        rw [h1, hk, hp, h2]
        simp
      · have hne : ¬ k = p.1 := fun e => hp e.symm
        have hf : Instr.findNow kd (key k) (e :: es) i = Instr.findNow kd (key k) es (i + 1) := by
          conv => lhs; unfold Instr.findNow
          rw [h1, hk]
          simp [hne]
        rcases find_spec hk k l es (i + 1) h3 with ⟨a, b, c⟩ | ⟨j, v, a, b, c, d⟩
        · refine .inl ⟨by simpa [mlk, hp] using a, ?_, by rw [hf, c]⟩
          simp only [List.map_cons, List.mem_cons, not_or]
          exact ⟨hne, b⟩
        · refine .inr ⟨j + 1, v, by simpa using a, ?_, by simpa [mlk, hp] using c, by rw [hf, d]; congr 3; omega⟩
          simp only [List.map_cons, List.mem_cons]
          exact .inr b
theorem MapR.ext {m : Nat} {l : List (κ × τ)} {es : Array MapEntry} {c : Nat} {h' : Heap} (H : MapR h m key dec l es c) (e : h'[m]? = h[m]?) : MapR h' m key dec l es c := ⟨e.trans H.blk, H.ents, H.keys, H.born, H.borns⟩
theorem lkM_b {m : Nat} {l : List (κ × τ)} {es : Array MapEntry} {c : Nat} {k : κ} {z : Value} {g : τ → τ'} {z' : τ'} {f : τ' × Bool → M β} (hk : KeyF kd key) (H : MapR h m key dec l es c) (hg : ∀ v, dec' (g v) = dec v) (hz : dec' z' = z)
    (H' : (f (match mlk k l with | some v => g v | none => z', (mlk k l).isSome)).wp h Q) : (lkM dec' kd (key k) z (some m) >>= f).wp h Q := by
  refine ⟨_, ?_, H'⟩
  have hm : mget h (some m) = some es := by simp only [mget, H.blk]
  rcases find_spec hk k l es.toList 0 H.ents with ⟨a, b, d⟩ | ⟨j, v, a, b, d, e⟩
  · refine ⟨es, none, hm, d, ?_, ?_⟩
    · simp only [a, hz]
    · simp only [a]; rfl
  · refine ⟨es, _, hm, e, ?_, ?_⟩
    · simp only [d, hg]
    · simp only [d]; rfl
theorem mput_mem {k : κ} {v : τ} {l : List (κ × τ)} (h : k ∈ l.map Prod.fst) : (mput k v l).map Prod.fst = l.map Prod.fst := by
  unfold mput
  rw [if_pos h, List.map_map]
  apply List.map_congr_left
  intro p _
  show (if p.1 = k then (k, v) else p).1 = p.1
  split <;> simp_all
theorem mput_not {k : κ} {v : τ} {l : List (κ × τ)} (h : k ∉ l.map Prod.fst) : mput k v l = l ++ [(k, v)] := by
  unfold mput
  rw [if_neg h]
theorem mlk_put (k k' : κ) (v : τ) (l : List (κ × τ)) : mlk k' (mput k v l) = if k' = k then some v else mlk k' l := by
  have aux : ∀ l : List (κ × τ), mlk k' (l.map fun p => if p.1 = k then (k, v) else p) = if k' = k then (if k ∈ l.map Prod.fst then some v else none) else mlk k' l := by
    intro l
    induction l with
    | nil => simp [mlk]
    | cons p l ih =>
      unfold mlk at ih ⊢
      simp only [List.map_cons, List.find?_cons]
      by_cases h1 : p.1 = k
      · by_cases h2 : k' = k
        · subst h2; simp [h1]
        · have h3 : ¬ k = k' := fun e => h2 e.symm
          simp only [h1, if_true, h3, decide_false, h2, if_false]
          rw [ih, if_neg h2]
      · by_cases h2 : k' = k
        · subst h2
          simp only [h1, if_false, decide_false, if_true]
          rw [ih, if_pos rfl]
          simp only [List.mem_cons]
          have h3 : ¬ k' = p.1 := fun e => h1 e.symm
          simp only [h3, false_or]
        · by_cases h3 : p.1 = k'
          · simp [h1, h2, h3]
          · simp only [h1, if_false, h3, decide_false, h2]
            rw [ih, if_neg h2]
  unfold mput
  split
  · rename_i hm
    rw [aux, if_pos hm]
  · rename_i hm
    unfold mlk
    rw [List.find?_append]
    by_cases h2 : k' = k
    · subst h2
      have : l.find? (fun p => decide (p.1 = k')) = none := by
        rw [List.find?_eq_none]
        intro p hp he
        exact hm (List.mem_map.2 ⟨p, hp, by simpa using he⟩)
      rw [this]
      simp
    · have h3 : ¬ k = k' := fun e => h2 e.symm
      simp [h2, h3]
theorem upM_b {m : Nat} {l : List (κ × τ)} {es : Array MapEntry} {c : Nat} {k : κ} {v : τ} {w : Value} {f : Unit → M β} (hk : KeyF kd key) (H : MapR h m key dec l es c) (hw : w = dec v)
    (H' : ∀ h' es' c', Upd m h h' → MapR h' m key dec (mput k v l) es' c' → (f ()).wp h' Q) : (upM kd (key k) w (some m) >>= f).wp h Q := by
  subst hw
  have hlt := blk_lt H.blk
  have setU : ∀ o : Obj, Upd m h (h.set! m o) := fun o => ⟨by simp, fun i hi => by simp [Array.getElem?_setIfInBounds, Ne.symm hi]⟩
  have setG : ∀ o : Obj, (h.set! m o)[m]? = some o := fun o => by simp [hlt]
  rcases find_spec hk k l es.toList 0 H.ents with ⟨a, b, d⟩ | ⟨j, u, a, b, d, e⟩
  · refine ⟨(), ⟨m, es, c, _, rfl, H.blk, d⟩, ?_⟩
    have : hup kd (key k) (dec v) (some m) h = h.set! m (.map (es.push { key := key k, val := dec v, born := c }) (c + 1)) := by
      simp only [hup, H.blk, d]
    rw [this]
    refine H' _ _ _ (setU _) ⟨setG _, ?_, ?_, ?_, ?_⟩
    · rw [mput_not b, Array.toList_push, List.map_append, List.map_append, H.ents]; rfl
    · rw [mput_not b, List.map_append, List.nodup_append]
      refine ⟨H.keys, by simp, ?_⟩
      intro x hx y hy
      simp at hy
      subst hy
      intro e; subst e; exact b hx
    · intro e he
      rw [Array.toList_push, List.mem_append] at he
      rcases he with he | he
      · have := H.born e he; omega
      · simp at he; subst he; simp
    · rw [Array.toList_push, List.map_append, List.nodup_append]
      refine ⟨H.borns, by simp, ?_⟩
      intro x hx y hy
      simp at hy
      obtain ⟨e, he, rfl⟩ := List.mem_map.1 hx
      have := H.born e he
      omega
  · refine ⟨(), ⟨m, es, c, _, rfl, H.blk, e⟩, ?_⟩
    have : hup kd (key k) (dec v) (some m) h = h.set! m (.map (es.modify j fun e => { e with key := key k, val := dec v }) c) := by
      simp only [hup, H.blk, e, Nat.zero_add]
    rw [this]
    have hes : (es.modify j fun e => { e with key := key k, val := dec v }).toList.map (·.born) = es.toList.map (·.born) := by
      apply List.ext_getElem?
      intro i
      simp only [List.getElem?_map, Array.getElem?_toList, Array.getElem?_modify]
      split
      · rename_i hij
        cases es[i]? <;> rfl
      · rfl
    refine H' _ _ _ (setU _) ⟨setG _, ?_, ?_, ?_, ?_⟩
    · apply List.ext_getElem?
      intro i
      have hi := congrArg (·[i]?) H.ents
      simp only [List.getElem?_map, Array.getElem?_toList, Array.getElem?_modify] at hi ⊢
      unfold mput
      rw [if_pos b, List.getElem?_map]
      split
      · rename_i hij
        subst hij
        rw [a]
        rw [a] at hi
        cases hx : es[j]? with
        | none => rw [hx] at hi; cases hi
        | some e => simp
      · rename_i hij
        rw [hi]
        cases hx : l[i]? with
        | none => rfl
        | some p =>
          have hne : ¬ p.1 = k := by
            intro ep
            have n1 : (l.map Prod.fst)[i]? = some k := by simp [hx, ep]
            have n2 : (l.map Prod.fst)[j]? = some k := by simp [a]
            have := (List.getElem?_inj (i := i) (j := j) (by have := (List.getElem?_eq_some_iff.1 n1).1; exact this) H.keys).1 (n1.trans n2.symm)
            exact hij this.symm
          simp [hne]
    · rw [mput_mem b]; exact H.keys
    · intro e he
      have : e.born ∈ (es.modify j fun e => { e with key := key k, val := dec v }).toList.map (·.born) := List.mem_map.2 ⟨e, he, rfl⟩
      rw [hes] at this
      obtain ⟨e', he', hb⟩ := List.mem_map.1 this
      rw [← hb]
      exact H.born e' he'
    · rw [hes]; exact H.borns
theorem clM_b {m : Nat} {l : List (κ × τ)} {es : Array MapEntry} {c : Nat} {f : Unit → M β} (H : MapR h m key dec l es c)
    (H' : ∀ h', Upd m h h' → MapR h' m key dec [] #[] c → (f ()).wp h' Q) : (clM (some m) >>= f).wp h Q := by
  have hlt := blk_lt H.blk
  refine ⟨(), .inr ⟨m, es, c, rfl, H.blk⟩, ?_⟩
  have : hcl (some m) h = h.set! m (.map #[] c) := by simp only [hcl, H.blk]
  rw [this]
  exact H' _ ⟨by simp, fun i hi => by simp [Array.getElem?_setIfInBounds, Ne.symm hi]⟩ ⟨by simp [hlt], rfl, by simp, by simp, by simp⟩
theorem mkMap_r {f : Option Nat → M β} (H : ∀ h', Ext h h' → h'.size = h.size + 1 → MapR h' h.size key dec [] #[] 0 → (f (some h.size)).wp h' Q) : (mkMap >>= f).wp h Q :=
  mkMap_b (H _ (Ext.push _ _) (by simp) ⟨get_push_eq, rfl, by simp, by simp, by simp⟩)
/-- a range over a map, at which the entries js were told -/
structure ItR (h : Heap) (it m : Nat) (key : κ → Value) (dec : τ → Value) (l : List (κ × τ)) (es : Array MapEntry) (clock : Nat) (js : List Nat) : Prop where
  map : MapR h m key dec l es clock
  it : ∃ since seen, h[it]? = some (.mapIter (some m) since seen clock) ∧ (∀ e ∈ es.toList, e.born < since) ∧ seen.toList = js.map (fun j => match es[j]? with | some e => e.born | none => 0)
  nodup : js.Nodup
  lt : ∀ j ∈ js, j < l.length
theorem rgM_b {m : Nat} {l : List (κ × τ)} {es : Array MapEntry} {c : Nat} {f : Addr → M β} (H : MapR h m key dec l es c)
    (H' : ∀ h', Ext h h' → h'.size = h.size + 1 → ItR h' h.size m key dec l es c [] → (f ⟨h.size, 0, none⟩).wp h' Q) : (rgM (some m) >>= f).wp h Q := by
  refine ⟨_, ⟨rfl, .inr ⟨m, es, c, rfl, H.blk⟩⟩, ?_⟩
  have e1 := Ext.push h (hit (some m) h)
  refine H' _ e1 (by simp) ⟨⟨e1.blk H.blk, H.ents, H.keys, H.born, H.borns⟩, ⟨c, #[], ?_, fun e he => H.born e he, rfl⟩, by simp, by simp⟩
  have : hit (some m) h = .mapIter (some m) c #[] c := by simp only [hit, H.blk]
  rw [this]
  exact get_push_eq
theorem nxM_b {it m : Nat} {l : List (κ × τ)} {es : Array MapEntry} {c : Nat} {js : List Nat} {f : Value → M β} (hne : it ≠ m) (H : ItR h it m key dec l es c js)
    (H1 : ∀ j p, l[j]? = some p → j ∉ js → ∀ h', Upd it h h' → ItR h' it m key dec l es c (js ++ [j]) → (f (.tuple #[.bool true, key p.1, dec p.2])).wp h' Q)
    (H2 : (∀ j, j < l.length → j ∈ js) → (f (.tuple #[.bool false])).wp h Q) : (nxM ⟨it, 0, none⟩ >>= f).wp h Q := by
  obtain ⟨since, seen, hi, hb, hs⟩ := H.it
  have hlt := blk_lt hi
  have hsz := H.map.size
  have bornj : ∀ j (hj : j < es.size), (match es[j]? with | some e => e.born | none => 0) = es[j].born := fun j hj => by rw [Array.getElem?_eq_getElem hj]
  have inj : ∀ i j (hi : i < es.size) (hj : j < es.size), es[i].born = es[j].born → i = j := fun i j hi hj e => by
    have n1 : (es.toList.map (·.born))[i]? = some es[i].born := by simp [hi]
    have n2 : (es.toList.map (·.born))[j]? = some es[j].born := by simp [hj]
    exact (List.getElem?_inj (by simpa using hi) H.map.borns).1 (by rw [n1, n2, e])
  have mem : ∀ j (hj : j < es.size), seen.contains es[j].born = true ↔ j ∈ js := fun j hj => by
    rw [Array.contains_iff_mem, ← Array.mem_toList_iff, hs, List.mem_map]
    constructor
    · rintro ⟨i, hi, he⟩
      have hil : i < es.size := by have := H.lt i hi; omega
      rw [bornj i hil] at he
      rw [← inj i j hil hj he]; exact hi
    · intro hj'
      exact ⟨j, hj', bornj j hj⟩
  refine ⟨rfl, .inr ⟨m, since, seen, c, es, c, hi, H.map.blk, ?_, fun _ _ _ => .inr trivial, ?_, ?_⟩⟩
  · rw [Bool.and_eq_false_iff]
    by_cases he : es.isEmpty
    · left; simp [he]
    · right
      rw [Array.all_eq_false]
      have h0 : 0 < es.size := by
        rcases Nat.eq_zero_or_pos es.size with h' | h'
        · exact absurd (by simpa using h') he
        · exact h'
      refine ⟨0, h0, ?_⟩
      have := H.map.born es[0] (by simp)
      simp; omega
  · intro e he hc
    obtain ⟨j, hj, rfl⟩ := Array.mem_iff_getElem.1 he
    have hj' : j < l.length := by omega
    have hnj : j ∉ js := fun hm => by rw [(mem j hj).2 hm] at hc; cases hc
    have hlj : l[j]? = some l[j] := List.getElem?_eq_getElem hj'
    obtain ⟨b, hb'⟩ := H.map.get hlj
    have hek : es[j] = ⟨key l[j].1, dec l[j].2, b⟩ := by
      rw [Array.getElem?_eq_getElem hj] at hb'
      exact Option.some.inj hb'
    have hu : Upd it h (h.set! it (.mapIter (some m) since (seen.push es[j].born) c)) := ⟨by simp, fun i hi => by simp [Array.getElem?_setIfInBounds, Ne.symm hi]⟩
    have hgo := H1 j l[j] hlj hnj _ hu ⟨H.map.ext (hu.ne m hne.symm), ⟨since, seen.push es[j].born, by simp [hlt], hb, ?_⟩, ?_, ?_⟩
    · have e1 : es[j].key = key l[j].1 := by rw [hek]
      have e2 : es[j].val = dec l[j].2 := by rw [hek]
      rw [e1, e2]
      exact hgo
    · rw [Array.toList_push, hs, List.map_append]
      simp only [List.map_cons, List.map_nil, bornj j hj]
    · rw [List.nodup_append]
      refine ⟨H.nodup, by simp, ?_⟩
      intro x hx y hy
      simp at hy; subst hy
      intro e; subst e; exact hnj hx
    · intro x hx
      rw [List.mem_append] at hx
      rcases hx with hx | hx
      · exact H.lt x hx
      · simp at hx; omega
  · intro hall
    refine H2 (fun j hj => ?_)
    have hj' : j < es.size := by omega
    rw [← mem j hj']
    cases hc : seen.contains es[j].born with
    | true => rfl
    | false =>
      have h1 := hall es[j] (by simp) hc
      have h2 := hb es[j] (by simp)
      omega
theorem enM_b {it m : Nat} {l : List (κ × τ)} {es : Array MapEntry} {c : Nat} {js : List Nat} {j : Nat} {p : κ × τ} {f : Value × Value → M β} (H : ItR h it m key dec l es c (js ++ [j])) (hj : l[j]? = some p)
    (H' : (f (key p.1, dec p.2)).wp h Q) : (enM ⟨it, 0, none⟩ >>= f).wp h Q := by
  obtain ⟨since, seen, hi, hb, hs⟩ := H.it
  obtain ⟨b, he⟩ := H.map.get hj
  have hjs : j < es.size := by rw [H.map.size]; exact (List.getElem?_eq_some_iff.1 hj).1
  have hej : es[j] = ⟨key p.1, dec p.2, b⟩ := by rw [Array.getElem?_eq_getElem hjs] at he; exact Option.some.inj he
  have inj : ∀ i (hi : i < es.size), es[i].born = b → i = j := fun i hi e => by
    have n1 : (es.toList.map (·.born))[i]? = some es[i].born := by simp [hi]
    have n2 : (es.toList.map (·.born))[j]? = some es[j].born := by simp [hjs]
    exact (List.getElem?_inj (by simpa using hi) H.map.borns).1 (by rw [n1, n2, e, hej])
  refine ⟨(key p.1, dec p.2), ⟨rfl, m, since, seen, c, es, b, ⟨key p.1, dec p.2, b⟩, hi, ?_, H.map.blk, ?_, rfl⟩, H'⟩
  · rw [← Array.getLast?_toList, hs]
    simp [he]
  · rw [Array.find?_eq_some_iff_getElem]
    refine ⟨by simp, j, hjs, hej, ?_⟩
    intro i hi'
    simp only [beq_iff_eq, Bool.not_eq_true', beq_eq_false_iff_ne]
    intro e
    have := inj i (by omega) e
    omega
end
end Gx
