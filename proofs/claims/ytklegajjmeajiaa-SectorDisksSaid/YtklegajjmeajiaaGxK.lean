/- Own library: a small logic of Lean programs over the model's heap, with the laws that tie Go code to it. No condition. -/
import Derived.Test.YtklegajjmeajiaaGxC
import Derived.Test.YtklegajjmeajiaaGxL
namespace Gx
open Go Gx.Last

/-! ### A region's order, held as tables -/
def depsT (ops : Array Oper) : List (List Nat) := ops.toList.map fun o => (o.after.toList.filter (Region.binds .any)).map (·.on)
def confT (ops : Array Oper) : List (List Nat) := (List.range ops.size).map fun i => match ops[i]? with
  | none => []
  | some oi => (List.range ops.size).filter fun j => !(j == i || match ops[j]? with
      | some oj => oj.after.any (fun e => Region.binds .any e && e.on == i) || oi.apart ops oj
      | none => true)
/-- W: all that a number waits for; E: what it waits for at once -/
def ancOk (E W : List (List Nat)) : Bool := (List.range W.length).all fun d => (W.getD d []).all fun x => (E.getD d []).any fun j => Nat.blt j d && (j == x || (W.getD j []).contains x)
def tabB (ops : Array Oper) (E C W : List (List Nat)) : Bool := Region.noSelect ops && depsT ops == E && confT ops == C && ancOk E W
structure Tab (ops : Array Oper) (E C W : List (List Nat)) : Prop where
  sel : Region.noSelect ops = true
  deps : depsT ops = E
  conf : confT ops = C
  anc : ancOk E W = true
theorem Tab.of {ops : Array Oper} {E C W : List (List Nat)} (h : tabB ops E C W = true) : Tab ops E C W := by
  simp only [tabB, Bool.and_eq_true, beq_iff_eq] at h
  exact ⟨h.1.1.1, h.1.1.2, h.1.2, h.2⟩
def findReg (id : Nat) : Code → Option (Array Oper)
  | .region i ops _ => bif Nat.beq i id then some ops else none
  | .seq a b => match findReg id a with
    | some o => some o
    | none => findReg id b
  | .cond _ a b => match findReg id a with
    | some o => some o
    | none => findReg id b
  | .block _ c => findReg id c
  | .loop c => findReg id c
  | .scope c => findReg id c
  | .rangeFunc _ _ a b => match findReg id a with
    | some o => some o
    | none => findReg id b
  | _ => none
def tabAt (f : Func) (id : Nat) (E C W : List (List Nat)) : Bool := match f.body with
  | some c => match findReg id c with
    | some ops => tabB ops E C W
    | none => false
  | none => false
theorem tab_of {f : Func} {id : Nat} {E C W : List (List Nat)} {c : Code} {ops : Array Oper} (h : tabAt f id E C W = true) (hb : f.body = some c) (hf : findReg id c = some ops) : Tab ops E C W := by
  unfold tabAt at h
  rw [hb] at h
  simp only [hf] at h
  exact Tab.of h

def readyT (E : List (List Nat)) (b : Array Bool) : List Nat := (List.range E.length).filter fun i => !b.getD i true && (E.getD i []).all fun j => b.getD j false
def isReadyT (E : List (List Nat)) (b : Array Bool) (i : Nat) : Bool := Nat.blt i E.length && !b.getD i true && (E.getD i []).all fun j => b.getD j false
def freeT (C : List (List Nat)) (b : Array Bool) (i : Nat) : Bool := (C.getD i []).all fun j => b.getD j true
def closedT (E : List (List Nat)) (b : Array Bool) : Bool := (List.range E.length).all fun j => !b.getD j false || (E.getD j []).all fun e => b.getD e false
def lastT (W : List (List Nat)) (b : Array Bool) (ds : List Nat) (i : Nat) : Bool := ds.all fun d => b.getD d true || (W.getD d []).contains i

section
variable {ops : Array Oper} {E C W : List (List Nat)} {b : Array Bool} {i : Nat}
theorem Tab.len (h : Tab ops E C W) : E.length = ops.size := by rw [← h.deps]; simp [depsT]
theorem Tab.at_ (h : Tab ops E C W) {o : Oper} (ho : ops[i]? = some o) : E.getD i [] = (o.after.toList.filter (Region.binds .any)).map (·.on) := by
  rw [← h.deps]
  have : (depsT ops)[i]? = some ((o.after.toList.filter (Region.binds .any)).map (·.on)) := by
    simp [depsT, ho]
  rw [List.getD_eq_getElem?_getD, this]
  rfl
theorem Tab.allAfter (h : Tab ops E C W) {o : Oper} (ho : ops[i]? = some o) (p : Nat → Bool) : (E.getD i []).all p = o.after.all fun e => !Region.binds .any e || p e.on := by
  rw [h.at_ ho, ← Array.all_toList]
  induction o.after.toList with
  | nil => rfl
  | cons e r ih =>
    by_cases hb : Region.binds .any e = true
    · simp only [List.filter_cons, hb, if_true, List.map_cons, List.all_cons, ih, Bool.not_true, Bool.false_or]
    · have hb' : Region.binds .any e = false := by simpa using hb
      simp only [List.filter_cons, hb', Bool.false_eq_true, if_false, List.all_cons, ih, Bool.not_false, Bool.true_or, Bool.true_and]
theorem Tab.ready (h : Tab ops E C W) : Region.ready .any ops b = readyT E b := by
  unfold Region.ready readyT
  rw [h.len]
  apply List.filter_congr
  intro j hj
  have hlt : j < ops.size := by simpa using hj
  have ho : ops[j]? = some ops[j] := Array.getElem?_eq_getElem hlt
  rw [h.allAfter ho, ho]
  rfl
theorem Tab.isReady (h : Tab ops E C W) (hr : isReadyT E b i = true) : i ∈ Region.ready .any ops b := by
  rw [h.ready]
  simp only [isReadyT, Bool.and_eq_true, Nat.blt_eq] at hr
  unfold readyT
  rw [List.mem_filter]
  exact ⟨by simpa using hr.1.1, by simp only [Bool.and_eq_true]; exact ⟨hr.1.2, hr.2⟩⟩
theorem Tab.free (h : Tab ops E C W) {oi : Oper} (hi : ops[i]? = some oi) (hf : freeT C b i = true) : Region.free .any ops b i = true := by
  have hlt := (Array.getElem?_eq_some_iff.1 hi).1
  have hc : C.getD i [] = (List.range ops.size).filter fun j => !(j == i || match ops[j]? with
      | some oj => oj.after.any (fun e => Region.binds .any e && e.on == i) || oi.apart ops oj
      | none => true) := by
    rw [← h.conf, List.getD_eq_getElem?_getD]
    simp only [confT, List.getElem?_map, List.getElem?_range hlt, Option.map_some, hi, Option.getD_some]
  unfold freeT at hf
  rw [hc] at hf
  unfold Region.free
  rw [hi]
  simp only [List.all_eq_true, List.mem_range] at hf ⊢
  intro j hj
  by_cases hp : (j == i || match ops[j]? with
      | some oj => oj.after.any (fun e => Region.binds .any e && e.on == i) || oi.apart ops oj
      | none => true) = true
  · simp only [Bool.or_eq_true] at hp ⊢
    rcases hp with hp | hp
    · exact .inl (.inl hp)
    · exact .inr hp
  · have := hf j (by rw [List.mem_filter]; exact ⟨by simpa using hj, by simpa using hp⟩)
    simp only [Bool.or_eq_true]
    exact .inl (.inr this)
theorem Tab.closed (h : Tab ops E C W) (hc : closedT E b = true) : Region.closedB .any ops b = true := by
  unfold closedT at hc
  unfold Region.closedB
  rw [h.len] at hc
  simp only [List.all_eq_true, List.mem_range] at hc ⊢
  intro j hj
  have ho : ops[j]? = some ops[j] := Array.getElem?_eq_getElem hj
  have := hc j hj
  rw [h.allAfter ho] at this
  rw [ho]
  exact this
theorem Tab.reach (h : Tab ops E C W) : ∀ (fuel d : Nat), d < fuel → (W.getD d []).contains i = true → Region.reachB .any ops i fuel d = true := by
  intro fuel
  induction fuel with
  | zero => intro d hd; omega
  | succ fuel ih =>
    intro d hd hw
    have ha := h.anc
    unfold ancOk at ha
    simp only [List.all_eq_true, List.mem_range] at ha
    have hdl : d < W.length := by
      rcases Nat.lt_or_ge d W.length with h' | h'
      · exact h'
      · rw [List.getD_eq_getElem?_getD, List.getElem?_eq_none h'] at hw; simp at hw
    have h1 := ha d hdl i (by simpa using hw)
    rw [List.any_eq_true] at h1
    obtain ⟨j, hj, h2⟩ := h1
    simp only [Bool.and_eq_true, Nat.blt_eq, Bool.or_eq_true] at h2
    have hdo : d < ops.size := by
      rw [← h.len]
      rcases Nat.lt_or_ge d E.length with h' | h'
      · exact h'
      · rw [List.getD_eq_getElem?_getD, List.getElem?_eq_none h'] at hj; simp at hj
    have ho : ops[d]? = some ops[d] := Array.getElem?_eq_getElem hdo
    rw [h.at_ ho] at hj
    simp only [List.mem_map, List.mem_filter] at hj
    obtain ⟨e, ⟨he, hb⟩, rfl⟩ := hj
    unfold Region.reachB
    rw [ho]
    simp only
    rw [Array.any_eq_true']
    refine ⟨e, by simpa using he, ?_⟩
    simp only [Bool.and_eq_true, Bool.or_eq_true]
    refine ⟨hb, ?_⟩
    rcases h2.2 with h3 | h3
    · exact .inl h3
    · exact .inr (ih e.on (by omega) h3)
theorem Tab.last (h : Tab ops E C W) {ds : List Nat} (hl : lastT W b ds i = true) : Region.lastB .any ops b ds i = true := by
  unfold lastT at hl
  unfold Region.lastB
  simp only [List.all_eq_true, Bool.or_eq_true] at hl ⊢
  intro d hd
  rcases hl d hd with h1 | h1
  · exact .inl h1
  · by_cases hdo : d < ops.size
    · exact .inr (h.reach ops.size d hdo h1)
    · have hw : (E.getD d []) = [] := by rw [List.getD_eq_getElem?_getD, List.getElem?_eq_none (by rw [h.len]; omega)]; rfl
      have ha := h.anc
      unfold ancOk at ha
      simp only [List.all_eq_true, List.mem_range] at ha
      have hdl : d < W.length := by
        rcases Nat.lt_or_ge d W.length with h' | h'
        · exact h'
        · rw [List.getD_eq_getElem?_getD, List.getElem?_eq_none h'] at h1; simp at h1
      have h2 := ha d hdl i (by simpa using h1)
      rw [hw] at h2
      simp at h2
end
def setB (b b' : Array Bool) (i : Nat) : Bool := b.setIfInBounds i true == b'
/-- one check a step -/
def anyT (E C : List (List Nat)) (b b' : Array Bool) (i : Nat) : Bool := freeT C b i && isReadyT E b i && setB b b' i
def takeT (E C W : List (List Nat)) (ds : List Nat) (b b' : Array Bool) (i : Nat) : Bool := freeT C b i && isReadyT E b i && closedT E b && lastT W b ds i && setB b b' i
def oneT (E : List (List Nat)) (b b' : Array Bool) (i : Nat) : Bool := readyT E b == [i] && setB b b' i
section
variable {ops : Array Oper} {E C W : List (List Nat)} {b b' : Array Bool} {i : Nat} {ds : List Nat}
theorem Tab.any (h : Tab ops E C W) {oi : Oper} (hi : ops[i]? = some oi) (hc : anyT E C b b' i = true) : anyB .any ops b b' i = true := by
  simp only [anyT, setB, Bool.and_eq_true] at hc
  simp only [anyB, Bool.and_eq_true]
  exact ⟨⟨⟨h.sel, h.free hi hc.1.1⟩, by simpa using h.isReady hc.1.2⟩, hc.2⟩
theorem Tab.take (h : Tab ops E C W) {oi : Oper} (hi : ops[i]? = some oi) (hc : takeT E C W ds b b' i = true) : takeB .any ops ds b b' i = true := by
  simp only [takeT, setB, Bool.and_eq_true] at hc
  simp only [takeB, Bool.and_eq_true]
  exact ⟨⟨⟨⟨⟨h.sel, h.free hi hc.1.1.1.1⟩, by simpa using h.isReady hc.1.1.1.2⟩, h.closed hc.1.1.2⟩, h.last hc.1.2⟩, hc.2⟩
theorem Tab.one (h : Tab ops E C W) (hc : oneT E b b' i = true) : readyB .any ops b b' i = true := by
  simp only [oneT, setB, Bool.and_eq_true] at hc
  simp only [readyB, Bool.and_eq_true]
  rw [h.ready]
  exact hc
end
end Gx
