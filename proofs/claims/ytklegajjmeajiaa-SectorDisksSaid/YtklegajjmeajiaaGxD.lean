/- Own library: a small logic of Lean programs over the model's heap, with the laws that tie Go code to it. No condition. -/
import Derived.Test.YtklegajjmeajiaaGxK
namespace Gx
open Go Gx.Last

section
variable {P : Program} {ops : Array Oper} {K : Act → World → Prop} {X : Nat → Act → World → Prop} {R : Act → World → Prop} {n : Nat} {a : Act} {w w0 : World} {l : List (Nat × Value)} {S : World → Prop} {ds : List Nat} {fuel : Nat} {b b' : Array Bool} {i : Nat} {E C W : List (List Nat)}

/-- whatever order is drawn from here on -/
abbrev Drawn (P : Program) (ops : Array Oper) (K : Act → World → Prop) (X : Nat → Act → World → Prop) (R : Act → World → Prop) (S : World → Prop) (ds : List Nat) (fuel : Nat) (b : Array Bool) (a : Act) (w : World) : Prop :=
  wpAnyLast P .any ops (Ps K X R) S ds fuel b a w

theorem d_start {id m : Nat} (S : World → Prop) (ds : List Nat) (b : Array Bool) (hm : P.follows .mixedOrders = true) (hR : Rest w0 w) (hn : ops.size = m) (hl : Array.replicate m false = b) (hS : ∀ w' : World, w'.heap = w.heap → S w')
    (h : ∀ w' : World, w'.heap = w.heap → Rest w0 w' → S w' → Drawn P ops K X R S ds m b a w') : (Code.region id ops true).wp P (Ps K X R) a w :=
  start_ b hm hn hl (hS _ rfl) fun hs => h w.drew rfl (hR.trans ⟨rfl, rfl⟩) hs

theorem d_pure {o : Oper} {d : Nat} {v : Value} (b' : Array Bool) (hi : ops[i]? = some o) (hd : o.dst = some d) (hT : Tab ops E C W) (hc : anyT E C b b' i = true) (hg : o.guard = none) (hE : Env n a l) (hn : Nat.blt d n = true)
    (hy : ∀ w : World, (execOp a.eval o).run P w = .ok (.value v) w) (h : ∀ a', Env n a' ((d, v) :: l) → Drawn P ops K X R S ds fuel b' a' w) : Drawn P ops K X R S ds (fuel + 1) b a w :=
  pure_ b' hi hd (hT.any hi hc) (fun _ _ _ h => h.elim) (Or.inl ⟨by simp [Region.wanted, hg], hy⟩) rfl (h _ (hE.put d v hn))

theorem wanted_of {o : Oper} {j t : Nat} {x c : Bool} (hg : o.guard = some (j, c)) (hE : Env n a l) (hj : (ops[j]?).bind (·.dst) = some t) (hl : look l t = some (.bool x)) (heq : (x == c) = true) : Region.wanted o (yielded ops a.tmps) = true := by
  unfold Region.wanted
  rw [hg]
  simp only [yields_of hE hj hl]
  revert heq
  cases x <;> cases c <;> simp
theorem unwanted_of {o : Oper} {j t : Nat} {x c : Bool} (hg : o.guard = some (j, c)) (hE : Env n a l) (hj : (ops[j]?).bind (·.dst) = some t) (hl : look l t = some (.bool x)) (hne : (x == c) = false) : Region.wanted o (yielded ops a.tmps) = false := by
  unfold Region.wanted
  rw [hg]
  simp only [yields_of hE hj hl]
  revert hne
  cases x <;> cases c <;> simp
theorem unwanted_of' {o : Oper} {j t : Nat} {c : Bool} {v : Value} (hg : o.guard = some (j, c)) (hE : Env n a l) (hj : (ops[j]?).bind (·.dst) = some t) (hl : look l t = some v) (hv : ∀ b, v ≠ .bool b) : Region.wanted o (yielded ops a.tmps) = false := by
  unfold Region.wanted
  rw [hg]
  have : yielded ops a.tmps j = none := by
    unfold yielded
    rw [hj]
    simp only [Option.bind_some, hE.at_ _ _ hl]
    cases v <;> first | rfl | exact absurd rfl (hv _)
  simp [this]
theorem wanted_none {o : Oper} (hg : o.guard = none) : Region.wanted o (yielded ops a.tmps) = true := by simp [Region.wanted, hg]

/-- an operation that yields in every world; it is wanted -/
theorem d_pureg {o : Oper} {d : Nat} {v : Value} (b' : Array Bool) (hi : ops[i]? = some o) (hd : o.dst = some d) (hT : Tab ops E C W) (hc : anyT E C b b' i = true) (hE : Env n a l) (hn : Nat.blt d n = true) (hw : Region.wanted o (yielded ops a.tmps) = true)
    (hy : ∀ w : World, (execOp a.eval o).run P w = .ok (.value v) w) (h : ∀ a', Env n a' ((d, v) :: l) → Drawn P ops K X R S ds fuel b' a' w) : Drawn P ops K X R S ds (fuel + 1) b a w :=
  pure_ b' hi hd (hT.any hi hc) (fun _ _ _ h => h.elim) (Or.inl ⟨hw, hy⟩) rfl (h _ (hE.put d v hn))
/-- an operation that is not wanted -/
theorem d_off {o : Oper} {N : Option Nat} (b' : Array Bool) (hi : ops[i]? = some o) (hd : o.dst = N) (hT : Tab ops E C W) (hc : anyT E C b b' i = true) (hw : Region.wanted o (yielded ops a.tmps) = false)
    (h : ∀ a', a' = a.put N undef → Drawn P ops K X R S ds fuel b' a' w) : Drawn P ops K X R S ds (fuel + 1) b a w :=
  pure_ b' hi hd (hT.any hi hc) (fun _ _ _ h => h.elim) (Or.inr ⟨hw, rfl⟩) rfl (h _ rfl)
/-- a read of what S says -/
theorem d_read {o : Oper} {d : Nat} {v : Value} (b' : Array Bool) (hi : ops[i]? = some o) (hd : o.dst = some d) (hT : Tab ops E C W) (hc : takeT E C W ds b b' i = true) (hE : Env n a l) (hn : Nat.blt d n = true) (hw : Region.wanted o (yielded ops a.tmps) = true)
    (hS : S w) (hy : ∀ w : World, S w → (execOp a.eval o).run P w = .ok (.value v) w) (h : ∀ a', Env n a' ((d, v) :: l) → Drawn P ops K X R S ds fuel b' a' w) : Drawn P ops K X R S ds (fuel + 1) b a w :=
  take_ b' hi hd (hT.take hi hc) (fun _ _ _ h => h.elim) (Or.inl ⟨hw, hy⟩) hS rfl (h _ (hE.put d v hn))

/-- one operation alone may come up: it yields a value, and may turn the heap -/
theorem d_one {o : Oper} {d : Nat} {v : Value} {w1 : World} (b' : Array Bool) (hi : ops[i]? = some o) (hd : o.dst = some d) (hT : Tab ops E C W) (hc : oneT E b b' i = true) (hds : ds.contains i = false) (hE : Env n a l) (hR : Rest w0 w) (hn : Nat.blt d n = true) (hw : Region.wanted o (yielded ops a.tmps) = true)
    (hrun : (execOp a.eval o).run P w = .ok (.value v) w1) (hr1 : Rest w w1) (hS : ∀ w' : World, w'.heap = w1.heap → S w')
    (h : ∀ a' w', Env n a' ((d, v) :: l) → Rest w0 w' → w'.heap = w1.heap → S w' → Drawn P ops K X R S ds fuel b' a' w') : Drawn P ops K X R S ds (fuel + 1) b a w := by
  refine one_ b' hi hd (hT.one hc) (by simpa using hds) fun KK hK => value_ hw hd hrun ?_
  exact hK _ _ (hS _ rfl) fun hs => h _ w1 (hE.put d v hn) (hR.trans hr1) rfl hs
theorem d_last {o : Oper} {d : Nat} {v : Value} {w1 : World} (b' : Array Bool) (hi : ops[i]? = some o) (hd : o.dst = some d) (hT : Tab ops E C W) (hc : oneT E b b' i = true) (hds : ds.contains i = true) (hE : Env n a l) (hR : Rest w0 w) (hn : Nat.blt d n = true) (hw : Region.wanted o (yielded ops a.tmps) = true)
    (hrun : (execOp a.eval o).run P w = .ok (.value v) w1) (hr1 : Rest w w1)
    (h : ∀ a' w', Env n a' ((d, v) :: l) → Rest w0 w' → w'.heap = w1.heap → Drawn P ops K X R S ds fuel b' a' w') : Drawn P ops K X R S ds (fuel + 1) b a w := by
  refine last_ b' hi hd (hT.one hc) (by simpa using hds) fun KK hK => value_ hw hd hrun ?_
  exact hK _ _ (h _ w1 (hE.put d v hn) (hR.trans hr1) rfl)
/-- the same without a place for what it yields -/
theorem d_onen {o : Oper} {v : Value} {w1 : World} (b' : Array Bool) (hi : ops[i]? = some o) (hd : o.dst = none) (hT : Tab ops E C W) (hc : oneT E b b' i = true) (hds : ds.contains i = false) (hE : Env n a l) (hR : Rest w0 w) (hw : Region.wanted o (yielded ops a.tmps) = true)
    (hrun : (execOp a.eval o).run P w = .ok (.value v) w1) (hr1 : Rest w w1) (hS : ∀ w' : World, w'.heap = w1.heap → S w')
    (h : ∀ a' w', Env n a' l → Rest w0 w' → w'.heap = w1.heap → S w' → Drawn P ops K X R S ds fuel b' a' w') : Drawn P ops K X R S ds (fuel + 1) b a w := by
  refine one_ b' hi hd (hT.one hc) (by simpa using hds) fun KK hK => value_ hw hd hrun ?_
  exact hK _ _ (hS _ rfl) fun hs => h _ w1 hE (hR.trans hr1) rfl hs
theorem d_lastn {o : Oper} {v : Value} {w1 : World} (b' : Array Bool) (hi : ops[i]? = some o) (hd : o.dst = none) (hT : Tab ops E C W) (hc : oneT E b b' i = true) (hds : ds.contains i = true) (hE : Env n a l) (hR : Rest w0 w) (hw : Region.wanted o (yielded ops a.tmps) = true)
    (hrun : (execOp a.eval o).run P w = .ok (.value v) w1) (hr1 : Rest w w1)
    (h : ∀ a' w', Env n a' l → Rest w0 w' → w'.heap = w1.heap → Drawn P ops K X R S ds fuel b' a' w') : Drawn P ops K X R S ds (fuel + 1) b a w := by
  refine last_ b' hi hd (hT.one hc) (by simpa using hds) fun KK hK => value_ hw hd hrun ?_
  exact hK _ _ (h _ w1 hE (hR.trans hr1) rfl)
/-- a store -/
theorem d_st {o : Oper} {w1 : World} (b' : Array Bool) (hi : ops[i]? = some o) (hd : o.dst = none) (hT : Tab ops E C W) (hc : oneT E b b' i = true) (hds : ds.contains i = false) (hE : Env n a l) (hR : Rest w0 w) (hw : Region.wanted o (yielded ops a.tmps) = true)
    (hrun : (execOp a.eval o).run P w = .ok .skip w1) (hr1 : Rest w w1) (hS : ∀ w' : World, w'.heap = w1.heap → S w')
    (h : ∀ a' w', Env n a' l → Rest w0 w' → w'.heap = w1.heap → S w' → Drawn P ops K X R S ds fuel b' a' w') : Drawn P ops K X R S ds (fuel + 1) b a w := by
  refine one_ b' hi hd (hT.one hc) (by simpa using hds) fun KK hK => skip_ hw hd hrun ?_
  exact hK _ _ (hS _ rfl) fun hs => h _ w1 hE (hR.trans hr1) rfl hs
theorem d_stl {o : Oper} {w1 : World} (b' : Array Bool) (hi : ops[i]? = some o) (hd : o.dst = none) (hT : Tab ops E C W) (hc : oneT E b b' i = true) (hds : ds.contains i = true) (hE : Env n a l) (hR : Rest w0 w) (hw : Region.wanted o (yielded ops a.tmps) = true)
    (hrun : (execOp a.eval o).run P w = .ok .skip w1) (hr1 : Rest w w1)
    (h : ∀ a' w', Env n a' l → Rest w0 w' → w'.heap = w1.heap → Drawn P ops K X R S ds fuel b' a' w') : Drawn P ops K X R S ds (fuel + 1) b a w := by
  refine last_ b' hi hd (hT.one hc) (by simpa using hds) fun KK hK => skip_ hw hd hrun ?_
  exact hK _ _ (h _ w1 hE (hR.trans hr1) rfl)
/-- a call -/
theorem d_call {o : Oper} {N : Option Nat} {f : FuncId} {as : Array Operand} {ts : Array TypeId} {vs : List Value} {ρ : Type} {enc : ρ → Value} {F : M ρ} {Q : ρ → Heap → Prop} (b' : Array Bool)
    (hi : ops[i]? = some o) (hd : o.dst = N) (hop : o.op = .call { callee := .value (.func f), args := as, argTypes := ts }) (hT : Tab ops E C W) (hc : oneT E b b' i = true) (hds : ds.contains i = false) (hE : Env n a l) (hR : Rest w0 w)
    (hw : Region.wanted o (yielded ops a.tmps) = true) (hcl : Callee? P f) (ha : opvs l as.toList = some vs) (hS : Sound P f vs.toArray enc F) (H : F.wp w.heap Q) (hSS : ∀ r h, Q r h → ∀ w' : World, w'.heap = h → S w')
    (h : ∀ r a' w', a' = a.put N (enc r) → Rest w0 w' → Q r w'.heap → S w' → Drawn P ops K X R S ds fuel b' a' w') : Drawn P ops K X R S ds (fuel + 1) b a w := by
  refine one_ b' hi hd (hT.one hc) (by simpa using hds) fun KK hK => ?_
  have hrun : (execOp a.eval o).run P w = .ok (.enter f vs.toArray) w := by
    have := r_call (dst := o.dst) (ty := o.type) (pos := o.pos) (aft := o.after) (g := o.guard) (ts := ts) (w := w) hE hcl ha
    rw [← hop] at this
    exact this
  refine call_ f vs.toArray hw hd hrun ((hS w Q H).mono ?_)
  rintro e w' ⟨r, rfl, hq, hr⟩
  exact ⟨_, rfl, hK _ _ (hSS r _ hq w' rfl) fun hs => h r _ w' rfl (hR.trans hr) hq hs⟩
theorem d_calll {o : Oper} {N : Option Nat} {f : FuncId} {as : Array Operand} {ts : Array TypeId} {vs : List Value} {ρ : Type} {enc : ρ → Value} {F : M ρ} {Q : ρ → Heap → Prop} (b' : Array Bool)
    (hi : ops[i]? = some o) (hd : o.dst = N) (hop : o.op = .call { callee := .value (.func f), args := as, argTypes := ts }) (hT : Tab ops E C W) (hc : oneT E b b' i = true) (hds : ds.contains i = true) (hE : Env n a l) (hR : Rest w0 w)
    (hw : Region.wanted o (yielded ops a.tmps) = true) (hcl : Callee? P f) (ha : opvs l as.toList = some vs) (hS : Sound P f vs.toArray enc F) (H : F.wp w.heap Q)
    (h : ∀ r a' w', a' = a.put N (enc r) → Rest w0 w' → Q r w'.heap → Drawn P ops K X R S ds fuel b' a' w') : Drawn P ops K X R S ds (fuel + 1) b a w := by
  refine last_ b' hi hd (hT.one hc) (by simpa using hds) fun KK hK => ?_
  have hrun : (execOp a.eval o).run P w = .ok (.enter f vs.toArray) w := by
    have := r_call (dst := o.dst) (ty := o.type) (pos := o.pos) (aft := o.after) (g := o.guard) (ts := ts) (w := w) hE hcl ha
    rw [← hop] at this
    exact this
  refine call_ f vs.toArray hw hd hrun ((hS w Q H).mono ?_)
  rintro e w' ⟨r, rfl, hq, hr⟩
  exact ⟨_, rfl, hK _ _ (h r _ w' rfl (hR.trans hr) hq)⟩
/-- an operation whose outcome is some one of several -/
theorem d_ex {o : Oper} {N : Option Nat} {ρ : Type} {m : M ρ} {Q : ρ → Heap → Prop} (enc : ρ → Value) (b' : Array Bool) (hi : ops[i]? = some o) (hd : o.dst = N) (hT : Tab ops E C W) (hc : oneT E b b' i = true) (hds : ds.contains i = false) (hR : Rest w0 w)
    (hw : Region.wanted o (yielded ops a.tmps) = true) (H : m.wp w.heap Q) (hrun : ∀ Q : ρ → Heap → Prop, m.wp w.heap Q → ∃ r w1, (execOp a.eval o).run P w = .ok (.value (enc r)) w1 ∧ Rest w w1 ∧ Q r w1.heap)
    (hSS : ∀ r h, Q r h → ∀ w' : World, w'.heap = h → S w')
    (h : ∀ r a' w', a' = a.put N (enc r) → Rest w0 w' → Q r w'.heap → S w' → Drawn P ops K X R S ds fuel b' a' w') : Drawn P ops K X R S ds (fuel + 1) b a w := by
  obtain ⟨r, w1, h1, h2, h3⟩ := hrun Q H
  refine one_ b' hi hd (hT.one hc) (by simpa using hds) fun KK hK => value_ hw hd h1 ?_
  exact hK _ _ (hSS r _ h3 w1 rfl) fun hs => h r _ w1 rfl (hR.trans h2) h3 hs
theorem d_exl {o : Oper} {N : Option Nat} {ρ : Type} {m : M ρ} {Q : ρ → Heap → Prop} (enc : ρ → Value) (b' : Array Bool) (hi : ops[i]? = some o) (hd : o.dst = N) (hT : Tab ops E C W) (hc : oneT E b b' i = true) (hds : ds.contains i = true) (hR : Rest w0 w)
    (hw : Region.wanted o (yielded ops a.tmps) = true) (H : m.wp w.heap Q) (hrun : ∀ Q : ρ → Heap → Prop, m.wp w.heap Q → ∃ r w1, (execOp a.eval o).run P w = .ok (.value (enc r)) w1 ∧ Rest w w1 ∧ Q r w1.heap)
    (h : ∀ r a' w', a' = a.put N (enc r) → Rest w0 w' → Q r w'.heap → Drawn P ops K X R S ds fuel b' a' w') : Drawn P ops K X R S ds (fuel + 1) b a w := by
  obtain ⟨r, w1, h1, h2, h3⟩ := hrun Q H
  refine last_ b' hi hd (hT.one hc) (by simpa using hds) fun KK hK => value_ hw hd h1 ?_
  exact hK _ _ (h r _ w1 rfl (hR.trans h2) h3)
theorem d_done (hT : Tab ops E C W) (hr : (readyT E b == []) = true) (h : K a w) : Drawn P ops K X R S ds fuel b a w := done_ (by rw [hT.ready]; exact hr) h

/-- all that has not come up is of ds: nothing is owed any more, and other facts may be held -/
def allIn (b : Array Bool) (n : Nat) (ds : List Nat) : Bool := (List.range n).all fun i => b.getD i false || ds.contains i
theorem d_switch (S' : World → Prop) (ds' : List Nat) (hc : allIn b ops.size ds = true) (h : Drawn P ops K X R S' ds' fuel b a w) : Drawn P ops K X R S ds fuel b a w := by
  have hd : ∀ i, i < ops.size → b.getD i false = false → i ∈ ds := fun i hi hb => by
    have := List.all_eq_true.1 hc i (List.mem_range.2 hi)
    rw [hb] at this
    simpa using this
  clear hc
  show wpAnyLast _ _ _ _ _ _ _ _ _ _
  replace h : wpAnyLast P .any ops (Ps K X R) S' ds' fuel b a w := h
  induction fuel generalizing b a w with
  | zero => exact h
  | succ fuel ih =>
    refine ⟨h.1, fun i hi => wpOp_mono (fun a' w' hh => ⟨fun hn => ?_, ih ?_ hh.2⟩) (h.2 i hi)⟩
    · obtain ⟨hun, oi, hoi, _⟩ := mem_ready.1 hi
      refine absurd (hd i (Array.getElem?_eq_some_iff.1 hoi).1 ?_) hn
      rcases Nat.lt_or_ge i b.size with h' | h'
      · simp [h'] at hun ⊢; exact hun
      · simp [Array.getElem?_eq_none h']
    · intro j hj hb
      refine hd j hj ?_
      by_cases hij : i = j
      · subst hij
        rcases Nat.lt_or_ge i b.size with h' | h'
        · simp [h'] at hb
        · simp [Array.getElem?_eq_none h']
      · rw [getD_set_ne false hij] at hb
        exact hb
/-- what follows, told once -/
theorem d_join {α : Type} {m : M α} {Qr : α → Heap → Prop} (Lx : α → List (Nat × Value)) (fuel' : Nat) (b' : Array Bool) (H : m.wp w.heap Qr)
    (hj : ∀ x a w, Env n a (Lx x) → Rest w0 w → Qr x w.heap → Drawn P ops K X R S ds fuel' b' a w)
    (hg : (∀ x a w, Env n a (Lx x) → Rest w0 w → Qr x w.heap → Drawn P ops K X R S ds fuel' b' a w) → m.wp w.heap Qr → Drawn P ops K X R S ds fuel b a w) : Drawn P ops K X R S ds fuel b a w := hg hj H

/-- two may come up: this one first -/
theorem d_pick (rs : List Nat) (hT : Tab ops E C W) (hr : (readyT E b == rs) = true) (hne : rs.isEmpty = false) (h : ∀ i ∈ rs, wpOp P ops (Ps K X R) i (fun a' w' => (i ∉ ds → S w → S w') ∧ Drawn P ops K X R S ds fuel (b.setIfInBounds i true) a' w') a w) :
    Drawn P ops K X R S ds (fuel + 1) b a w := by
  refine wpAnyLast_all (by rw [hT.ready]; simpa using hr) (by intro e; rw [e] at hne; cases hne) h
theorem p_val {o : Oper} {d : Nat} {v : Value} {w1 : World} (b' : Array Bool) (hi : ops[i]? = some o) (hd : o.dst = some d) (hb : (b.setIfInBounds i true == b') = true) (hE : Env n a l) (hR : Rest w0 w) (hn : Nat.blt d n = true) (hw : Region.wanted o (yielded ops a.tmps) = true)
    (hrun : (execOp a.eval o).run P w = .ok (.value v) w1) (hr1 : Rest w w1) (hS : ∀ w' : World, w'.heap = w1.heap → S w')
    (h : ∀ a' w', Env n a' ((d, v) :: l) → Rest w0 w' → w'.heap = w1.heap → S w' → Drawn P ops K X R S ds fuel b' a' w') :
    wpOp P ops (Ps K X R) i (fun a' w' => (i ∉ ds → S w → S w') ∧ Drawn P ops K X R S ds fuel (b.setIfInBounds i true) a' w') a w := by
  have hb' := eq_of_beq hb
  rw [hb']
  refine wpOp_step hi fun K' hK => ?_
  rw [hd]
  refine value_ hw hd hrun ?_
  exact hK _ _ ⟨fun _ _ => hS _ rfl, h _ w1 (hE.put d v hn) (hR.trans hr1) rfl (hS _ rfl)⟩
theorem p_ex {o : Oper} {N : Option Nat} {ρ : Type} {m : M ρ} {Q : ρ → Heap → Prop} (enc : ρ → Value) (b' : Array Bool) (hi : ops[i]? = some o) (hd : o.dst = N) (hb : (b.setIfInBounds i true == b') = true) (hR : Rest w0 w)
    (hw : Region.wanted o (yielded ops a.tmps) = true) (H : m.wp w.heap Q) (hrun : ∀ Q : ρ → Heap → Prop, m.wp w.heap Q → ∃ r w1, (execOp a.eval o).run P w = .ok (.value (enc r)) w1 ∧ Rest w w1 ∧ Q r w1.heap)
    (hSS : ∀ r h, Q r h → ∀ w' : World, w'.heap = h → S w')
    (h : ∀ r a' w', a' = a.put N (enc r) → Rest w0 w' → Q r w'.heap → S w' → Drawn P ops K X R S ds fuel b' a' w') :
    wpOp P ops (Ps K X R) i (fun a' w' => (i ∉ ds → S w → S w') ∧ Drawn P ops K X R S ds fuel (b.setIfInBounds i true) a' w') a w := by
  have hb' := eq_of_beq hb
  rw [hb']
  obtain ⟨r, w1, h1, h2, h3⟩ := hrun Q H
  refine wpOp_step hi fun K' hK => ?_
  rw [hd]
  refine value_ hw hd h1 ?_
  exact hK _ _ ⟨fun _ _ => hSS r _ h3 w1 rfl, h r _ w1 rfl (hR.trans h2) h3 (hSS r _ h3 w1 rfl)⟩
theorem p_call {o : Oper} {N : Option Nat} {f : FuncId} {as : Array Operand} {ts : Array TypeId} {vs : List Value} {ρ : Type} {enc : ρ → Value} {F : M ρ} {Q : ρ → Heap → Prop} (b' : Array Bool)
    (hi : ops[i]? = some o) (hd : o.dst = N) (hop : o.op = .call { callee := .value (.func f), args := as, argTypes := ts }) (hb : (b.setIfInBounds i true == b') = true) (hE : Env n a l) (hR : Rest w0 w)
    (hw : Region.wanted o (yielded ops a.tmps) = true) (hcl : Callee? P f) (ha : opvs l as.toList = some vs) (hS : Sound P f vs.toArray enc F) (H : F.wp w.heap Q) (hSS : ∀ r h, Q r h → ∀ w' : World, w'.heap = h → S w')
    (h : ∀ r a' w', a' = a.put N (enc r) → Rest w0 w' → Q r w'.heap → S w' → Drawn P ops K X R S ds fuel b' a' w') :
    wpOp P ops (Ps K X R) i (fun a' w' => (i ∉ ds → S w → S w') ∧ Drawn P ops K X R S ds fuel (b.setIfInBounds i true) a' w') a w := by
  have hb' := eq_of_beq hb
  rw [hb']
  refine wpOp_step hi fun K' hK => ?_
  rw [hd]
  have hrun : (execOp a.eval o).run P w = .ok (.enter f vs.toArray) w := by
    have := r_call (dst := o.dst) (ty := o.type) (pos := o.pos) (aft := o.after) (g := o.guard) (ts := ts) (w := w) hE hcl ha
    rw [← hop] at this
    exact this
  refine call_ f vs.toArray hw hd hrun ((hS w Q H).mono ?_)
  rintro e w' ⟨r, rfl, hq, hr⟩
  exact ⟨_, rfl, hK _ _ ⟨fun _ _ => hSS r _ hq w' rfl, h r _ w' rfl (hR.trans hr) hq (hSS r _ hq w' rfl)⟩⟩
end
section
variable {P : Program} {ops : Array Oper} {K : Act → World → Prop} {X : Nat → Act → World → Prop} {R : Act → World → Prop} {n : Nat} {a : Act} {w w0 : World} {l : List (Nat × Value)} {S : World → Prop} {ds : List Nat} {fuel : Nat} {b b' : Array Bool} {i : Nat} {E C W : List (List Nat)}
theorem d_oneh {o : Oper} {d : Nat} {v : Value} {h1 : Heap} (b' : Array Bool) (hi : ops[i]? = some o) (hd : o.dst = some d) (hT : Tab ops E C W) (hc : oneT E b b' i = true) (hds : ds.contains i = false) (hE : Env n a l) (hR : Rest w0 w) (hn : Nat.blt d n = true) (hw : Region.wanted o (yielded ops a.tmps) = true)
    (hrun : (execOp a.eval o).run P w = .ok (.value v) { w with heap := h1 }) (hS : ∀ w' : World, w'.heap = h1 → S w')
    (h : ∀ a' w', Env n a' ((d, v) :: l) → Rest w0 w' → w'.heap = h1 → S w' → Drawn P ops K X R S ds fuel b' a' w') : Drawn P ops K X R S ds (fuel + 1) b a w := d_one b' hi hd hT hc hds hE hR hn hw hrun ⟨rfl, rfl⟩ hS h
theorem d_lasth {o : Oper} {d : Nat} {v : Value} {h1 : Heap} (b' : Array Bool) (hi : ops[i]? = some o) (hd : o.dst = some d) (hT : Tab ops E C W) (hc : oneT E b b' i = true) (hds : ds.contains i = true) (hE : Env n a l) (hR : Rest w0 w) (hn : Nat.blt d n = true) (hw : Region.wanted o (yielded ops a.tmps) = true)
    (hrun : (execOp a.eval o).run P w = .ok (.value v) { w with heap := h1 })
    (h : ∀ a' w', Env n a' ((d, v) :: l) → Rest w0 w' → w'.heap = h1 → Drawn P ops K X R S ds fuel b' a' w') : Drawn P ops K X R S ds (fuel + 1) b a w := d_last b' hi hd hT hc hds hE hR hn hw hrun ⟨rfl, rfl⟩ h
theorem d_onenh {o : Oper} {v : Value} {h1 : Heap} (b' : Array Bool) (hi : ops[i]? = some o) (hd : o.dst = none) (hT : Tab ops E C W) (hc : oneT E b b' i = true) (hds : ds.contains i = false) (hE : Env n a l) (hR : Rest w0 w) (hw : Region.wanted o (yielded ops a.tmps) = true)
    (hrun : (execOp a.eval o).run P w = .ok (.value v) { w with heap := h1 }) (hS : ∀ w' : World, w'.heap = h1 → S w')
    (h : ∀ a' w', Env n a' l → Rest w0 w' → w'.heap = h1 → S w' → Drawn P ops K X R S ds fuel b' a' w') : Drawn P ops K X R S ds (fuel + 1) b a w := d_onen b' hi hd hT hc hds hE hR hw hrun ⟨rfl, rfl⟩ hS h
theorem d_lastnh {o : Oper} {v : Value} {h1 : Heap} (b' : Array Bool) (hi : ops[i]? = some o) (hd : o.dst = none) (hT : Tab ops E C W) (hc : oneT E b b' i = true) (hds : ds.contains i = true) (hE : Env n a l) (hR : Rest w0 w) (hw : Region.wanted o (yielded ops a.tmps) = true)
    (hrun : (execOp a.eval o).run P w = .ok (.value v) { w with heap := h1 })
    (h : ∀ a' w', Env n a' l → Rest w0 w' → w'.heap = h1 → Drawn P ops K X R S ds fuel b' a' w') : Drawn P ops K X R S ds (fuel + 1) b a w := d_lastn b' hi hd hT hc hds hE hR hw hrun ⟨rfl, rfl⟩ h
theorem d_sth {o : Oper} {h1 : Heap} (b' : Array Bool) (hi : ops[i]? = some o) (hd : o.dst = none) (hT : Tab ops E C W) (hc : oneT E b b' i = true) (hds : ds.contains i = false) (hE : Env n a l) (hR : Rest w0 w) (hw : Region.wanted o (yielded ops a.tmps) = true)
    (hrun : (execOp a.eval o).run P w = .ok .skip { w with heap := h1 }) (hS : ∀ w' : World, w'.heap = h1 → S w')
    (h : ∀ a' w', Env n a' l → Rest w0 w' → w'.heap = h1 → S w' → Drawn P ops K X R S ds fuel b' a' w') : Drawn P ops K X R S ds (fuel + 1) b a w := d_st b' hi hd hT hc hds hE hR hw hrun ⟨rfl, rfl⟩ hS h
theorem d_stlh {o : Oper} {h1 : Heap} (b' : Array Bool) (hi : ops[i]? = some o) (hd : o.dst = none) (hT : Tab ops E C W) (hc : oneT E b b' i = true) (hds : ds.contains i = true) (hE : Env n a l) (hR : Rest w0 w) (hw : Region.wanted o (yielded ops a.tmps) = true)
    (hrun : (execOp a.eval o).run P w = .ok .skip { w with heap := h1 })
    (h : ∀ a' w', Env n a' l → Rest w0 w' → w'.heap = h1 → Drawn P ops K X R S ds fuel b' a' w') : Drawn P ops K X R S ds (fuel + 1) b a w := d_stl b' hi hd hT hc hds hE hR hw hrun ⟨rfl, rfl⟩ h
theorem p_valh {o : Oper} {d : Nat} {v : Value} {h1 : Heap} (b' : Array Bool) (hi : ops[i]? = some o) (hd : o.dst = some d) (hb : (b.setIfInBounds i true == b') = true) (hE : Env n a l) (hR : Rest w0 w) (hn : Nat.blt d n = true) (hw : Region.wanted o (yielded ops a.tmps) = true)
    (hrun : (execOp a.eval o).run P w = .ok (.value v) { w with heap := h1 }) (hS : ∀ w' : World, w'.heap = h1 → S w')
    (h : ∀ a' w', Env n a' ((d, v) :: l) → Rest w0 w' → w'.heap = h1 → S w' → Drawn P ops K X R S ds fuel b' a' w') :
    wpOp P ops (Ps K X R) i (fun a' w' => (i ∉ ds → S w → S w') ∧ Drawn P ops K X R S ds fuel (b.setIfInBounds i true) a' w') a w := p_val b' hi hd hb hE hR hn hw hrun ⟨rfl, rfl⟩ hS h
end
/-- what is so of the heap here -/
def chk (p : Heap → Prop) : M Unit := .get fun h _ => p h
end Gx
