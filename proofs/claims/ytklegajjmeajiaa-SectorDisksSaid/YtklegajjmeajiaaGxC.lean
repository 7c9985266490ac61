/- Own library: a small logic of Lean programs over the model's heap, with the laws that tie Go code to it. No condition. -/
import Derived.Test.YtklegajjmeajiaaGxB
namespace Gx
open Go

theorem M.at {α : Type} {m : M α} {h h' : Heap} {Q : α → Heap → Prop} (e : h' = h) (H : m.wp h Q) : m.wp h' Q := e ▸ H
theorem M.ite_t {α : Type} {b : Bool} {m n : M α} {h : Heap} {Q : α → Heap → Prop} (e : b = true) (H : (M.ite b m n).wp h Q) : m.wp h Q := by subst e; exact H
theorem M.ite_f {α : Type} {b : Bool} {m n : M α} {h : Heap} {Q : α → Heap → Prop} (e : b = false) (H : (M.ite b m n).wp h Q) : n.wp h Q := by subst e; exact H
theorem M.ite_wp {α : Type} {b : Bool} {m n : M α} {h : Heap} {Q : α → Heap → Prop} : (M.ite b m n).wp h Q = if b then m.wp h Q else n.wp h Q := by cases b <;> rfl
theorem M.ite_dec {α : Type} {p : Prop} [Decidable p] {m n : M α} {h : Heap} {Q : α → Heap → Prop} : (M.ite (decide p) m n).wp h Q = if p then m.wp h Q else n.wp h Q := by
  by_cases hp : p <;> simp [M.ite_wp, hp]

def opvs (l : List (Nat × Value)) : List Operand → Option (List Value)
  | [] => some []
  | x :: r => match opv l x, opvs l r with
    | some v, some vs => some (v :: vs)
    | _, _ => none
theorem Env.opvs {n : Nat} {a : Act} {l : List (Nat × Value)} (hE : Env n a l) : ∀ {xs : List Operand} {vs : List Value}, opvs l xs = some vs → xs.map a.eval = vs
  | [], vs, h => by simp [Gx.opvs] at h; subst h; rfl
  | x :: r, vs, h => by
    simp only [Gx.opvs] at h
    cases h1 : Gx.opv l x with
    | none => rw [h1] at h; simp at h
    | some v =>
      cases h2 : Gx.opvs l r with
      | none => rw [h1, h2] at h; simp at h
      | some vs' =>
        rw [h1, h2] at h
        simp only [Option.some.injEq] at h
        subst h
        simp [hE.opv h1, Env.opvs hE h2]

/-- a Go function that has a body, and may be called -/
def Callee? (P : Program) (f : FuncId) : Prop := ∀ (args : Array Value) (w : World), (callFunc f args).run P w = .ok (.enter f args) w
theorem callee_of {P : Program} {f : FuncId} {fn : Func} (hf : P.funcs[f]? = some fn) (hname : (fn.name == "runtime.NumGoroutine") = false) (hb : fn.body.isSome = true) : Callee? P f := by
  intro args w
  have h1 : fn.name ≠ "runtime.NumGoroutine" := by simpa using hname
  obtain ⟨c, hc⟩ := Option.isSome_iff_exists.1 hb
  simp [callFunc, hf, h1, hc]

section steps
variable {P : Program} {ops : Array Oper} {K : Act → World → Prop} {X : Nat → Act → World → Prop} {R : Act → World → Prop} {n : Nat} {a : Act} {w w0 : World} {l : List (Nat × Value)} {rest : List Oper} {o : Oper}

theorem t_region {id : Nat} {ops : Array Oper} (h : wpList P ops (Ps K X R) ops.toList a w) : (Code.region id ops false).wp P (Ps K X R) a w := wp_region_list h
theorem t_nil (h : K a w) : wpList P ops (Ps K X R) [] a w := h

theorem t_run {v : Value} {w1 : World} (hg : o.guard = none) (hrun : (execOp a.eval o).run P w = .ok (.value v) w1) (h : wpList P ops (Ps K X R) rest (a.put o.dst v) w1) :
    wpList P ops (Ps K X R) (o :: rest) a w := by
  refine wpList_plain hg fun K' hK => ?_
  unfold Oper.wp
  rw [hrun]
  exact hK _ _ h

theorem t_val {d : Nat} {v : Value} (hd : o.dst = some d) (hg : o.guard = none) (hE : Env n a l) (hn : Nat.blt d n = true) (hrun : (execOp a.eval o).run P w = .ok (.value v) w)
    (h : ∀ a', Env n a' ((d, v) :: l) → wpList P ops (Ps K X R) rest a' w) : wpList P ops (Ps K X R) (o :: rest) a w := by
  refine t_run hg hrun ?_
  rw [hd]
  exact h _ (hE.put d v hn)
theorem t_valw {d : Nat} {v : Value} {w1 : World} (hd : o.dst = some d) (hg : o.guard = none) (hE : Env n a l) (hn : Nat.blt d n = true) (hR : Rest w0 w) (hrun : (execOp a.eval o).run P w = .ok (.value v) w1) (hr1 : Rest w w1)
    (h : ∀ a' w', Env n a' ((d, v) :: l) → Rest w0 w' → w'.heap = w1.heap → wpList P ops (Ps K X R) rest a' w') : wpList P ops (Ps K X R) (o :: rest) a w := by
  refine t_run hg hrun ?_
  rw [hd]
  exact h _ w1 (hE.put d v hn) (hR.trans hr1) rfl
theorem t_st {w1 : World} (hd : o.dst = none) (hg : o.guard = none) (hE : Env n a l) (hR : Rest w0 w) (hrun : (execOp a.eval o).run P w = .ok .skip w1) (hr1 : Rest w w1)
    (h : ∀ a' w', Env n a' l → Rest w0 w' → w'.heap = w1.heap → wpList P ops (Ps K X R) rest a' w') : wpList P ops (Ps K X R) (o :: rest) a w := by
  refine wpList_plain hg fun K' hK => ?_
  unfold Oper.wp
  rw [hrun]
  refine hK _ _ ?_
  rw [hd]
  exact h _ w1 hE (hR.trans hr1) rfl
/-- an operation that yields a value without a place for it -/
theorem t_valn {v : Value} {w1 : World} (hd : o.dst = none) (hg : o.guard = none) (hE : Env n a l) (hR : Rest w0 w) (hrun : (execOp a.eval o).run P w = .ok (.value v) w1) (hr1 : Rest w w1)
    (h : ∀ a' w', Env n a' l → Rest w0 w' → w'.heap = w1.heap → wpList P ops (Ps K X R) rest a' w') : wpList P ops (Ps K X R) (o :: rest) a w := by
  refine t_run hg hrun ?_
  rw [hd]
  exact h _ w1 hE (hR.trans hr1) rfl

/-! the same where the heap behind is written out -/
theorem t_valh {d : Nat} {v : Value} {h1 : Heap} (hd : o.dst = some d) (hg : o.guard = none) (hE : Env n a l) (hn : Nat.blt d n = true) (hR : Rest w0 w) (hrun : (execOp a.eval o).run P w = .ok (.value v) { w with heap := h1 })
    (h : ∀ a' w', Env n a' ((d, v) :: l) → Rest w0 w' → w'.heap = h1 → wpList P ops (Ps K X R) rest a' w') : wpList P ops (Ps K X R) (o :: rest) a w := t_valw hd hg hE hn hR hrun ⟨rfl, rfl⟩ h
theorem t_sth {h1 : Heap} (hd : o.dst = none) (hg : o.guard = none) (hE : Env n a l) (hR : Rest w0 w) (hrun : (execOp a.eval o).run P w = .ok .skip { w with heap := h1 })
    (h : ∀ a' w', Env n a' l → Rest w0 w' → w'.heap = h1 → wpList P ops (Ps K X R) rest a' w') : wpList P ops (Ps K X R) (o :: rest) a w := t_st hd hg hE hR hrun ⟨rfl, rfl⟩ h
theorem t_valnh {v : Value} {h1 : Heap} (hd : o.dst = none) (hg : o.guard = none) (hE : Env n a l) (hR : Rest w0 w) (hrun : (execOp a.eval o).run P w = .ok (.value v) { w with heap := h1 })
    (h : ∀ a' w', Env n a' l → Rest w0 w' → w'.heap = h1 → wpList P ops (Ps K X R) rest a' w') : wpList P ops (Ps K X R) (o :: rest) a w := t_valn hd hg hE hR hrun ⟨rfl, rfl⟩ h
theorem r_call {dst : Option Tmp} {f : FuncId} {as : Array Operand} {ts : Array TypeId} {ty : TypeId} {pos : String} {aft : Array Edge} {g : Option (Nat × Bool)} {vs : List Value} (hE : Env n a l) (hc : Callee? P f) (ha : opvs l as.toList = some vs) :
    (execOp a.eval ⟨dst, .call { callee := .value (.func f), args := as, argTypes := ts }, ty, pos, aft, g⟩).run P w = .ok (.enter f vs.toArray) w := by
  have h1 : as.map a.eval = vs.toArray := by
    have := hE.opvs ha
    rw [← this, ← Array.toList_map, Array.toArray_toList]
  have h2 := hc vs.toArray w
  simp [execOp, resolve, Deferred.ofValue, invoke, Act.eval, h1, h2]

theorem t_call {d : Option Nat} {f : FuncId} {as : Array Operand} {ts : Array TypeId} {ty : TypeId} {pos : String} {aft : Array Edge} {vs : List Value} {ρ : Type} {enc : ρ → Value} {F : M ρ} {Q : ρ → Heap → Prop}
    (hE : Env n a l) (hR : Rest w0 w) (hc : Callee? P f) (ha : opvs l as.toList = some vs) (hS : Sound P f vs.toArray enc F) (H : F.wp w.heap Q)
    (h : ∀ r a' w', a' = a.put d (enc r) → Rest w0 w' → Q r w'.heap → wpList P ops (Ps K X R) rest a' w') :
    wpList P ops (Ps K X R) (⟨d, .call { callee := .value (.func f), args := as, argTypes := ts }, ty, pos, aft, none⟩ :: rest) a w := by
  refine wpList_plain rfl fun K' hK => ?_
  unfold Oper.wp
  rw [r_call hE hc ha, Oper.upon_enter]
  refine (hS w Q H).mono ?_
  rintro e w' ⟨r, rfl, hq, hr⟩
  exact hK _ _ (h r _ w' rfl (hR.trans hr) hq)

theorem Env.put_some {d : Nat} {v : Value} {a' : Act} (hE : Env n a l) (hn : Nat.blt d n = true) (e : a' = a.put (some d) v) : Env n a' ((d, v) :: l) := e ▸ hE.put d v hn
theorem Env.put_none {v : Value} {a' : Act} (hE : Env n a l) (e : a' = a.put none v) : Env n a' l := e ▸ hE

/-- an operation whose outcome is some one of several -/
theorem t_ex {d : Option Nat} {ρ : Type} {m : M ρ} {Q : ρ → Heap → Prop} (enc : ρ → Value) (hd : o.dst = d) (hg : o.guard = none) (hR : Rest w0 w) (H : m.wp w.heap Q)
    (hrun : ∀ Q : ρ → Heap → Prop, m.wp w.heap Q → ∃ r w1, (execOp a.eval o).run P w = .ok (.value (enc r)) w1 ∧ Rest w w1 ∧ Q r w1.heap)
    (h : ∀ r a' w', a' = a.put d (enc r) → Rest w0 w' → Q r w'.heap → wpList P ops (Ps K X R) rest a' w') : wpList P ops (Ps K X R) (o :: rest) a w := by
  obtain ⟨r, w1, h1, h2, h3⟩ := hrun Q H
  refine t_run hg h1 ?_
  rw [hd]
  exact h r _ w1 rfl (hR.trans h2) h3

/-! guarded operations -/
theorem yields_of {i t : Nat} {b : Bool} (hE : Env n a l) (hi : (ops[i]?).bind (·.dst) = some t) (hl : look l t = some (.bool b)) : yielded ops a.tmps i = some b := by
  unfold yielded
  rw [hi]
  simp [hE.at_ _ _ hl]
theorem t_off {i t : Nat} {b c : Bool} (hg : o.guard = some (i, c)) (hE : Env n a l) (hi : (ops[i]?).bind (·.dst) = some t) (hl : look l t = some (.bool b)) (hne : (b == c) = false)
    (h : ∀ a', a' = a.put o.dst undef → wpList P ops (Ps K X R) rest a' w) : wpList P ops (Ps K X R) (o :: rest) a w := by
  refine wpList_skip ?_ (h _ rfl)
  unfold Region.wanted
  rw [hg]
  simp only [yields_of hE hi hl]
  revert hne
  cases b <;> cases c <;> simp
/-- a guarded operation whose guard says yes goes as one without -/
theorem t_on {i t : Nat} {b c : Bool} (hg : o.guard = some (i, c)) (hE : Env n a l) (hi : (ops[i]?).bind (·.dst) = some t) (hl : look l t = some (.bool b)) (heq : (b == c) = true)
    (h : wpList P ops (Ps K X R) ({ o with guard := none } :: rest) a w) : wpList P ops (Ps K X R) (o :: rest) a w := by
  have hw : Region.wanted o (yielded ops a.tmps) = true := by
    unfold Region.wanted
    rw [hg]
    simp only [yields_of hE hi hl]
    revert heq
    cases b <;> cases c <;> simp
  have h' := h
  simp only [wpList] at h' ⊢
  rw [hw]
  simp only [Region.wanted, if_true] at h'
  exact h'
theorem t_off' {i t : Nat} {c : Bool} {v : Value} (hg : o.guard = some (i, c)) (hE : Env n a l) (hi : (ops[i]?).bind (·.dst) = some t) (hl : look l t = some v) (hv : ∀ b, v ≠ .bool b)
    (h : ∀ a', a' = a.put o.dst undef → wpList P ops (Ps K X R) rest a' w) : wpList P ops (Ps K X R) (o :: rest) a w := by
  refine wpList_skip ?_ (h _ rfl)
  unfold Region.wanted
  rw [hg]
  have : yielded ops a.tmps i = none := by
    unfold yielded
    rw [hi]
    simp only [Option.bind_some, hE.at_ _ _ hl]
    cases v <;> first | rfl | exact absurd rfl (hv _)
  simp [this]
theorem upon_mono {o : Oper} {r : Result Next} {N N' : Act → World → Prop} {Q Q' : Exit → Act → World → Prop} (hn : ∀ a w, N a w → N' a w) (hp : ∀ c a w, Q (.panic c) a w → Q' (.panic c) a w) (hl : LetsOut Q → LetsOut Q')
    (h : o.upon P a N Q r) : o.upon P a N' Q' r := by
  unfold Oper.upon at h ⊢
  split at h
  · exact hn _ _ h
  · exact hn _ _ h
  · exact hn _ _ h
  · refine h.mono fun e w' hh => ?_
    cases e with
    | returned v => exact hn _ _ hh
    | panicked c => exact hp _ _ _ hh
    | outgrown => exact hl hh
  · exact h.mono fun v w' hh => hn _ _ hh
  · exact hp _ _ _ h
  · exact h.elim
theorem wpList_cut {Q : Exit → Act → World → Prop} : ∀ (L : List Oper) (k : Nat) (a : Act) (w : World), wpList P ops (Exit.then (wpList P ops Q (L.drop k)) Q) (L.take k) a w → wpList P ops Q L a w
  | L, 0, a, w, h => by simpa [wpList, Exit.then] using h
  | [], k + 1, a, w, h => by simpa [wpList, Exit.then] using h
  | o :: r, k + 1, a, w, h => by
    simp only [List.take_succ_cons, List.drop_succ_cons, wpList] at h ⊢
    split at h
    · rename_i hw
      rw [if_pos hw]
      rcases h with h | ⟨h, hl⟩
      · refine .inl ?_
        unfold Oper.wp at h ⊢
        exact upon_mono (fun a w h => wpList_cut r k a w h) (fun c a w h => h) (fun ⟨a, w, h⟩ => ⟨a, w, h⟩) h
      · exact .inr ⟨h, by obtain ⟨a, w, hl⟩ := hl; exact ⟨a, w, hl⟩⟩
    · rename_i hw
      rw [if_neg hw]
      exact wpList_cut r k _ w h
/-- guarded operations, up to the pick behind them: told once -/
theorem t_grp {α : Type} (k : Nat) {L : List Oper} {m : M α} {Qr : α → Heap → Prop} (Lx : α → List (Nat × Value)) (H : m.wp w.heap Qr)
    (hg : ∀ Kr : Act → World → Prop, (∀ x a w, Env n a (Lx x) → Rest w0 w → Qr x w.heap → Kr a w) → m.wp w.heap Qr → wpList P ops (Ps Kr X R) (L.take k) a w)
    (hj : ∀ x a w, Env n a (Lx x) → Rest w0 w → Qr x w.heap → wpList P ops (Ps K X R) (L.drop k) a w) : wpList P ops (Ps K X R) L a w := by
  refine wpList_cut L k a w ?_
  have e : Ps (fun a w => wpList P ops (Ps K X R) (L.drop k) a w) X R = Exit.then (wpList P ops (Ps K X R) (L.drop k)) (Ps K X R) := by
    funext e a w
    cases e <;> rfl
  rw [← e]
  exact hg _ hj H
end steps

/-! ### What a function tells -/
section res
variable {P : Program} {n : Nat} {a : Act} {w : World} {l : List (Nat × Value)} {fn : Func}
def RV (P : Program) (l : List (Nat × Value)) (w : World) : List ResultVar → List Value → Prop
  | [], [] => True
  | .tmp t :: r, v :: vs => look l t = some v ∧ RV P l w r vs
  | .cell t ty :: r, v :: vs => (∃ p, look l t = some (.pointer (some p)) ∧ (loadVar ty p).run P w = .ok v w) ∧ RV P l w r vs
  | _, _ => False
theorem RV.nil : RV P l w [] [] := trivial
theorem RV.tmp {t : Nat} {v : Value} {r : List ResultVar} {vs : List Value} (h : look l t = some v) (hr : RV P l w r vs) : RV P l w (.tmp t :: r) (v :: vs) := ⟨h, hr⟩
theorem RV.cellG {t ty m : Nat} {p : Addr} {cs : Array Value} {r : List ResultVar} {vs : List Value} (h : look l t = some (.pointer (some p))) (ht : agB P ty m = true) (hc : cs.size = m ∧ ∀ i, i < m → hcell w.heap (p.add i) = cs[i]?) (hr : RV P l w r vs) :
    RV P l w (.cell t ty :: r) (.agg cs :: vs) := ⟨⟨p, h, run_loadVar_ag ht hc.1 hc.2⟩, hr⟩
theorem RV.cell {t ty : Nat} {p : Addr} {v : Value} {r : List ResultVar} {vs : List Value} (h : look l t = some (.pointer (some p))) (ht : scB P ty = true) (hc : hcell w.heap p = some v) (hr : RV P l w r vs) :
    RV P l w (.cell t ty :: r) (v :: vs) := ⟨⟨p, h, run_loadVar_sc ht hc⟩, hr⟩

def rvOne (tmps : Array Value) : ResultVar → Sem Value
  | .tmp t => pure (tmps.getD t undef)
  | .cell c t => do loadVar t (← asAddr (tmps.getD c undef))
theorem RV.run (hE : Env n a l) : ∀ {rs : List ResultVar} {vs : List Value}, RV P l w rs vs → (rs.mapM (rvOne a.tmps)).run P w = .ok vs w
  | [], [], _ => by simp
  | .tmp t :: r, v :: vs, h => by
    have h1 : a.tmps.getD t undef = v := hE.eval h.1
    have h2 : (rvOne a.tmps (.tmp t)).run P w = .ok v w := by show (pure (a.tmps.getD t undef) : Sem Value).run P w = _; rw [h1]; rfl
    simp only [List.mapM_cons, Sem.run_bind, h2, Result.andThen_ok, RV.run hE h.2, Sem.run_pure]
  | .cell c t :: r, v :: vs, h => by
    obtain ⟨⟨p, hp, hl⟩, hr⟩ := h
    have h1 : a.tmps.getD c undef = .pointer (some p) := hE.eval hp
    have h2 : (rvOne a.tmps (.cell c t)).run P w = .ok v w := by show (do loadVar t (← asAddr (a.tmps.getD c undef)) : Sem Value).run P w = _; rw [h1]; simp [asAddr, hl]
    simp only [List.mapM_cons, Sem.run_bind, h2, Result.andThen_ok, RV.run hE hr, Sem.run_pure]
  | [], _ :: _, h => h.elim
  | .tmp _ :: _, [], h => h.elim
  | .cell _ _ :: _, [], h => h.elim
theorem results_eq (fn : Func) (tmps : Array Value) : results fn tmps = (do let vs ← fn.results.mapM (rvOne tmps); pure (if h : vs.size = 1 then vs[0] else .tuple vs)) := by
  unfold results
  congr 2

theorem res_run {rs : List ResultVar} {vs : List Value} (hE : Env n a l) (hf : fn.results = rs.toArray) (h : RV P l w rs vs) : (results fn a.tmps).run P w = .ok (match vs with | [v] => v | vs => .tuple vs.toArray) w := by
  have := h.run hE
  rw [results_eq, hf, List.mapM_toArray]
  simp only [Sem.run_bind, Sem.run_map, this, Result.andThen_ok]
  match vs with
  | [] => simp
  | [v] => simp
  | v :: u :: r => simp
end res

section loops
variable {P : Program} {σ ρ : Type}
/-- a loop: what is asked of a round -/
theorem l_loop {F : (σ → M ρ) → σ → M ρ} {Q : ρ → Heap → Prop} {c : Code} {N : Act → World → Prop} {X : Nat → Act → World → Prop} {R : Act → World → Prop} {n : Nat} {w0 : World} (L : σ → List (Nat × Value))
    {s : σ} {a : Act} {w : World} (H : (M.loop F s).wp w.heap Q) (hE : Env n a (L s)) (hR : Rest w0 w)
    (h : ∀ (Y : Act → World → Prop) (self : σ → M ρ),
      (∀ s a w, Env n a (L s) → Rest w0 w → (self s).wp w.heap Q → Y a w) →
      ∀ s a w, Env n a (L s) → Rest w0 w → (F self s).wp w.heap Q → c.wp P (Ps Y X R) a w) : (Code.loop c).wp P (Ps N X R) a w := by
  refine w_loop ?_
  refine H (fun s h => ∀ a w, w.heap = h → Env n a (L s) → Rest w0 w → InLoop P c (Ps N X R) a w) ?_ a w rfl hE hR
  intro s h hF a w hh hE hR
  subst hh
  refine w_round' (fun a w => InLoop P c (Ps N X R) a w) (fun _ _ h => h) ?_
  exact h (fun a w => InLoop P c (Ps N X R) a w) (fun s' => ⟨fun h' _ => ∀ (a : Act) (w : World), w.heap = h' → Env n a (L s') → Rest w0 w → InLoop P c (Ps N X R) a w, fun _ x => x⟩) (fun s a w hE hR hX => hX a w rfl hE hR) s a w hE hR hF
end loops

def ArgsAt (args : Array Value) : List (Nat × Value) → Prop
  | [] => True
  | (d, v) :: r => args[d]? = some v ∧ ArgsAt args r
theorem args_of {args : Array Value} {l : List (Nat × Value)} (h : ArgsAt args l) : ∀ d v, look l d = some v → args[d]? = some v := by
  induction l with
  | nil => intro d v hl; simp [look] at hl
  | cons p r ih =>
    obtain ⟨k, x⟩ := p
    intro d v hl
    simp only [look] at hl
    cases hb : Nat.beq k d with
    | true =>
      rw [hb] at hl
      simp only [cond_true, Option.some.injEq] at hl
      have := Nat.eq_of_beq_eq_true hb
      subst this; subst hl
      exact h.1
    | false => rw [hb] at hl; exact ih h.2 d v hl
theorem bool_em (b : Bool) : b = true ∨ b = false := by cases b <;> simp
theorem Env.reb {n : Nat} {a : Act} {l : List (Nat × Value)} (hE : Env n a l) (t : Nat) (b c : Bool) (h : b = c) (hl : look l t = some (.bool b)) : Env n a ((t, .bool c) :: l) := by
  subst h
  refine ⟨hE.size, hE.defers, fun d v hd => ?_⟩
  simp only [look] at hd
  cases hb : Nat.beq t d with
  | true =>
    rw [hb] at hd
    simp only [cond_true, Option.some.injEq] at hd
    have := Nat.eq_of_beq_eq_true hb
    subst this; subst hd
    exact hE.at_ _ _ hl
  | false => rw [hb] at hd; exact hE.at_ _ _ hd
end Gx
