/- Own library: a small logic of Lean programs over the model's heap, with the laws that tie Go code to it. No condition. -/
import Derived.WalkKit
import Derived.OrdersHeld
namespace Gx
open Go

abbrev Heap := Array Obj

/-- a program over the heap, as what it asks for: wp h Q says that from h it ends, and Q holds of what it tells and of the heap that it leaves. -/
structure M (α : Type) where
  wp : Heap → (α → Heap → Prop) → Prop
  mono : ∀ {h : Heap} {Q Q' : α → Heap → Prop}, (∀ r h', Q r h' → Q' r h') → wp h Q → wp h Q'

namespace M
def pure {α : Type} (a : α) : M α := ⟨fun h Q => Q a h, fun hq h => hq _ _ h⟩
def bind {α β : Type} (m : M α) (f : α → M β) : M β :=
  ⟨fun h Q => m.wp h (fun r h' => (f r).wp h' Q), fun hq h => m.mono (fun r _ h' => (f r).mono hq h') h⟩
instance : Monad M where
  pure := M.pure
  bind := M.bind

/-- what is so of the heap, or it does not go on -/
def need (p : Prop) : M Unit := ⟨fun h Q => p ∧ Q () h, fun hq h => ⟨h.1, hq _ _ h.2⟩⟩
def fail {α : Type} : M α := ⟨fun _ _ => False, fun _ h => h⟩
/-- some value that has p of the heap -/
def get {α : Type} (p : Heap → α → Prop) : M α := ⟨fun h Q => ∃ r, p h r ∧ Q r h, fun hq ⟨r, hp, h⟩ => ⟨r, hp, hq _ _ h⟩⟩
/-- some value that has c of the heap, which is turned -/
def put {α : Type} (c : Heap → α → Prop) (f : Heap → α → Heap) : M α := ⟨fun h Q => ∃ r, c h r ∧ Q r (f h r), fun hq ⟨r, hp, h⟩ => ⟨r, hp, hq _ _ h⟩⟩
/-- whatever of these -/
def any {α : Type} (p : Heap → α → Heap → Prop) (c : Heap → Prop) : M α := ⟨fun h Q => c h ∧ ∀ r h', p h r h' → Q r h', fun hq h => ⟨h.1, fun r h' hp => hq _ _ (h.2 r h' hp)⟩⟩
def both {α : Type} (m n : M α) : M α := ⟨fun h Q => m.wp h Q ∧ n.wp h Q, fun hq h => ⟨m.mono hq h.1, n.mono hq h.2⟩⟩
def ite {α : Type} (b : Bool) (m n : M α) : M α := match b with | true => m | false => n

/-- a loop, in the style of 'what comes behind': the last thing that a round does is to end or to go on -/
def loop {σ ρ : Type} (F : (σ → M ρ) → σ → M ρ) (s : σ) : M ρ :=
  ⟨fun h Q => ∀ X : σ → Heap → Prop, (∀ s h, (F (fun s' => ⟨fun h' _ => X s' h', fun _ x => x⟩) s).wp h Q → X s h) → X s h,
   fun hq hw X hX => hw X (fun s h hf => hX s h ((F _ s).mono hq hf))⟩

theorem loop_inv {σ ρ : Type} {F : (σ → M ρ) → σ → M ρ} {Q : ρ → Heap → Prop} (I : σ → Heap → Prop) (μ : σ → Heap → Nat)
    (step : ∀ s h, I s h → ∀ self : σ → M ρ, (∀ s' h', I s' h' → μ s' h' < μ s h → (self s').wp h' Q) → (F self s).wp h Q)
    {s : σ} {h : Heap} (hI : I s h) : (loop F s).wp h Q := by
  intro X hX
  have key : ∀ n s h, μ s h = n → I s h → X s h := by
    intro n
    induction n using Nat.strongRecOn with
    | _ n ih =>
      intro s h hn hI
      exact hX s h (step s h hI _ fun s' h' hI' hlt => ih (μ s' h') (hn ▸ hlt) s' h' rfl hI')
  exact key _ s h rfl hI

/-- a function that calls itself -/
def fix {σ ρ : Type} (F : (σ → M ρ) → σ → M ρ) (s : σ) : M ρ :=
  ⟨fun h Q => ∀ X : σ → M ρ, (∀ s h Q, (F X s).wp h Q → (X s).wp h Q) → (X s).wp h Q,
   fun hq hw X hX => (X _).mono hq (hw X hX)⟩

theorem fix_inv {σ ρ : Type} {F : (σ → M ρ) → σ → M ρ} (I : σ → Heap → (ρ → Heap → Prop) → Prop) (μ : σ → Heap → Nat)
    (step : ∀ s h Q, I s h Q → ∀ self : σ → M ρ, (∀ s' h' Q', I s' h' Q' → μ s' h' < μ s h → (self s').wp h' Q') → (F self s).wp h Q)
    {s : σ} {h : Heap} {Q : ρ → Heap → Prop} (hI : I s h Q) : (fix F s).wp h Q := by
  intro X hX
  have key : ∀ n s h Q, μ s h = n → I s h Q → (X s).wp h Q := by
    intro n
    induction n using Nat.strongRecOn with
    | _ n ih =>
      intro s h Q hn hI
      exact hX s h Q (step s h Q hI _ fun s' h' Q' hI' hlt => ih (μ s' h') (hn ▸ hlt) s' h' Q' rfl hI')
  exact key _ s h Q rfl hI
end M

theorem M.unbind {α β : Type} {m : M α} {f : α → M β} {h : Heap} {Q : β → Heap → Prop} (H : (m >>= f).wp h Q) : m.wp h (fun r h' => (f r).wp h' Q) := H
section unfolds
variable {α β : Type} {h : Heap}
theorem wp_pure {a : α} {Q : α → Heap → Prop} : (Pure.pure a : M α).wp h Q = Q a h := rfl
theorem wp_bind {m : M α} {f : α → M β} {Q : β → Heap → Prop} : (m >>= f).wp h Q = m.wp h (fun r h' => (f r).wp h' Q) := rfl
theorem wp_mpure {a : α} {Q : α → Heap → Prop} : (M.pure a : M α).wp h Q = Q a h := rfl
theorem wp_mbind {m : M α} {f : α → M β} {Q : β → Heap → Prop} : (m.bind f).wp h Q = m.wp h (fun r h' => (f r).wp h' Q) := rfl
end unfolds

/-! ### The frame -/
def look : List (Nat × Value) → Nat → Option Value
  | [], _ => none
  | (k, v) :: l, d => bif Nat.beq k d then some v else look l d

/-- the frame has n slots, no call is put off, and what l says of its slots is so -/
structure Env (n : Nat) (a : Act) (l : List (Nat × Value)) : Prop where
  size : a.tmps.size = n
  defers : a.defers = []
  at_ : ∀ d v, look l d = some v → a.tmps[d]? = some v

theorem Env.put {n : Nat} {a : Act} {l : List (Nat × Value)} (hE : Env n a l) (d : Nat) (v : Value) (hd : Nat.blt d n = true) : Env n (a.put (some d) v) ((d, v) :: l) := by
  have hd' : d < n := by simpa [Nat.blt_eq] using hd
  refine ⟨by simp [Act.put, hE.size], hE.defers, fun d' v' hl => ?_⟩
  simp only [look] at hl
  by_cases h : d = d'
  · subst h
    simp at hl
    subst hl
    simp [Act.put, hE.size, hd']
  · have hb : Nat.beq d d' = false := by
      cases hx : Nat.beq d d' with
      | false => rfl
      | true => exact absurd (Nat.eq_of_beq_eq_true hx) h
    rw [hb] at hl
    simp only [cond_false] at hl
    have := hE.at_ d' v' hl
    simp only [Act.put]
    rw [Array.getElem?_setIfInBounds_ne h]
    exact this

theorem Env.putNone {n : Nat} {a : Act} {l : List (Nat × Value)} (hE : Env n a l) (v : Value) : Env n (a.put none v) l := hE

theorem Env.eval {n : Nat} {a : Act} {l : List (Nat × Value)} (hE : Env n a l) {t : Nat} {v : Value} (h : look l t = some v) : a.eval (.tmp t) = v := by
  have := hE.at_ t v h
  simp [Act.eval, Array.getD_eq_getD_getElem?, this]

theorem Env.sub {n : Nat} {a : Act} {l : List (Nat × Value)} (hE : Env n a l) (l' : List (Nat × Value)) (h : ∀ d v, look l' d = some v → look l d = some v) : Env n a l' :=
  ⟨hE.size, hE.defers, fun d v hl => hE.at_ d v (h d v hl)⟩

/-- a list that is taken out of another -/
def Subs (l : List (Nat × Value)) : List (Nat × Value) → Prop
  | [] => True
  | (d, v) :: r => look l d = some v ∧ Subs l r
theorem Subs.spec {l l' : List (Nat × Value)} (h : Subs l l') : ∀ d v, look l' d = some v → look l d = some v := by
  induction l' with
  | nil => intro d v hl; simp [look] at hl
  | cons p r ih =>
    obtain ⟨k, x⟩ := p
    intro d v hl
    simp only [look] at hl
    cases hb : Nat.beq k d with
    | true =>
      rw [hb] at hl
      simp only [cond_true, Option.some.injEq] at hl
      subst hl
      have := Nat.eq_of_beq_eq_true hb
      subst this
      exact h.1
    | false =>
      rw [hb] at hl
      exact ih h.2 d v hl
theorem Subs.nil {l : List (Nat × Value)} : Subs l [] := trivial
theorem Subs.cons {l r : List (Nat × Value)} {d : Nat} {v : Value} (h : look l d = some v) (hr : Subs l r) : Subs l ((d, v) :: r) := ⟨h, hr⟩
theorem Env.cut {n : Nat} {a : Act} {l l' : List (Nat × Value)} (hE : Env n a l) (h : Subs l l') : Env n a l' := hE.sub l' h.spec

/-- the frame of a call -/
theorem Env.enter {n : Nat} (args : Array Value) (l : List (Nat × Value)) (hs : args.size ≤ n) (h : ∀ d v, look l d = some v → args[d]? = some v) :
    Env n { tmps := args ++ Array.replicate (n - args.size) undef, defers := [] } l := by
  refine ⟨by simp; omega, rfl, fun d v hl => ?_⟩
  have := h d v hl
  have hlt : d < args.size := by
    rcases Nat.lt_or_ge d args.size with h' | h'
    · exact h'
    · rw [Array.getElem?_eq_none h'] at this; cases this
  simp only
  rw [Array.getElem?_append_left hlt]
  exact this

/-! ### What else there is in the world stays -/
structure Rest (w w' : World) : Prop where
  os : w'.os = w.os
  output : w'.output = w.output
theorem Rest.refl (w : World) : Rest w w := ⟨rfl, rfl⟩
theorem Rest.trans {w w' w'' : World} (h : Rest w w') (h' : Rest w' w'') : Rest w w'' := ⟨h'.os.trans h.os, h'.output.trans h.output⟩

/-! ### Posts -/
def Ps (N : Act → World → Prop) (X : Nat → Act → World → Prop) (R : Act → World → Prop) : Exit → Act → World → Prop
  | .normal, a, w => N a w
  | .exit id, a, w => X id a w
  | .ret, a, w => R a w
  | _, _, _ => False

def Xu (X : Nat → Act → World → Prop) (id : Nat) (N : Act → World → Prop) : Nat → Act → World → Prop := fun i => bif Nat.beq i id then N else X i
def X0 : Nat → Act → World → Prop := fun _ _ _ => False

section rules
variable {P : Program} {N : Act → World → Prop} {X : Nat → Act → World → Prop} {R : Act → World → Prop} {a : Act} {w : World}

theorem w_seq {x y : Code} (h : ∀ K : Act → World → Prop, (∀ a w, y.wp P (Ps N X R) a w → K a w) → x.wp P (Ps K X R) a w) : (Code.seq x y).wp P (Ps N X R) a w := by
  refine wp_seq ?_
  refine wp_mono (h (fun a w => y.wp P (Ps N X R) a w) fun _ _ h => h) ?_
  intro e a w hh
  cases e <;> exact hh

/-- two ways that meet again -/
theorem w_seq_join {x y : Code} (J : Act → World → Prop) (hj : ∀ a w, J a w → y.wp P (Ps N X R) a w) (hx : x.wp P (Ps J X R) a w) : (Code.seq x y).wp P (Ps N X R) a w :=
  w_seq fun K hK => wp_mono hx fun e a w hh => by cases e <;> first | exact hh | exact hK _ _ (hj _ _ hh)

theorem w_join {x : Code} (J : Act → World → Prop) (hj : ∀ a w, J a w → N a w) (hx : x.wp P (Ps J X R) a w) : x.wp P (Ps N X R) a w :=
  wp_mono hx fun e a w hh => by cases e <;> first | exact hh | exact hj _ _ hh

theorem w_block {id : Nat} {c : Code} (h : c.wp P (Ps N (Xu X id N) R) a w) : (Code.block id c).wp P (Ps N X R) a w := by
  refine wp_block (wp_mono h ?_)
  intro e a w hh
  cases e with
  | exit i =>
    simp only [Exit.inBlock, Ps, Xu] at hh ⊢
    by_cases hi : i = id
    · subst hi; simpa using hh
    · rw [if_neg hi]
      have : Nat.beq i id = false := by
        cases hx : Nat.beq i id with
        | false => rfl
        | true => exact absurd (Nat.eq_of_beq_eq_true hx) hi
      rw [this] at hh
      exact hh
  | _ => exact hh

theorem Xu.same {id : Nat} (h : N a w) : Xu X id N id a w := by
  unfold Xu
  rw [show Nat.beq id id = true from Nat.beq_refl id]
  exact h
theorem Xu.ne {i id : Nat} (hne : Nat.beq i id = false) (h : X i a w) : Xu X id N i a w := by
  unfold Xu
  rw [hne]
  exact h
theorem w_skip (h : N a w) : Code.skip.wp P (Ps N X R) a w := wp_skip h
theorem w_exit {id : Nat} (h : X id a w) : (Code.exit id).wp P (Ps N X R) a w := wp_exit h
theorem w_ret (h : R a w) : Code.ret.wp P (Ps N X R) a w := wp_ret h
theorem w_cond {n : Nat} {l : List (Nat × Value)} {t : Nat} {x y : Code} (b : Bool) (hE : Env n a l) (hb : look l t = some (.bool b))
    (ht : b = true → x.wp P (Ps N X R) a w) (hf : b = false → y.wp P (Ps N X R) a w) : (Code.cond (.tmp t) x y).wp P (Ps N X R) a w :=
  wp_cond_split (hE.eval hb) ht hf
theorem w_cond_const {x y : Code} (b : Bool)
    (ht : b = true → x.wp P (Ps N X R) a w) (hf : b = false → y.wp P (Ps N X R) a w) : (Code.cond (.const (.bool b)) x y).wp P (Ps N X R) a w :=
  wp_cond_split rfl ht hf

/-- a loop from within: the next round stands ahead -/
def InLoop (P : Program) (c : Code) (Q : Exit → Act → World → Prop) (a : Act) (w : World) : Prop :=
  ∀ (b : Frame) (k : List Item) (cs : List Frame),
    ∃ e a' w', Q e a' w' ∧ Arrives P (lone (b.at a (.code c :: .inLoop c :: k)) cs w) b k cs e a' w'

theorem w_loop {c : Code} {Q : Exit → Act → World → Prop} (h : InLoop P c Q a w) : (Code.loop c).wp P Q a w :=
  fun b k cs => let ⟨e, a', w', q, r⟩ := h b k cs; ⟨e, a', w', q, .of_steps (.one step_loop) r⟩

theorem w_round {c : Code} (h : c.wp P (Ps (fun a w => InLoop P c (Ps N X R) a w) X R) a w) : InLoop P c (Ps N X R) a w := by
  intro b k cs
  obtain ⟨e, a₁, w₁, hq, harr⟩ := h b (.inLoop c :: k) cs
  cases e with
  | normal =>
    obtain ⟨e₂, a₂, w₂, hq₂, harr₂⟩ := hq b k cs
    exact ⟨e₂, a₂, w₂, hq₂, .of_steps (Steps.trans harr (.one step_inLoop)) harr₂⟩
  | exit id => exact ⟨.exit id, a₁, w₁, hq, .pass (x := .inLoop c) rfl (fun _ _ => .inl (by simp)) harr⟩
  | goto l => exact hq.elim
  | ret => exact ⟨.ret, a₁, w₁, hq, .pass (x := .inLoop c) rfl (fun _ _ => .inl (by simp)) harr⟩
  | panic ch => exact hq.elim
  | outgrown => exact hq.elim

/-- the round's step, the loop's own name kept behind a letter -/
theorem w_round' {c : Code} (Y : Act → World → Prop) (hY : ∀ a w, Y a w → InLoop P c (Ps N X R) a w) (h : c.wp P (Ps Y X R) a w) : InLoop P c (Ps N X R) a w :=
  w_round (w_join Y hY h)
end rules

/-! ### A function's contract -/
/-- what a call of f comes to: F, over the heap; 'enc' writes what is told as a value -/
def Sound (P : Program) (f : FuncId) (args : Array Value) {ρ : Type} (enc : ρ → Value) (F : M ρ) : Prop :=
  ∀ (w : World) (Q : ρ → Heap → Prop), F.wp w.heap Q → Calls P f args w fun e w' => ∃ r, e = .returned (enc r) ∧ Q r w'.heap ∧ Rest w w'

theorem sound_of {P : Program} {f : FuncId} {fn : Func} {c : Code} {args : Array Value} {ρ : Type} {enc : ρ → Value} {F : M ρ} {n : Nat} (l : List (Nat × Value))
    (hf : P.funcs[f]? = some fn) (hb : fn.body = some c) (hn : fn.ntmps = n) (hs : args.size ≤ n) (hl : ∀ d v, look l d = some v → args[d]? = some v)
    (h : ∀ (w0 w : World) (Q : ρ → Heap → Prop) (R : Act → World → Prop) (a : Act),
      (∀ a w l r v, Env n a l → Rest w0 w → (results fn a.tmps).run P w = .ok v w → v = enc r → Q r w.heap → R a w) →
      Env n a l → Rest w0 w → F.wp w.heap Q → c.wp P (Ps R X0 R) a w) : Sound P f args enc F := by
  intro w Q hF
  refine calls_of_wp hf hb ?_
  refine wp_mono (h w w Q (fun a w' => a.defers = [] ∧ ∃ v, (results fn a.tmps).run P w' = .ok v w' ∧ ∃ r, Ending.returned v = .returned (enc r) ∧ Q r w'.heap ∧ Rest w w') _ ?_ (hn ▸ Env.enter args l (hn ▸ hs) hl) (Rest.refl w) hF) ?_
  · rintro a w' l r v hE hR hrun rfl hQ
    exact ⟨hE.defers, _, hrun, r, rfl, hQ, hR⟩
  · intro e a w' hh
    cases e with
    | normal => exact hh
    | ret => exact hh
    | exit i => exact hh.elim
    | goto l => exact hh.elim
    | panic c => exact hh.elim
    | outgrown => exact hh.elim
end Gx
