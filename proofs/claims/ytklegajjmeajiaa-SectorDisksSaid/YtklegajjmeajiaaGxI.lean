/- Own library: a small logic of Lean programs over the model's heap, with the laws that tie Go code to it. No condition. -/
import Derived.Test.YtklegajjmeajiaaGxH
namespace Gx
open Go
section ops
variable {P : Program} {n : Nat} {a : Act} {w : World} {l : List (Nat × Value)} {dst : Option Tmp} {ty : TypeId} {pos : String} {aft : Array Edge} {g : Option (Nat × Bool)}
theorem ap_info {e sz bytes : Nat} {z : Array Value} (h : ((P.info? e).bind fun i => i.zero.map fun v => (i.size, i.bytes, v.cells)) = some (sz, bytes, z)) : ∃ i, P.info? e = some i ∧ i.size = sz ∧ i.bytes = bytes ∧ ∃ v, i.zero = some v ∧ v.cells = z := by
  cases hi : P.info? e with
  | none => rw [hi] at h; cases h
  | some i =>
    rw [hi] at h
    simp only [Option.bind_some] at h
    cases hz : i.zero with
    | none => rw [hz] at h; cases h
    | some v =>
      rw [hz] at h
      simp only [Option.map_some, Option.some.injEq, Prod.mk.injEq] at h
      exact ⟨i, rfl, h.1, h.2.1, v, hz, h.2.2⟩
theorem ex_run {x : Operand} {v : Value} {i : Nat} {b : Bool} (hE : Env n a l) (hx : opv l x = some v) (hc : ∃ vs, v = .tuple vs ∧ vs[i]? = some (.bool b)) : (execOp a.eval ⟨dst, .extract x i, ty, pos, aft, g⟩).run P w = .ok (.value (.bool b)) w := by
  obtain ⟨vs, rfl, h⟩ := hc
  exact r_extract hE hx h
theorem r_convS {s d : Nat} {x : Operand} {u : ByteArray} (hE : Env n a l) (hx : opv l x = some (.string u)) (hs : P.underlying s = some .string) (hd : P.underlying d = some .string) :
    (execOp a.eval ⟨dst, .convert s d x, ty, pos, aft, g⟩).run P w = .ok (.value (.string u)) w := by
  simp [execOp, hE.opv hx, convert, run_underlying hs, run_underlying hd]
theorem r_lenA {t ti q e : Nat} {x : Operand} {v : Value} (hE : Env n a l) (hx : opv l x = some v) (ht : P.underlying t = some (.array q e)) :
    (execOp a.eval ⟨dst, .call { callee := .builtin .len, args := #[x], argTypes := #[t] }, ti, pos, aft, g⟩).run P w = .ok (.value (.int .i64 (q : Int))) w := by
  simp [execOp, resolve, invoke, builtin, Builtin.len_, hE.opv hx, run_underlying ht, goInt]
theorem r_max {x y : Operand} {k k' : IntKind} {u v : Int} {ts : Array TypeId} (hE : Env n a l) (hx : opv l x = some (.int k u)) (hy : opv l y = some (.int k' v)) :
    (execOp a.eval ⟨dst, .call { callee := .builtin .max, args := #[x, y], argTypes := ts }, ty, pos, aft, g⟩).run P w = .ok (.value (.int k (iMax u v))) w := by
  simp [execOp, resolve, invoke, builtin, Builtin.max_, Builtin.max2, hE.opv hx, hE.opv hy, iMax, List.foldlM]
theorem s2b_run {s d e : Nat} {x : Operand} {u : ByteArray} {Q : Sl → Heap → Prop} (hE : Env n a l) (hx : opv l x = some (.string u)) (hs : P.underlying s = some .string) (hd : P.underlying d = some (.slice e)) (he : P.underlying e = some (.int .u8)) (H : (s2b e u).wp w.heap Q) :
    ∃ r w1, (execOp a.eval ⟨dst, .convert s d x, ty, pos, aft, g⟩).run P w = .ok (.value (Sl.v r)) w1 ∧ Rest w w1 ∧ Q r w1.heap := by
  let cap := (Question.appendCap u.size 0 e).cut (w.tape w.drawn (.appendCap u.size 0 e))
  have hcap : u.size ≤ cap := by simp only [cap, Question.cut]; omega
  have hH := H cap hcap (cap, cap + 1) rfl
  refine ⟨⟨some ⟨w.heap.size, 0, none⟩, u.size, cap⟩, { w with drawn := w.drawn + 1, heap := w.heap.push (.cells ((sbytes u).toArray ++ Array.replicate (cap - u.size) (.int .u8 0)) e (cap, cap + 1)) }, ?_, ⟨rfl, rfl⟩, hH⟩
  have hl : (sbytes u).length = u.size := by simp [sbytes]
  have e1 : u.data.map (fun (b : UInt8) => Value.int .u8 (b.toNat : Int)) = (sbytes u).toArray := by unfold sbytes; rw [← Array.toList_map, Array.toArray_toList]
  have hsz : u.size + (cap - u.size) = cap := by omega
  have hrun : (Conv.stringToBytes e u).run P w = .ok (.slice (some ⟨w.heap.size, 0, none⟩) u.size cap) { w with drawn := w.drawn + 1, heap := w.heap.push (.cells ((sbytes u).toArray ++ Array.replicate (cap - u.size) (.int .u8 0)) e (cap, cap + 1)) } := by
    have hf : (Question.appendCap u.size 0 e).forced = false := rfl
    unfold Conv.stringToBytes
    simp only [Sem.run_bind, run_choose, hf, Bool.false_eq_true, if_false, Result.andThen_ok]
    show (((newRow e (u.data.map (fun (b : UInt8) => Value.int .u8 (b.toNat : Int)) ++ Array.replicate (cap - u.size) (.int .u8 0))).run P { w with drawn := w.drawn + 1 }).andThen _) = _
    rw [e1]
    simp only [newRow, Sem.run_bind, run_newObj, Result.andThen_ok, Sem.run_pure, markStringish, run_shape, World.shape?, Array.getElem?_push_size]
    simp only [Array.size_append, List.size_toArray, hl, Array.size_replicate, hsz, run_freeze, Result.andThen_ok, Sem.run_pure]
    simp only [World.freeze, Nat.add_one_ne_zero, if_false]
    congr 1
    congr 1
    apply Array.ext
    · simp
    · intro i h1 h2
      simp only [Array.getElem_modify]
      split
      · rename_i hi
        subst hi
        simp
      · rename_i hne
        have hlt : i < w.heap.size := by simp at h2; omega
        rw [Array.getElem_push_lt hlt, Array.getElem_push_lt hlt]
  simp [execOp, hE.opv hx, convert, run_underlying hs, run_underlying hd, he, run_underlying he, hrun, Sl.v]
/-- []byte("..") of a constant: the block bears a mark behind its end -/
def hmrk (s : Sl) (h : Heap) : Heap := match s.base with
  | some a => match h[a.block]? with
    | some (.cells c _ _) => h.modify a.block fun
      | .cells c' t (lo, hi) => .cells c' t (if lo = hi then (c.size, c.size + 1) else (min lo c.size, max hi (c.size + 1)))
      | o => o
    | _ => h
  | none => h
def mrk (s : Sl) : M Sl := ⟨fun h Q => ∃ r : Sl, (r = s ∧ ∃ a c t f, s.base = some a ∧ h[a.block]? = some (.cells c t f)) ∧ Q r (hmrk s h), fun hq ⟨r, hp, h⟩ => ⟨r, hp, hq _ _ h⟩⟩
theorem r_mrk {t e : Nat} {x : Operand} {s r : Sl} (hE : Env n a l) (hx : opv l x = some s.v) (ht : P.underlying t = some (.slice e)) (he : P.underlying e = some (.int .u8)) (hc : r = s ∧ ∃ a c t f, s.base = some a ∧ w.heap[a.block]? = some (.cells c t f)) :
    (execOp a.eval ⟨dst, .convert t t x, ty, pos, aft, g⟩).run P w = .ok (.value r.v) { w with heap := hmrk s w.heap } := by
  obtain ⟨rfl, b, c, t', f, hb, hh⟩ := hc
  have hsh : w.shape? b.block = some (t', c.size) := by simp only [World.shape?, hh]
  simp only [hmrk, hb, hh]
  simp [execOp, hE.opv hx, convert, run_underlying ht, run_underlying he, Sl.v, hb, markStringish, hsh, World.freeze]
  rfl

theorem r_nilV {x : Operand} {v r : Value} (hE : Env n a l) (hx : opv l x = some r) (hc : r = v ∧ v ≠ .nilFunc ∧ v ≠ .nilIface ∧ v ≠ .pointer none ∧ ∀ n x y, v ≠ .func (.method n) x y) : (execOp a.eval ⟨dst, .nilCheck x, ty, pos, aft, g⟩).run P w = .ok (.value r) w := by
  obtain ⟨rfl, h1, h2, h3, h4⟩ := hc
  cases r with
  | func fn x y => cases fn <;> first | exact absurd rfl (h4 _ _ _) | simp [execOp, hE.opv hx]
  | pointer p => cases p <;> first | exact absurd rfl h3 | simp [execOp, hE.opv hx]
  | nilFunc => exact absurd rfl h1
  | nilIface => exact absurd rfl h2
  | _ => simp [execOp, hE.opv hx]
theorem r_makeFunc {fn : Fn} {cs : Array Operand} {vs : List Value} (hE : Env n a l) (h : opvs l cs.toList = some vs) : (execOp a.eval ⟨dst, .makeFunc fn #[] cs, ty, pos, aft, g⟩).run P w = .ok (.value (.func fn #[] vs.toArray)) w := by
  have h1 : cs.map a.eval = vs.toArray := by
    have := hE.opvs h
    rw [← this, ← Array.toList_map, Array.toArray_toList]
  simp [execOp, Instr.makeFunc, h1]
/-- a call of a function value -/
def callV (P : Program) {ρ : Type} (enc : ρ → Value) (v : Value) (args : List Value) : M ρ :=
  ⟨fun h Q => ∃ (f : FuncId) (cap : Array Value) (F : M ρ), v = .func (.func f) #[] cap ∧ Callee? P f ∧ Sound P f (args.toArray ++ cap) enc F ∧ F.wp h Q,
   fun hq ⟨f, cap, F, h1, h2, h3, h4⟩ => ⟨f, cap, F, h1, h2, h3, F.mono hq h4⟩⟩
end ops
section steps
variable {P : Program} {ops : Array Oper} {K : Act → World → Prop} {X : Nat → Act → World → Prop} {R : Act → World → Prop} {n : Nat} {a : Act} {w w0 : World} {l : List (Nat × Value)} {rest : List Oper}
theorem r_callV {dst : Option Tmp} {f : FuncId} {cap : Array Value} {x : Operand} {as : Array Operand} {ts : Array TypeId} {ty : TypeId} {pos : String} {aft : Array Edge} {g : Option (Nat × Bool)} {vs : List Value} (hE : Env n a l) (hx : opv l x = some (.func (.func f) #[] cap)) (hc : Callee? P f) (ha : opvs l as.toList = some vs) :
    (execOp a.eval ⟨dst, .call { callee := .value x, args := as, argTypes := ts }, ty, pos, aft, g⟩).run P w = .ok (.enter f (vs.toArray ++ cap)) w := by
  have h1 : as.map a.eval = vs.toArray := by
    have := hE.opvs ha
    rw [← this, ← Array.toList_map, Array.toArray_toList]
  have h2 := hc (vs.toArray ++ cap) w
  simp [execOp, resolve, Deferred.ofValue, invoke, hE.opv hx, h1, h2]
theorem t_callV {d : Option Nat} {x : Operand} {as : Array Operand} {ts : Array TypeId} {ty : TypeId} {pos : String} {aft : Array Edge} {v : Value} {vs : List Value} {ρ : Type} {enc : ρ → Value} {Q : ρ → Heap → Prop}
    (hE : Env n a l) (hR : Rest w0 w) (hx : opv l x = some v) (ha : opvs l as.toList = some vs) (H : (callV P enc v vs).wp w.heap Q)
    (h : ∀ r a' w', a' = a.put d (enc r) → Rest w0 w' → Q r w'.heap → wpList P ops (Ps K X R) rest a' w') :
    wpList P ops (Ps K X R) (⟨d, .call { callee := .value x, args := as, argTypes := ts }, ty, pos, aft, none⟩ :: rest) a w := by
  obtain ⟨f, cap, F, rfl, hc, hS, hF⟩ := H
  refine wpList_plain rfl fun K' hK => ?_
  unfold Oper.wp
  rw [r_callV hE hx hc ha, Oper.upon_enter]
  refine (hS w Q hF).mono ?_
  rintro e w' ⟨r, rfl, hq, hr⟩
  exact hK _ _ (h r _ w' rfl (hR.trans hr) hq)
end steps
end Gx
