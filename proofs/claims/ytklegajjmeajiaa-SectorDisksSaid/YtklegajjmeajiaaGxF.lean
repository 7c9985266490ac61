/- Own library: a small logic of Lean programs over the model's heap, with the laws that tie Go code to it. No condition. -/
import Derived.Test.YtklegajjmeajiaaGxE
namespace Gx
open Go

/-! ### Arrays of numbers held against each other -/
def iat (xs : Array Value) (i : Nat) : Int := match xs[i]? with
  | some (.int _ u) => u
  | _ => 0
def aEq (q : Nat) (xs ys : Array Value) : Bool := (List.range q).all fun i => iat xs i == iat ys i
def Nums (k : IntKind) (q : Nat) (xs : Array Value) : Prop := ∀ i, i < q → ∃ u, xs[i]? = some (.int k u)
def eqA (k : IntKind) (q : Nat) (xs ys : Array Value) : M Bool := .get fun _ b => Nums k q xs ∧ Nums k q ys ∧ b = aEq q xs ys

section arr
variable {P : Program} {w : World}
theorem part_one {e : TypeId} {k : IntKind} {xs : Array Value} {i : Nat} {u : Int} (he : P.underlying e = some (.int k)) (hx : xs[i]? = some (.int k u)) : (part e xs i).run P w = .ok (.int k u) w := by
  simp [part, isAgg, run_underlying he, hx]
theorem e_arr {t e q : Nat} {k : IntKind} {xs ys : Array Value} (ht : P.underlying t = some (.array q e)) (he : P.underlying e = some (.int k)) (hs : szB P e 1 = true) (hx : Nums k q xs) (hy : Nums k q ys) (d : Nat) :
    (Op.equalIn (d + 2) t (.agg xs) (.agg ys)).run P w = .ok (aEq q xs ys) w := by
  have step : ∀ i, i < q → ((Op.equalIn (d + 1) e (.int k (iat xs i)) (.int k (iat ys i))).run P w) = .ok (iat xs i == iat ys i) w := fun i _ => by
    simp [Op.equalIn, run_underlying he]
  have hpx : ∀ i, i < q → (part e xs (i * 1)).run P w = .ok (.int k (iat xs i)) w := fun i hi => by
    obtain ⟨u, hu⟩ := hx i hi
    rw [Nat.mul_one, part_one he hu]
    simp [iat, hu]
  have hpy : ∀ i, i < q → (part e ys (i * 1)).run P w = .ok (.int k (iat ys i)) w := fun i hi => by
    obtain ⟨u, hu⟩ := hy i hi
    rw [Nat.mul_one, part_one he hu]
    simp [iat, hu]
  unfold Op.equalIn
  simp only [Sem.run_bind, run_underlying ht, Result.andThen_ok, szB_spec hs, Std.Legacy.Range.forIn_eq_forIn_range', Std.Legacy.Range.size, Nat.sub_zero, Nat.add_sub_cancel, Nat.div_one]
  have main : ∀ (m s : Nat), s + m = q → ∀ (r : Option Bool × Unit), r.fst = none →
      (forIn (m := Sem) (List.range' s m 1) r fun i r => do
        if !(← Op.equalIn (d + 1) e (← part e xs (i * 1)) (← part e ys (i * 1))) then pure (ForInStep.done (some false, ())) else pure (ForInStep.yield (none, ()))).run P w
      = .ok ⟨if (List.range' s m 1).all (fun i => iat xs i == iat ys i) then none else some false, ()⟩ w := by
    intro m
    induction m with
    | zero => intro s _ r hr; cases r; simp at hr; subst hr; simp
    | succ m ih =>
      intro s hs r hr
      rw [List.range'_succ]
      simp only [List.forIn_cons, Sem.run_bind, hpx s (by omega), hpy s (by omega), Result.andThen_ok, step s (by omega)]
      by_cases hb : (iat xs s == iat ys s) = true
      · rw [hb]
        simp only [Bool.not_true, Bool.false_eq_true, if_false, Sem.run_pure, Result.andThen_ok, List.all_cons, hb, Bool.true_and]
        exact ih (s + 1) (by omega) _ rfl
      · have hb' : (iat xs s == iat ys s) = false := by simpa using hb
        simp [hb']
  have := main q 0 (by omega) (none, ()) rfl
  rw [show aEq q xs ys = (List.range' 0 q 1).all (fun i => iat xs i == iat ys i) by simp [aEq, List.range_eq_range']]
  rw [this]
  simp only [Result.andThen_ok]
  cases (List.range' 0 q 1).all (fun i => iat xs i == iat ys i) <;> simp
theorem eq_arr {t e q : Nat} {k : IntKind} {xs ys : Array Value} {b : Bool} (ht : P.underlying t = some (.array q e)) (he : P.underlying e = some (.int k)) (hs : szB P e 1 = true) (h : Nums k q xs ∧ Nums k q ys ∧ b = aEq q xs ys) :
    (Op.equal t (.agg xs) (.agg ys)).run P w = .ok b w := by
  obtain ⟨hx, hy, rfl⟩ := h
  exact e_arr ht he hs hx hy 9998
theorem g_agg {op : BinOp} {t : Nat} {x y : Operand} {u v : Array Value} (h : P.eqGuardType P.depth t = false) : (eqGuard op t x y (.agg u) (.agg v)).run P w = .ok () w := run_eqGuard_agg w op t x y u v h
theorem b_eqlA {t e q : Nat} {k : IntKind} {xs ys : Array Value} {b : Bool} (ht : P.underlying t = some (.array q e)) (he : P.underlying e = some (.int k)) (hs : szB P e 1 = true) (h : Nums k q xs ∧ Nums k q ys ∧ b = aEq q xs ys) :
    (binOp .eql t (.agg xs) (.agg ys)).run P w = .ok (.bool b) w := by
  have e1 : binOp .eql t (.agg xs) (.agg ys) = (do pure (.bool (← Op.equal t (.agg xs) (.agg ys)))) := rfl
  rw [e1, Sem.run_bind, eq_arr ht he hs h]
  rfl
theorem b_neqA {t e q : Nat} {k : IntKind} {xs ys : Array Value} {b : Bool} (ht : P.underlying t = some (.array q e)) (he : P.underlying e = some (.int k)) (hs : szB P e 1 = true) (h : Nums k q xs ∧ Nums k q ys ∧ b = aEq q xs ys) :
    (binOp .neq t (.agg xs) (.agg ys)).run P w = .ok (.bool !b) w := by
  have e1 : binOp .neq t (.agg xs) (.agg ys) = (do pure (.bool (!(← Op.equal t (.agg xs) (.agg ys))))) := rfl
  rw [e1, Sem.run_bind, eq_arr ht he hs h]
  rfl
end arr

/-! ### Rows of cells: read, appended to, copied, made -/
/-- the m cells from b on are cs -/
def Reads (h : Heap) (b : Option Addr) (cs : List Value) : Prop :=
  cs = [] ∨ ∃ a, b = some a ∧ ∀ j v, cs[j]? = some v → hcell h (a.add j) = some v
/-- m cells may be written from a on -/
def Open (h : Heap) (a : Addr) (m : Nat) : Prop := ∀ j, j < m → (∃ x, hcell h (a.add j) = some x) ∧ hfrozen h (a.add j) = false
def hputL (h : Heap) (b : Option Addr) (off : Nat) (cs : List Value) : Heap := match b with
  | some a => hsetL h (a.add off) cs 0
  | none => h
def zRow (z : Array Value) (n : Nat) : Array Value := ((List.range n).map fun i => z[i % z.size]!).toArray
theorem zRow_eq (z : Array Value) (n : Nat) : zRow z n = (Array.range n).map fun i => z[i % z.size]! := by
  apply Array.ext'
  simp [zRow]

/-- what append comes to: news behind s's cells -/
def apGo (e sz bytes : Nat) (z : Array Value) (s : Sl) (k : Nat) (news : List Value) (h : Heap) (Q : Sl → Heap → Prop) : Prop :=
  if s.len + k ≤ s.cap then
    (∀ a, s.base = some a → Open h (a.add (s.len * sz)) news.length) ∧ (∀ v ∈ news, one v = true) ∧ Q ⟨s.base, s.len + k, s.cap⟩ (hputL h s.base (s.len * sz) news)
  else (s.len + k) * bytes ≤ 140737488355328 ∧ s.len + k ≤ 9223372036854775807 ∧ ∃ olds : List Value, olds.length = s.len * sz ∧ Reads h s.base olds ∧
    ∀ cap, s.len + k ≤ cap → Q ⟨some ⟨h.size, 0, none⟩, s.len + k, cap⟩ (h.push (.cells (olds.toArray ++ news.toArray ++ zRow z ((cap - (s.len + k)) * z.size)) e))
theorem apGo_mono {e sz bytes : Nat} {z : Array Value} {s : Sl} {k : Nat} {news : List Value} {h : Heap} {Q Q' : Sl → Heap → Prop} (hq : ∀ r h', Q r h' → Q' r h') (H : apGo e sz bytes z s k news h Q) : apGo e sz bytes z s k news h Q' := by
  unfold apGo at H ⊢
  split at H
  · rename_i hc
    rw [if_pos hc]
    exact ⟨H.1, H.2.1, hq _ _ H.2.2⟩
  · rename_i hc
    rw [if_neg hc]
    obtain ⟨h1, h2, olds, h3, h4, h5⟩ := H
    exact ⟨h1, h2, olds, h3, h4, fun cap hcap => hq _ _ (h5 cap hcap)⟩
/-- append(s, x...) -/
def apL (e sz bytes : Nat) (z : Array Value) (s x : Sl) : M Sl :=
  ⟨fun h Q => ∃ news : List Value, news.length = x.len * sz ∧ Reads h x.base news ∧ apGo e sz bytes z s x.len news h Q,
   fun hq ⟨news, h1, h2, h3⟩ => ⟨news, h1, h2, apGo_mono hq h3⟩⟩
def sbytes (x : ByteArray) : List Value := x.data.toList.map fun (b : UInt8) => Value.int .u8 (b.toNat : Int)
/-- append(b, s...): a string's bytes -/
def apS (e : Nat) (s : Sl) (x : ByteArray) : M Sl :=
  ⟨fun h Q => apGo e 1 1 #[.int .u8 0] s x.size (sbytes x) h Q, fun hq h3 => apGo_mono hq h3⟩
/-- copy(d, s) -/
def cpL (sz : Nat) (d s : Sl) : M Int :=
  ⟨fun h Q => ∃ cs : List Value, cs.length = min s.len d.len * sz ∧ Reads h s.base cs ∧ (∀ a, d.base = some a → Open h a cs.length) ∧ (∀ v ∈ cs, one v = true) ∧ Q (min s.len d.len : Nat) (hputL h d.base 0 cs),
   fun hq ⟨cs, h1, h2, h3, h4, h5⟩ => ⟨cs, h1, h2, h3, h4, hq _ _ h5⟩⟩
/-- make([]T, n, c) -/
def mkS (e sz bytes : Nat) (z : Array Value) (n c : Int) : M Sl :=
  ⟨fun h Q => 0 ≤ n ∧ n ≤ c ∧ bytes * c ≤ 281474976710656 ∧ c ≤ 9223372036854775807 ∧ Q ⟨some ⟨h.size, 0, none⟩, n.toNat, c.toNat⟩ (h.push (.cells (zRow z (c.toNat * sz)) e)),
   fun hq ⟨h1, h2, h3, h4, h5⟩ => ⟨h1, h2, h3, h4, hq _ _ h5⟩⟩

/-- what of a type append asks -/
def apB (P : Program) (t e sz bytes : Nat) (z : Array Value) : Prop := P.underlying t = some (.slice e) ∧ ∃ i, P.info? e = some i ∧ i.size = sz ∧ i.bytes = bytes ∧ ∃ v, i.zero = some v ∧ v.cells = z

section rows
variable {P : Program} {n : Nat} {a : Act} {w : World} {l : List (Nat × Value)} {dst : Option Tmp} {ty : TypeId} {pos : String} {aft : Array Edge} {g : Option (Nat × Bool)}
theorem run_first {sz k : Nat} {s : Sl} {cs : List Value} (hl : cs.length = k * sz) (hr : Reads w.heap s.base cs) : (Builtin.firstCells sz k s.v).run P w = .ok cs.toArray w := by
  rcases hr with rfl | ⟨b, hb, hc⟩
  · unfold Sl.v
    cases hb : s.base with
    | none => exact run_firstCells_none w sz k s.len s.cap
    | some b => exact run_firstCells_some w sz k b s.len s.cap [] hl (by simp)
  · unfold Sl.v
    rw [hb]
    exact run_firstCells_some w sz k b s.len s.cap cs hl (fun j v hj => hc j v hj)
theorem run_puts {b : Option Addr} {off : Nat} {cs : List Value} (hw : ∀ a, b = some a → Open w.heap (a.add off) cs.length) (h1 : ∀ v ∈ cs, one v = true) :
    (match b with | some a => storeCells (a.add off) cs | none => pure () : Sem Unit).run P w = .ok () { w with heap := hputL w.heap b off cs } := by
  cases b with
  | none => rfl
  | some a => exact run_storeCells_h cs 0 w (fun j hj => by rw [Nat.zero_add]; exact hw a rfl j hj) h1

theorem run_append {t ty e sz bytes k : Nat} {z : Array Value} {s : Sl} {x : Value} {u : TypeId} {news : List Value} {Q : Sl → Heap → Prop} (hu : P.underlying u = some (.slice e) ∨ P.underlying u = some .string)
    (hP : apB P t e sz bytes z) (hk : ∀ w : World, (Builtin.lenOf x).run P w = .ok k w) (hx : ∀ w' : World, w'.heap = w.heap → (Builtin.firstCells sz k x).run P w' = .ok news.toArray w') (H : apGo e sz bytes z s k news w.heap Q) :
    ∃ r w1, (Builtin.append_ #[t, u] ty #[s.v, x]).run P w = .ok (Sl.v r) w1 ∧ Rest w w1 ∧ Q r w1.heap := by
  obtain ⟨ht, i, hi, rfl, rfl, v, hv, rfl⟩ := hP
  unfold apGo at H
  split at H
  · rename_i hc
    obtain ⟨h1, h2, h3⟩ := H
    refine ⟨⟨s.base, s.len + k, s.cap⟩, { w with heap := hputL w.heap s.base (s.len * i.size) news }, ?_, ⟨rfl, rfl⟩, h3⟩
    simp only [Builtin.append_, Sl.v]
    cases hb : s.base with
    | none => rcases hu with hd | hd <;> simp [run_underlying ht, run_underlying hd, Go.sizeOf, typeInfo, hi, hk, hc, hx w rfl, hputL]
    | some b =>
      have hp : (storeCells (b.add (s.len * i.size)) news).run P w = .ok () { w with heap := hputL w.heap (some b) (s.len * i.size) news } := by
        rw [hb] at h1
        exact run_puts (b := some b) h1 h2
      rcases hu with hd | hd <;> simp [run_underlying ht, run_underlying hd, Go.sizeOf, typeInfo, hi, hk, hc, hx w rfl, hp]
  · rename_i hc
    obtain ⟨h1, h2, olds, h3, h4, h5⟩ := H
    have hlt : s.cap < s.len + k := by omega
    have h63 : ¬ (((s.len + k : Nat) : Int) > IntKind.i64.max) := by
      have e : IntKind.i64.max = 9223372036854775807 := rfl
      rw [e]; omega
    have hfit := growslice_fits hlt h1
    have h48 : ¬ (Builtin.nextslicecap (s.len + k) s.cap * i.bytes > 2 ^ 48) := by
      have e : (2 : Nat) ^ 48 = 281474976710656 := by decide
      rw [e]; omega
    have hcap : s.len + k ≤ grownCap w (s.len + k) s.cap e := by unfold grownCap; simp only [Question.cut]; omega
    refine ⟨⟨some ⟨w.heap.size, 0, none⟩, s.len + k, grownCap w (s.len + k) s.cap e⟩, { w with drawn := w.drawn + 1, heap := w.heap.push (.cells (olds.toArray ++ news.toArray ++ zRow v.cells ((grownCap w (s.len + k) s.cap e - (s.len + k)) * v.cells.size)) e) }, ?_, ⟨rfl, rfl⟩, h5 _ hcap⟩
    have ho := run_first (P := P) (w := w.drew) (sz := i.size) (k := s.len) (s := s) h3 h4
    have hn := hx w.drew rfl
    have hd' : ({ w with drawn := w.drawn + 1 } : World) = w.drew := rfl
    have hmax : ¬ ((9223372036854775807 : Int) < (s.len : Int) + (k : Int)) := by omega
    have h48' : ¬ (281474976710656 < Builtin.nextslicecap (s.len + k) s.cap * i.bytes) := by omega
    simp only [Builtin.append_, Sl.v] at ho ⊢
    rcases hu with hd | hd <;>
      simp [run_underlying ht, run_underlying hd, Go.sizeOf, typeInfo, hi, hk, hc, hmax, h48', Question.forced, hd', ho, hn, zeroValue, hv, newRow, grownCap, Builtin.zeroCells, zRow_eq]
    all_goals (rw [← Array.append_assoc, show olds.toArray ++ news.toArray = (olds ++ news).toArray from by simp]; rfl)
theorem ap_run {t e sz bytes : Nat} {z : Array Value} {x y : Operand} {s u : Sl} {Q : Sl → Heap → Prop} (hE : Env n a l) (hx : opv l x = some s.v) (hy : opv l y = some u.v) (hP : apB P t e sz bytes z) (H : (apL e sz bytes z s u).wp w.heap Q) :
    ∃ r w1, (execOp a.eval ⟨dst, .call { callee := .builtin .append, args := #[x, y], argTypes := #[t, t] }, ty, pos, aft, g⟩).run P w = .ok (.value (Sl.v r)) w1 ∧ Rest w w1 ∧ Q r w1.heap := by
  obtain ⟨news, h1, h2, h3⟩ := H
  obtain ⟨r, w1, hr, hrest, hq⟩ := run_append (P := P) (ty := ty) (x := u.v) (u := t) (.inl hP.1) hP (fun w => by simp [Builtin.lenOf, Sl.v]) (fun w' e => run_first h1 (e ▸ h2)) h3
  exact ⟨r, w1, by simp [execOp, resolve, invoke, builtin, hE.opv hx, hE.opv hy, hr], hrest, hq⟩
theorem apS_run {t e su : Nat} {x y : Operand} {s : Sl} {u : ByteArray} {Q : Sl → Heap → Prop} (hE : Env n a l) (hx : opv l x = some s.v) (hy : opv l y = some (.string u)) (hP : apB P t e 1 1 #[.int .u8 0]) (hu : P.underlying su = some .string) (H : (apS e s u).wp w.heap Q) :
    ∃ r w1, (execOp a.eval ⟨dst, .call { callee := .builtin .append, args := #[x, y], argTypes := #[t, su] }, ty, pos, aft, g⟩).run P w = .ok (.value (Sl.v r)) w1 ∧ Rest w w1 ∧ Q r w1.heap := by
  obtain ⟨r, w1, hr, hrest, hq⟩ := run_append (P := P) (ty := ty) (w := w) (s := s) (x := .string u) (u := su) (k := u.size) (news := sbytes u) (Q := Q) (.inr hu) hP (fun w => by simp [Builtin.lenOf]) (fun w' e => by
    have : (sbytes u).toArray = u.data.map fun (b : UInt8) => Value.int .u8 (b.toNat : Int) := by unfold sbytes; rw [← Array.toList_map, Array.toArray_toList]
    rw [this]
    simp [Builtin.firstCells]) H
  exact ⟨r, w1, by simp [execOp, resolve, invoke, builtin, hE.opv hx, hE.opv hy, hr], hrest, hq⟩
end rows
end Gx
