/- Own library: a small logic of Lean programs over the model's heap, with the laws that tie Go code to it. No condition. -/
import Derived.Test.YtklegajjmeajiaaGxF
namespace Gx
open Go

section rows
variable {P : Program} {n : Nat} {a : Act} {w : World} {l : List (Nat × Value)} {dst : Option Tmp} {ty : TypeId} {pos : String} {aft : Array Edge} {g : Option (Nat × Bool)}
theorem cp_run {t e sz : Nat} {x y : Operand} {d s : Sl} {Q : Int → Heap → Prop} {u : TypeId} (hE : Env n a l) (hx : opv l x = some d.v) (hy : opv l y = some s.v) (ht : P.underlying t = some (.slice e)) (hs : szB P e sz = true) (H : (cpL sz d s).wp w.heap Q) :
    ∃ r w1, (execOp a.eval ⟨dst, .call { callee := .builtin .copy, args := #[x, y], argTypes := #[t, u] }, ty, pos, aft, g⟩).run P w = .ok (.value (.int .i64 r)) w1 ∧ Rest w w1 ∧ Q r w1.heap := by
  obtain ⟨cs, h1, h2, h3, h4, h5⟩ := H
  refine ⟨_, { w with heap := hputL w.heap d.base 0 cs }, ?_, ⟨rfl, rfl⟩, h5⟩
  have hf := run_first (P := P) (w := w) h1 h2
  cases hb : d.base with
  | none =>
    simp only [Sl.v] at hf
    simp [execOp, resolve, invoke, builtin, hE.opv hx, hE.opv hy, Builtin.copy_, run_underlying ht, Sl.v, Builtin.lenOf, szB_spec hs, hb, goInt, hputL, Nat.min_def] at hf ⊢
    simp [hf]
  | some b =>
    have hp := run_storeCells_h (P := P) (a := b) cs 0 w (fun j hj => by rw [Nat.zero_add]; exact h3 b hb j hj) h4
    simp only [Sl.v] at hf
    simp [execOp, resolve, invoke, builtin, hE.opv hx, hE.opv hy, Builtin.copy_, run_underlying ht, Sl.v, Builtin.lenOf, szB_spec hs, hb, goInt, hputL, Nat.min_def, add_zero] at hf ⊢
    simp [hf, hp]
theorem mkS_run {t e sz bytes : Nat} {z : Array Value} {x y : Operand} {k k' : IntKind} {u v : Int} {Q : Sl → Heap → Prop} (hE : Env n a l) (hx : opv l x = some (.int k u)) (hy : opv l y = some (.int k' v)) (hP : apB P t e sz bytes z) (H : (mkS e sz bytes z u v).wp w.heap Q) :
    ∃ r w1, (execOp a.eval ⟨dst, .makeSlice t x y, ty, pos, aft, g⟩).run P w = .ok (.value (Sl.v r)) w1 ∧ Rest w w1 ∧ Q r w1.heap := by
  obtain ⟨ht, i, hi, rfl, rfl, zv, hz, rfl⟩ := hP
  obtain ⟨h1, h2, h3, h4, h5⟩ := H
  refine ⟨_, { w with heap := w.heap.push (.cells (zRow zv.cells (v.toNat * i.size)) e) }, ?_, ⟨rfl, rfl⟩, h5⟩
  have eu : IntKind.i64.wrap u = u := by rw [IntKind.wrap_i64]; omega
  have ev : IntKind.i64.wrap v = v := by rw [IntKind.wrap_i64]; omega
  have e48 : (2 : Int) ^ 48 = 281474976710656 := by decide
  have b1 : ¬ v < 0 := by omega
  have b2 : ¬ ((i.bytes : Int) * v > 281474976710656) := by omega
  have b3 : ¬ u < 0 := by omega
  have b4 : ¬ v < u := by omega
  by_cases hn : v.toNat * i.size = 0
  · simp [execOp, hE.opv hx, hE.opv hy, Instr.makeSlice, run_underlying ht, asInt, asIntOf, typeInfo, hi, eu, ev, b1, b2, b3, b4, Go.sizeOf, hn, newRow, Sl.v, zRow_eq]
    rw [show (Array.range 0) = #[] from Array.eq_empty_of_size_eq_zero (by simp)]
    simp only [Array.map_empty]
  · simp [execOp, hE.opv hx, hE.opv hy, Instr.makeSlice, run_underlying ht, asInt, asIntOf, typeInfo, hi, eu, ev, b1, b2, b3, b4, Go.sizeOf, hn, newRow, Sl.v, zRow_eq, zeroValue, hz]
theorem r_makeMap {t : Nat} {m : Option Nat} (hm : m = some w.heap.size) : (execOp a.eval ⟨dst, .makeMap t none, ty, pos, aft, g⟩).run P w = .ok (.value (.map m)) { w with heap := w.heap.push (.map #[] 0) } := by
  subst hm
  simp [execOp, Instr.makeMap]
end rows

/-! ### Maps -/
/-- the entries of a map -/
def mget (h : Heap) : Option Nat → Option (Array MapEntry)
  | none => some #[]
  | some r => match h[r]? with
    | some (.map es _) => some es
    | _ => none
/-- 'v, ok := m[k]'; dec writes what is told as a value -/
def lkM {τ : Type} (dec : τ → Value) (kd : TypeDesc) (key z : Value) (m : Option Nat) : M (τ × Bool) :=
  .get fun h r => ∃ es res, mget h m = some es ∧ Instr.findNow kd key es.toList 0 = some res ∧ dec r.1 = (match res with | some p => p.2 | none => z) ∧ r.2 = res.isSome
/-- the map's entries with a key's value laid -/
def hup (kd : TypeDesc) (key v : Value) (m : Option Nat) (h : Heap) : Heap := match m with
  | some r => match h[r]? with
    | some (.map es clock) => match Instr.findNow kd key es.toList 0 with
      | some (some (i, _)) => h.set! r (.map (es.modify i fun e => { e with key, val := v }) clock)
      | _ => h.set! r (.map (es.push { key, val := v, born := clock }) (clock + 1))
    | _ => h
  | none => h
/-- 'm[k] = v' -/
def upM (kd : TypeDesc) (key v : Value) (m : Option Nat) : M Unit :=
  ⟨fun h Q => ∃ r : Unit, (∃ r es clock res, m = some r ∧ h[r]? = some (.map es clock) ∧ Instr.findNow kd key es.toList 0 = some res) ∧ Q r (hup kd key v m h), fun hq ⟨r, hp, h⟩ => ⟨r, hp, hq _ _ h⟩⟩
def hcl (m : Option Nat) (h : Heap) : Heap := match m with
  | some r => match h[r]? with
    | some (.map _ clock) => h.set! r (.map #[] clock)
    | _ => h
  | none => h
/-- 'clear(m)' -/
def clM (m : Option Nat) : M Unit :=
  ⟨fun h Q => ∃ r : Unit, (m = none ∨ ∃ r es clock, m = some r ∧ h[r]? = some (.map es clock)) ∧ Q r (hcl m h), fun hq ⟨r, hp, h⟩ => ⟨r, hp, hq _ _ h⟩⟩
/-- 'len(m)' -/
def lenM (m : Option Nat) : M Int := .get fun h n => ∃ es, mget h m = some es ∧ n = (es.size : Int)
def hit (m : Option Nat) (h : Heap) : Obj := match m with
  | none => .mapIter none 0 #[] 0
  | some r => match h[r]? with
    | some (.map _ clock) => .mapIter (some r) clock #[] clock
    | _ => .mapIter none 0 #[] 0
/-- a range over a map begins -/
def rgM (m : Option Nat) : M Addr := ⟨fun h Q => ∃ r : Addr, (r = ⟨h.size, 0, none⟩ ∧ (m = none ∨ ∃ r es clock, m = some r ∧ h[r]? = some (.map es clock))) ∧ Q r (h.push (hit m h)), fun hq ⟨r, hp, h⟩ => ⟨r, hp, hq _ _ h⟩⟩
/-- its next step: whichever entry is left -/
def nxM (it : Addr) : M Value :=
  ⟨fun h Q => it.off = 0 ∧ ((∃ x y z, h[it.block]? = some (.mapIter none x y z) ∧ Q (.tuple #[.bool false]) h) ∨
    ∃ m since seen last es clock, h[it.block]? = some (.mapIter (some m) since seen last) ∧ h[m]? = some (.map es clock) ∧ (!seen.isEmpty && !es.isEmpty && es.all (·.born ≥ last)) = false ∧
      ((∀ e ∈ es, seen.contains e.born = false → (∀ e' ∈ es, seen.contains e'.born = false → e'.born < since → False) ∨ True) ) ∧
      (∀ e ∈ es, seen.contains e.born = false → Q (.tuple #[.bool true, e.key, e.val]) (h.set! it.block (.mapIter (some m) since (seen.push e.born) clock))) ∧
      ((∀ e ∈ es, seen.contains e.born = false → since ≤ e.born) → Q (.tuple #[.bool false]) h)),
   fun hq ⟨h0, h⟩ => ⟨h0, h.elim (fun ⟨x, y, z, h1, h2⟩ => .inl ⟨x, y, z, h1, hq _ _ h2⟩) (fun ⟨m, since, seen, last, es, clock, h1, h2, h3, h4, h5, h6⟩ => .inr ⟨m, since, seen, last, es, clock, h1, h2, h3, h4, fun e he hs => hq _ _ (h5 e he hs), fun hh => hq _ _ (h6 hh)⟩)⟩⟩
/-- the entry at which it stands: key and value -/
def enM (it : Addr) : M (Value × Value) := .get fun h r => it.off = 0 ∧ ∃ m since seen clock es stamp e, h[it.block]? = some (.mapIter (some m) since seen clock) ∧ seen.back? = some stamp ∧ h[m]? = some (.map es clock) ∧ es.find? (·.born == stamp) = some e ∧ r = (e.key, e.val)
def exB (v : Value) (i : Nat) : M Bool := .get fun _ b => ∃ vs, v = .tuple vs ∧ vs[i]? = some (.bool b)
def exI (k : IntKind) (v : Value) : M Int := .get fun _ n => v = .int k n
def keyB (d : TypeDesc) : Bool := match d with
  | .int _ => true
  | .string => true
  | .bool => true
  | _ => false

section maps
variable {P : Program} {n : Nat} {a : Act} {w : World} {l : List (Nat × Value)} {dst : Option Tmp} {ty : TypeId} {pos : String} {aft : Array Edge} {g : Option (Nat × Bool)}
theorem checkKey_ok {kt : Nat} {d : TypeDesc} {b : Bool} {m : Nat} {v : Value} (hd : P.underlying kt = some d) (hk : keyB d = true) : (Instr.checkKey b (m + 1) kt v).run P w = .ok () w := by
  unfold Instr.checkKey
  cases d <;> first | (simp [keyB] at hk; done) | simp [run_underlying hd]
theorem findKey_ok {kt : Nat} {d : TypeDesc} {v : Value} {es : List MapEntry} {res : Option (Nat × Value)} (hd : P.underlying kt = some d) (h : Instr.findNow d v es 0 = some res) : (Instr.findKey kt v es).run P w = .ok res w := by
  simp [Instr.findKey, run_underlying hd, h]
theorem getObj_map {r : Nat} {es : Array MapEntry} {c : Nat} (h : w.heap[r]? = some (.map es c)) : (getObj r).run P w = .ok (.map es c) w := by
  simp only [getObj, Sem.run, h]
theorem r_lookup2 {τ : Type} {dec : τ → Value} {t kt e : Nat} {x y : Operand} {d : TypeDesc} {key : Value} {z : Value} {m : Option Nat} {r : τ × Bool} (hE : Env n a l) (hx : opv l x = some (.map m)) (hy : opv l y = some key) (ht : P.underlying t = some (.map kt e)) (hd : P.underlying kt = some d) (hk : keyB d = true) (hz : (P.info? e).bind (·.zero) = some z)
    (hc : ∃ es res, mget w.heap m = some es ∧ Instr.findNow d key es.toList 0 = some res ∧ dec r.1 = (match res with | some p => p.2 | none => z) ∧ r.2 = res.isSome) :
    (execOp a.eval ⟨dst, .lookup t x y true, ty, pos, aft, g⟩).run P w = .ok (.value (.tuple #[dec r.1, .bool r.2])) w := by
  obtain ⟨es, res, h1, h2, h3, h4⟩ := hc
  have hzv : (zeroValue e).run P w = .ok z w := by
    cases hi : P.info? e with
    | none => rw [hi] at hz; cases hz
    | some i => rw [hi] at hz; simp at hz; simp [zeroValue, typeInfo, hi, hz]
  rw [h3, h4]
  cases m with
  | none =>
    simp [mget] at h1
    subst h1
    simp only [Instr.findNow, Option.some.injEq] at h2
    subst h2
    simp [execOp, hE.opv hx, hE.opv hy, Instr.lookup, run_underlying ht, checkKey_ok hd hk, findKey_ok hd (rfl : Instr.findNow d key [] 0 = some none), hzv]
  | some b =>
    simp only [mget] at h1
    split at h1
    · rename_i es' c hb
      simp only [Option.some.injEq] at h1
      subst h1
      cases res with
      | none => simp [execOp, hE.opv hx, hE.opv hy, Instr.lookup, run_underlying ht, getObj_map hb, checkKey_ok hd hk, findKey_ok hd h2, hzv]
      | some p => simp [execOp, hE.opv hx, hE.opv hy, Instr.lookup, run_underlying ht, getObj_map hb, checkKey_ok hd hk, findKey_ok hd h2]
    · cases h1
theorem r_lookup1 {τ : Type} {dec : τ → Value} {t kt e : Nat} {x y : Operand} {d : TypeDesc} {key : Value} {z : Value} {m : Option Nat} {r : τ × Bool} (hE : Env n a l) (hx : opv l x = some (.map m)) (hy : opv l y = some key) (ht : P.underlying t = some (.map kt e)) (hd : P.underlying kt = some d) (hk : keyB d = true) (hz : (P.info? e).bind (·.zero) = some z)
    (hc : ∃ es res, mget w.heap m = some es ∧ Instr.findNow d key es.toList 0 = some res ∧ dec r.1 = (match res with | some p => p.2 | none => z) ∧ r.2 = res.isSome) :
    (execOp a.eval ⟨dst, .lookup t x y false, ty, pos, aft, g⟩).run P w = .ok (.value (dec r.1)) w := by
  obtain ⟨es, res, h1, h2, h3, h4⟩ := hc
  have hzv : (zeroValue e).run P w = .ok z w := by
    cases hi : P.info? e with
    | none => rw [hi] at hz; cases hz
    | some i => rw [hi] at hz; simp at hz; simp [zeroValue, typeInfo, hi, hz]
  rw [h3]
  cases m with
  | none =>
    simp [mget] at h1
    subst h1
    simp only [Instr.findNow, Option.some.injEq] at h2
    subst h2
    simp [execOp, hE.opv hx, hE.opv hy, Instr.lookup, run_underlying ht, checkKey_ok hd hk, findKey_ok hd (rfl : Instr.findNow d key [] 0 = some none), hzv]
  | some b =>
    simp only [mget] at h1
    split at h1
    · rename_i es' c hb
      simp only [Option.some.injEq] at h1
      subst h1
      cases res with
      | none => simp [execOp, hE.opv hx, hE.opv hy, Instr.lookup, run_underlying ht, getObj_map hb, checkKey_ok hd hk, findKey_ok hd h2, hzv]
      | some p => simp [execOp, hE.opv hx, hE.opv hy, Instr.lookup, run_underlying ht, getObj_map hb, checkKey_ok hd hk, findKey_ok hd h2]
    · cases h1
theorem findNow_key {d : TypeDesc} {key : Value} (hk : keyB d = true) : ∀ (es : List MapEntry) (s i : Nat) (v : Value), Instr.findNow d key es s = some (some (i, v)) → s ≤ i ∧ ∃ e, es[i - s]? = some e ∧ Instr.sameNow d key e.key = some true
  | [], s, i, v, h => by simp [Instr.findNow] at h
  | e :: es, s, i, v, h => by
    simp only [Instr.findNow] at h
    cases hs : Instr.sameNow d key e.key with
    | none => rw [hs] at h; cases h
    | some b =>
      rw [hs] at h
      cases b with
      | true =>
        simp only [Option.some.injEq, Prod.mk.injEq] at h
        obtain ⟨rfl, rfl⟩ := h
        exact ⟨Nat.le_refl _, e, by simp, hs⟩
      | false =>
        obtain ⟨h1, e', h2, h3⟩ := findNow_key hk es (s + 1) i v h
        refine ⟨by omega, e', ?_, h3⟩
        rw [show i - s = (i - (s + 1)) + 1 by omega]
        simpa using h2
theorem sameNow_bits {d : TypeDesc} {k k' : Value} (h : Instr.sameNow d k k' = some true) (n : Nat) : Instr.sameBits n k' k = true := by
  unfold Instr.sameNow at h
  split at h
  · rename_i a b c e
    split at h
    · rename_i hc
      simp only [Option.some.injEq, beq_iff_eq] at h
      subst h hc
      cases n <;> simp [Instr.sameBits]
    · cases h
  · simp only [Option.some.injEq] at h
    have h' : ∀ a b : ByteArray, (a == b) = true → (b == a) = true := fun a b hab => by
      rw [Go.beq_toListBytes] at hab ⊢
      rw [beq_iff_eq] at hab ⊢
      exact hab.symm
    cases n <;> simp [Instr.sameBits, h' _ _ h]
  · simp only [Option.some.injEq, beq_iff_eq] at h; subst h; cases n <;> simp [Instr.sameBits]
  · cases h
theorem r_update {t kt e : Nat} {x y z : Operand} {d : TypeDesc} {key v : Value} {m : Option Nat} (hE : Env n a l) (hx : opv l x = some (.map m)) (hy : opv l y = some key) (hz : opv l z = some v) (ht : P.underlying t = some (.map kt e)) (hd : P.underlying kt = some d) (hk : keyB d = true)
    (hc : ∃ r es clock res, m = some r ∧ w.heap[r]? = some (.map es clock) ∧ Instr.findNow d key es.toList 0 = some res) :
    (execOp a.eval ⟨dst, .mapUpdate t x y z, ty, pos, aft, g⟩).run P w = .ok .skip { w with heap := hup d key v m w.heap } := by
  obtain ⟨r, es, clock, res, rfl, h1, h2⟩ := hc
  have hset : ∀ (o : Obj), (setObj r o).run P w = .ok () { w with heap := w.heap.set! r o } := fun o => by
    have hlt : r < w.heap.size := by
      rcases Nat.lt_or_ge r w.heap.size with h | h
      · exact h
      · rw [Array.getElem?_eq_none h] at h1; cases h1
    simp only [setObj, Sem.run, h1, Array.set!]
  simp only [hup, h1, h2]
  cases res with
  | none => simp [execOp, hE.opv hx, hE.opv hy, hE.opv hz, Instr.mapUpdate, run_underlying ht, getObj_map h1, checkKey_ok hd hk, findKey_ok hd h2, hset]
  | some p =>
    obtain ⟨i, u⟩ := p
    obtain ⟨_, e', he, hs⟩ := findNow_key hk es.toList 0 i u h2
    have he' : es[i]? = some e' := by simpa using he
    simp [execOp, hE.opv hx, hE.opv hy, hE.opv hz, Instr.mapUpdate, run_underlying ht, getObj_map h1, checkKey_ok hd hk, findKey_ok hd h2, he', Instr.keyThatStays, sameNow_bits hs, hset]
end maps
end Gx
