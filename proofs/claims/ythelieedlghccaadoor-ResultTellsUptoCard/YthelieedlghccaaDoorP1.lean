/- Own library: a small logic of Lean programs over the model's heap, with the laws that tie Go code to it. No condition. -/
import Derived.Test.YthelieedlghccaaDoorP0
import Derived.RangeFuncRecord
import Derived.RangeFuncLeaves
import Derived.Lib.UnsafeStr
import Derived.Laws.StructEq
import Derived.Laws.Externs
import Derived.Lib.MakeNoZero
set_option linter.unusedVariables false
set_option linter.unusedSimpArgs false
namespace Gx
open Go

section rows
variable {P : Program} {n : Frm} {a : Act} {w : World} {l : List (Nat × Value)} {dst : Option Tmp} {ty : TypeId} {pos : String} {aft : Array Edge} {g : Option (Nat × Bool)}
theorem cp_run {t e sz : Nat} {x y : Operand} {d s : Sl} {Q : Int → Heap → Prop} {u : TypeId} (hE : Env n a l) (hx : opv l x = some d.v) (hy : opv l y = some s.v) (ht : P.underlying t = some (.slice e)) (hs : szB P e sz = true) (H : (cpL sz d s).wp w.heap Q) :
    ∃ r w1, (execOp a.eval ⟨dst, .call { callee := .builtin .copy, args := #[x, y], argTypes := #[t, u] }, ty, pos, aft, g⟩).run P w = .ok (.value (.int .i64 r)) w1 ∧ Rest w w1 ∧ Q r w1.heap := by
  obtain ⟨cs, h1, h2, h3, h4, h5⟩ := H
  refine ⟨_, { w with heap := hputL w.heap d.base 0 cs }, ?_, ⟨rfl, rfl, rfl, Nat.le_refl _⟩, h5⟩
  have hf := run_first (P := P) (w := w) h1 h2
  cases hb : d.base with
  | none =>
    simp only [Sl.v] at hf
    simp [execOp, resolve, invoke, builtin, hE.opv hx, hE.opv hy, Builtin.copy_, run_underlying ht, Sl.v, Builtin.lenOf, szB_spec hs, hb, goInt, hputL, Nat.min_def] at hf ⊢
    simp [hf]
  | some b =>
    have hp := run_storeCells_h (P := P) (a := b) cs 0 w (fun j hj => by rw [Nat.zero_add]; exact h3 b hb j hj) h4
    simp only [Sl.v] at hf
    simp [execOp, resolve, invoke, builtin, hE.opv hx, hE.opv hy, Builtin.copy_, run_underlying ht, Sl.v, Builtin.lenOf, szB_spec hs, hb, goInt, hputL, Nat.min_def, add_zero] at hf ⊢
    simp [hf, hp]
theorem mkS_run {t e sz bytes : Nat} {z : Array Value} {x y : Operand} {k k' : IntKind} {u v : Int} {Q : Sl → Heap → Prop} (hE : Env n a l) (hx : opv l x = some (.int k u)) (hy : opv l y = some (.int k' v)) (hP : apB P t e sz bytes z) (H : (mkS e sz bytes z u v).wp w.heap Q) :
    ∃ r w1, (execOp a.eval ⟨dst, .makeSlice t x y, ty, pos, aft, g⟩).run P w = .ok (.value (Sl.v r)) w1 ∧ Rest w w1 ∧ Q r w1.heap := by
  obtain ⟨ht, i, hi, rfl, rfl, zv, hz, rfl⟩ := hP
  obtain ⟨h1, h2, h3, h4, h5⟩ := H
  refine ⟨_, { w with heap := w.heap.push (.cells (zRow zv.cells (v.toNat * i.size)) e) }, ?_, ⟨rfl, rfl, rfl, Nat.le_refl _⟩, h5⟩
  have eu : IntKind.i64.wrap u = u := by rw [IntKind.wrap_i64]; omega
  have ev : IntKind.i64.wrap v = v := by rw [IntKind.wrap_i64]; omega
  have e48 : (2 : Int) ^ 48 = 281474976710656 := by decide
  have b1 : ¬ v < 0 := by omega
  have b2 : ¬ ((i.bytes : Int) * v > 281474976710656) := by omega
  have b3 : ¬ u < 0 := by omega
  have b4 : ¬ v < u := by omega
  by_cases hn : v.toNat * i.size = 0
  · simp [execOp, hE.opv hx, hE.opv hy, Instr.makeSlice, run_underlying ht, asInt, asIntOf, typeInfo, hi, eu, ev, b1, b2, b3, b4, Go.sizeOf, hn, newRow, Sl.v, zRow_eq]
    rw [show (Array.range 0) = #[] from Array.eq_empty_of_size_eq_zero (by simp)]
    simp only [Array.map_empty]
  · simp [execOp, hE.opv hx, hE.opv hy, Instr.makeSlice, run_underlying ht, asInt, asIntOf, typeInfo, hi, eu, ev, b1, b2, b3, b4, Go.sizeOf, hn, newRow, Sl.v, zRow_eq, zeroValue, hz]
theorem r_makeMap {t : Nat} {m : Option Nat} (hm : m = some w.heap.size) : (execOp a.eval ⟨dst, .makeMap t none, ty, pos, aft, g⟩).run P w = .ok (.value (.map m)) { w with heap := w.heap.push (.map #[] 0) } := by
  subst hm
  simp [execOp, Instr.makeMap]
end rows

/-! ### Maps -/
/-- the entries of a map -/
def mget (h : Heap) : Option Nat → Option (Array MapEntry)
  | none => some #[]
  | some r => match h[r]? with
    | some (.map es _) => some es
    | _ => none
/-- 'v, ok := m[k]'; dec writes what is told as a value -/
def lkM {τ : Type} (dec : τ → Value) (kd : TypeDesc) (key z : Value) (m : Option Nat) : M (τ × Bool) :=
  .get fun h r => ∃ es res, mget h m = some es ∧ Instr.findNow kd key es.toList 0 = some res ∧ dec r.1 = (match res with | some p => p.2 | none => z) ∧ r.2 = res.isSome
/-- the map's entries with a key's value laid -/
def hup (kd : TypeDesc) (key v : Value) (m : Option Nat) (h : Heap) : Heap := match m with
  | some r => match h[r]? with
    | some (.map es clock) => match Instr.findNow kd key es.toList 0 with
      | some (some (i, _)) => h.set! r (.map (es.modify i fun e => { e with key, val := v }) clock)
      | _ => h.set! r (.map (es.push { key, val := v, born := clock }) (clock + 1))
    | _ => h
  | none => h
/-- 'm[k] = v' -/
def upM (kd : TypeDesc) (key v : Value) (m : Option Nat) : M Unit :=
  ⟨fun h Q => ∃ r : Unit, (∃ r es clock res, m = some r ∧ h[r]? = some (.map es clock) ∧ Instr.findNow kd key es.toList 0 = some res) ∧ Q r (hup kd key v m h), fun hq ⟨r, hp, h⟩ => ⟨r, hp, hq _ _ h⟩⟩
def hcl (m : Option Nat) (h : Heap) : Heap := match m with
  | some r => match h[r]? with
    | some (.map _ clock) => h.set! r (.map #[] clock)
    | _ => h
  | none => h
/-- 'clear(m)' -/
def clM (m : Option Nat) : M Unit :=
  ⟨fun h Q => ∃ r : Unit, (m = none ∨ ∃ r es clock, m = some r ∧ h[r]? = some (.map es clock)) ∧ Q r (hcl m h), fun hq ⟨r, hp, h⟩ => ⟨r, hp, hq _ _ h⟩⟩
/-- 'len(m)' -/
def lenM (m : Option Nat) : M Int := .get fun h n => ∃ es, mget h m = some es ∧ n = (es.size : Int)
def hit (m : Option Nat) (h : Heap) : Obj := match m with
  | none => .mapIter none 0 #[] 0
  | some r => match h[r]? with
    | some (.map _ clock) => .mapIter (some r) clock #[] clock
    | _ => .mapIter none 0 #[] 0
/-- a range over a map begins -/
def rgM (m : Option Nat) : M Addr := ⟨fun h Q => ∃ r : Addr, (r = ⟨h.size, 0, none⟩ ∧ (m = none ∨ ∃ r es clock, m = some r ∧ h[r]? = some (.map es clock))) ∧ Q r (h.push (hit m h)), fun hq ⟨r, hp, h⟩ => ⟨r, hp, hq _ _ h⟩⟩
/-- its next step: whichever entry is left -/
def nxM (it : Addr) : M Value :=
  ⟨fun h Q => it.off = 0 ∧ ((∃ x y z, h[it.block]? = some (.mapIter none x y z) ∧ Q (.tuple #[.bool false]) h) ∨
    ∃ m since seen last es clock, h[it.block]? = some (.mapIter (some m) since seen last) ∧ h[m]? = some (.map es clock) ∧ (!seen.isEmpty && !es.isEmpty && es.all (·.born ≥ last)) = false ∧
      ((∀ e ∈ es, seen.contains e.born = false → (∀ e' ∈ es, seen.contains e'.born = false → e'.born < since → False) ∨ True) ) ∧
      (∀ e ∈ es, seen.contains e.born = false → Q (.tuple #[.bool true, e.key, e.val]) (h.set! it.block (.mapIter (some m) since (seen.push e.born) clock))) ∧
      ((∀ e ∈ es, seen.contains e.born = false → since ≤ e.born) → Q (.tuple #[.bool false]) h)),
   fun hq ⟨h0, h⟩ => ⟨h0, h.elim (fun ⟨x, y, z, h1, h2⟩ => .inl ⟨x, y, z, h1, hq _ _ h2⟩) (fun ⟨m, since, seen, last, es, clock, h1, h2, h3, h4, h5, h6⟩ => .inr ⟨m, since, seen, last, es, clock, h1, h2, h3, h4, fun e he hs => hq _ _ (h5 e he hs), fun hh => hq _ _ (h6 hh)⟩)⟩⟩
/-- the entry at which it stands: key and value -/
def enM (it : Addr) : M (Value × Value) := .get fun h r => it.off = 0 ∧ ∃ m since seen clock es stamp e, h[it.block]? = some (.mapIter (some m) since seen clock) ∧ seen.back? = some stamp ∧ h[m]? = some (.map es clock) ∧ es.find? (·.born == stamp) = some e ∧ r = (e.key, e.val)
def exB (v : Value) (i : Nat) : M Bool := .get fun _ b => ∃ vs, v = .tuple vs ∧ vs[i]? = some (.bool b)
def exI (k : IntKind) (v : Value) : M Int := .get fun _ n => v = .int k n
def keyB (d : TypeDesc) : Bool := match d with
  | .int _ => true
  | .string => true
  | .bool => true
  | _ => false

section maps
variable {P : Program} {n : Frm} {a : Act} {w : World} {l : List (Nat × Value)} {dst : Option Tmp} {ty : TypeId} {pos : String} {aft : Array Edge} {g : Option (Nat × Bool)}
theorem checkKey_ok {kt : Nat} {d : TypeDesc} {b : Bool} {m : Nat} {v : Value} (hd : P.underlying kt = some d) (hk : keyB d = true) : (Instr.checkKey b (m + 1) kt v).run P w = .ok () w := by
  unfold Instr.checkKey
  cases d <;> first | (simp [keyB] at hk; done) | simp [run_underlying hd]
theorem findKey_ok {kt : Nat} {d : TypeDesc} {v : Value} {es : List MapEntry} {res : Option (Nat × Value)} (hd : P.underlying kt = some d) (h : Instr.findNow d v es 0 = some res) : (Instr.findKey kt v es).run P w = .ok res w := by
  simp [Instr.findKey, run_underlying hd, h]
theorem getObj_map {r : Nat} {es : Array MapEntry} {c : Nat} (h : w.heap[r]? = some (.map es c)) : (getObj r).run P w = .ok (.map es c) w := by
  simp only [getObj, Sem.run, h]
theorem r_lookup2 {τ : Type} {dec : τ → Value} {t kt e : Nat} {x y : Operand} {d : TypeDesc} {key : Value} {z : Value} {m : Option Nat} {r : τ × Bool} (hE : Env n a l) (hx : opv l x = some (.map m)) (hy : opv l y = some key) (ht : P.underlying t = some (.map kt e)) (hd : P.underlying kt = some d) (hk : keyB d = true) (hz : (P.info? e).bind (·.zero) = some z)
    (hc : ∃ es res, mget w.heap m = some es ∧ Instr.findNow d key es.toList 0 = some res ∧ dec r.1 = (match res with | some p => p.2 | none => z) ∧ r.2 = res.isSome) :
    (execOp a.eval ⟨dst, .lookup t x y true, ty, pos, aft, g⟩).run P w = .ok (.value (.tuple #[dec r.1, .bool r.2])) w := by
  obtain ⟨es, res, h1, h2, h3, h4⟩ := hc
  have hzv : (zeroValue e).run P w = .ok z w := by
    cases hi : P.info? e with
    | none => rw [hi] at hz; cases hz
    | some i => rw [hi] at hz; simp at hz; simp [zeroValue, typeInfo, hi, hz]
  rw [h3, h4]
  cases m with
  | none =>
    simp [mget] at h1
    subst h1
    simp only [Instr.findNow, Option.some.injEq] at h2
    subst h2
    simp [execOp, hE.opv hx, hE.opv hy, Instr.lookup, run_underlying ht, checkKey_ok hd hk, findKey_ok hd (rfl : Instr.findNow d key [] 0 = some none), hzv]
  | some b =>
    simp only [mget] at h1
    split at h1
    · rename_i es' c hb
      simp only [Option.some.injEq] at h1
      subst h1
      cases res with
      | none => simp [execOp, hE.opv hx, hE.opv hy, Instr.lookup, run_underlying ht, getObj_map hb, checkKey_ok hd hk, findKey_ok hd h2, hzv]
      | some p => simp [execOp, hE.opv hx, hE.opv hy, Instr.lookup, run_underlying ht, getObj_map hb, checkKey_ok hd hk, findKey_ok hd h2]
    · cases h1
theorem r_lookup1 {τ : Type} {dec : τ → Value} {t kt e : Nat} {x y : Operand} {d : TypeDesc} {key : Value} {z : Value} {m : Option Nat} {r : τ × Bool} (hE : Env n a l) (hx : opv l x = some (.map m)) (hy : opv l y = some key) (ht : P.underlying t = some (.map kt e)) (hd : P.underlying kt = some d) (hk : keyB d = true) (hz : (P.info? e).bind (·.zero) = some z)
    (hc : ∃ es res, mget w.heap m = some es ∧ Instr.findNow d key es.toList 0 = some res ∧ dec r.1 = (match res with | some p => p.2 | none => z) ∧ r.2 = res.isSome) :
    (execOp a.eval ⟨dst, .lookup t x y false, ty, pos, aft, g⟩).run P w = .ok (.value (dec r.1)) w := by
  obtain ⟨es, res, h1, h2, h3, h4⟩ := hc
  have hzv : (zeroValue e).run P w = .ok z w := by
    cases hi : P.info? e with
    | none => rw [hi] at hz; cases hz
    | some i => rw [hi] at hz; simp at hz; simp [zeroValue, typeInfo, hi, hz]
  rw [h3]
  cases m with
  | none =>
    simp [mget] at h1
    subst h1
    simp only [Instr.findNow, Option.some.injEq] at h2
    subst h2
    simp [execOp, hE.opv hx, hE.opv hy, Instr.lookup, run_underlying ht, checkKey_ok hd hk, findKey_ok hd (rfl : Instr.findNow d key [] 0 = some none), hzv]
  | some b =>
    simp only [mget] at h1
    split at h1
    · rename_i es' c hb
      simp only [Option.some.injEq] at h1
      subst h1
      cases res with
      | none => simp [execOp, hE.opv hx, hE.opv hy, Instr.lookup, run_underlying ht, getObj_map hb, checkKey_ok hd hk, findKey_ok hd h2, hzv]
      | some p => simp [execOp, hE.opv hx, hE.opv hy, Instr.lookup, run_underlying ht, getObj_map hb, checkKey_ok hd hk, findKey_ok hd h2]
    · cases h1
theorem findNow_key {d : TypeDesc} {key : Value} (hk : keyB d = true) : ∀ (es : List MapEntry) (s i : Nat) (v : Value), Instr.findNow d key es s = some (some (i, v)) → s ≤ i ∧ ∃ e, es[i - s]? = some e ∧ Instr.sameNow d key e.key = some true
  | [], s, i, v, h => by simp [Instr.findNow] at h
  | e :: es, s, i, v, h => by
    simp only [Instr.findNow] at h
    cases hs : Instr.sameNow d key e.key with
    | none => rw [hs] at h; cases h
    | some b =>
      rw [hs] at h
      cases b with
      | true =>
        simp only [Option.some.injEq, Prod.mk.injEq] at h
        obtain ⟨rfl, rfl⟩ := h
        exact ⟨Nat.le_refl _, e, by simp, hs⟩
      | false =>
        obtain ⟨h1, e', h2, h3⟩ := findNow_key hk es (s + 1) i v h
        refine ⟨by omega, e', ?_, h3⟩
        rw [show i - s = (i - (s + 1)) + 1 by omega]
        simpa using h2
theorem sameNow_bits {d : TypeDesc} {k k' : Value} (h : Instr.sameNow d k k' = some true) (n : Nat) : Instr.sameBits n k' k = true := by
  unfold Instr.sameNow at h
  split at h
  · rename_i a b c e
    split at h
    · rename_i hc
      simp only [Option.some.injEq, beq_iff_eq] at h
      subst h hc
      cases n <;> simp [Instr.sameBits]
    · cases h
  · simp only [Option.some.injEq] at h
    have h' : ∀ a b : ByteArray, (a == b) = true → (b == a) = true := fun a b hab => by
      rw [Go.beq_toListBytes] at hab ⊢
      rw [beq_iff_eq] at hab ⊢
      exact hab.symm
    cases n <;> simp [Instr.sameBits, h' _ _ h]
  · simp only [Option.some.injEq, beq_iff_eq] at h; subst h; cases n <;> simp [Instr.sameBits]
  · cases h
theorem r_update {t kt e : Nat} {x y z : Operand} {d : TypeDesc} {key v : Value} {m : Option Nat} (hE : Env n a l) (hx : opv l x = some (.map m)) (hy : opv l y = some key) (hz : opv l z = some v) (ht : P.underlying t = some (.map kt e)) (hd : P.underlying kt = some d) (hk : keyB d = true)
    (hc : ∃ r es clock res, m = some r ∧ w.heap[r]? = some (.map es clock) ∧ Instr.findNow d key es.toList 0 = some res) :
    (execOp a.eval ⟨dst, .mapUpdate t x y z, ty, pos, aft, g⟩).run P w = .ok .skip { w with heap := hup d key v m w.heap } := by
  obtain ⟨r, es, clock, res, rfl, h1, h2⟩ := hc
  have hset : ∀ (o : Obj), (setObj r o).run P w = .ok () { w with heap := w.heap.set! r o } := fun o => by
    have hlt : r < w.heap.size := by
      rcases Nat.lt_or_ge r w.heap.size with h | h
      · exact h
      · rw [Array.getElem?_eq_none h] at h1; cases h1
    simp only [setObj, Sem.run, h1, Array.set!]
  simp only [hup, h1, h2]
  cases res with
  | none => simp [execOp, hE.opv hx, hE.opv hy, hE.opv hz, Instr.mapUpdate, run_underlying ht, getObj_map h1, checkKey_ok hd hk, findKey_ok hd h2, hset]
  | some p =>
    obtain ⟨i, u⟩ := p
    obtain ⟨_, e', he, hs⟩ := findNow_key hk es.toList 0 i u h2
    have he' : es[i]? = some e' := by simpa using he
    simp [execOp, hE.opv hx, hE.opv hy, hE.opv hz, Instr.mapUpdate, run_underlying ht, getObj_map h1, checkKey_ok hd hk, findKey_ok hd h2, he', Instr.keyThatStays, sameNow_bits hs, hset]
end maps
end Gx
namespace Gx
open Go

/-! ### Structs built; slices built; fields -/
def placeOne (P : Program) (f : Field) : Option (Nat × Nat) := match P.info? f.type with
  | some i => some (f.offset, i.size)
  | none => none
def placesL (P : Program) : List Field → Option (List (Nat × Nat))
  | [] => some []
  | f :: r => match placeOne P f, placesL P r with
    | some p, some ps => some (p :: ps)
    | _, _ => none
/-- the fields' places of a struct type -/
def placesOf (P : Program) (t : TypeId) : Option (List (Nat × Nat)) := match P.underlying t with
  | some (.struct fs) => placesL P fs.toList
  | _ => none
section
variable {P : Program} {w : World}
theorem placesL_run : ∀ {fs : List Field} {ps : List (Nat × Nat)}, placesL P fs = some ps → (fs.mapM (m := Sem) fun f => do pure (f.offset, ← Go.sizeOf f.type)).run P w = .ok ps w
  | [], ps, h => by simp [placesL] at h; subst h; rfl
  | f :: r, ps, h => by
    simp only [placesL] at h
    cases h1 : placeOne P f with
    | none => rw [h1] at h; simp at h
    | some p =>
      cases h2 : placesL P r with
      | none => rw [h1, h2] at h; simp at h
      | some qs =>
        rw [h1, h2] at h
        simp only [Option.some.injEq] at h
        subst h
        unfold placeOne at h1
        cases hi : P.info? f.type with
        | none => rw [hi] at h1; cases h1
        | some i =>
          rw [hi] at h1
          simp only [Option.some.injEq] at h1
          subst h1
          have hh : ((do pure (f.offset, ← Go.sizeOf f.type)) : Sem (Nat × Nat)).run P w = .ok (f.offset, i.size) w := by simp [Go.sizeOf, typeInfo, hi]
          rw [List.mapM_cons]
          simp only [Sem.run_bind] at hh ⊢
          rw [hh]
          have := placesL_run h2
          simp only [Result.andThen_ok, this, Sem.run_pure]
theorem build_run {t : Nat} {z : Value} {ps : List (Nat × Nat)} {parts : Array (Nat × Value)} {cells : Array Value} (hz : (P.info? t).bind (·.zero) = some z) (hp : placesOf P t = some ps) (hf : Instr.fill (ps[·]?) z.cells parts.toList = some cells) :
    (Instr.build t parts).run P w = .ok (.agg cells) w := by
  have hzv : (zeroValue t).run P w = .ok z w := by
    cases hi : P.info? t with
    | none => rw [hi] at hz; cases hz
    | some i => rw [hi] at hz; simp at hz; simp [zeroValue, typeInfo, hi, hz]
  unfold placesOf at hp
  cases hu : P.underlying t with
  | none => rw [hu] at hp; cases hp
  | some d =>
    rw [hu] at hp
    cases d with
    | struct fs =>
      simp only at hp
      have h1 := placesL_run (w := w) hp
      have h2 : (fs.mapM (m := Sem) fun f => do pure (f.offset, ← Go.sizeOf f.type)).run P w = .ok ps.toArray w := by
        have e : fs = fs.toList.toArray := by simp
        rw [e, List.mapM_toArray]
        simp only [Sem.run_map, h1, Result.andThen_ok]
      unfold Instr.build
      simp only [Sem.run_bind, hzv, Result.andThen_ok, run_underlying hu, h2]
      have h3 : (fun x : Nat => ps.toArray[x]?) = (fun x : Nat => ps[x]?) := by funext x; simp
      rw [h3, hf]
      rfl
    | _ => cases hp
end
/-- a struct is put together; a part may be a struct -/
def fillG (ps : List (Nat × Nat)) (z : Array Value) (parts : List (Nat × Value)) : M (Array Value) := .get fun _ cs => Instr.fill (ps[·]?) z parts = some cs
def bdL (e len : Nat) (cells : Array Value) : M Sl := ⟨fun h Q => ∃ r : Sl, r = ⟨some ⟨h.size, 0, none⟩, len, len⟩ ∧ Q r (h.push (.cells cells e)), fun hq ⟨r, hp, h⟩ => ⟨r, hp, hq _ _ h⟩⟩
def fillL (size len : Nat) (z : Array Value) (parts : List (Nat × Value)) : M (Array Value) := .get fun _ cs => Instr.fill (fun i => some (i * size, size)) (zRow z (len * size)) parts = some cs
def fdI (k : IntKind) (cs : Array Value) (i : Nat) : M Int := .get fun _ n => cs[i]? = some (.int k n)
def fdB (cs : Array Value) (i : Nat) : M Bool := .get fun _ n => cs[i]? = some (.bool n)
def fdS (cs : Array Value) (i : Nat) : M ByteArray := .get fun _ n => cs[i]? = some (.string n)
def fdP (cs : Array Value) (i : Nat) : M (Option Addr) := .get fun _ n => cs[i]? = some (.pointer n)
def fdL (cs : Array Value) (i : Nat) : M Sl := .get fun _ n => cs[i]? = some n.v
def fdMp (cs : Array Value) (i : Nat) : M (Option Nat) := .get fun _ n => cs[i]? = some (.map n)
def fdV (cs : Array Value) (i : Nat) : M Value := .get fun _ n => cs[i]? = some n
/-- what of a field's type is asked -/
def fdoB (P : Program) (s f : Nat) : Option (Nat × Nat) := match P.underlying s with
  | some (.struct fs) => match fs[f]? with
    | some fd => some (fd.offset, fd.type)
    | none => none
  | _ => none
/-- string(b) -/
def b2s (s : Sl) : M ByteArray := .get fun h r => ∃ ns : List UInt8, ns.length = s.len ∧ Reads h s.base (ns.map fun b => Value.int .u8 (b.toNat : Int)) ∧ r = ⟨ns.toArray⟩
/-- []byte(s): the block behind it bears a mark -/
def s2b (e : Nat) (s : ByteArray) : M Sl :=
  ⟨fun h Q => ∀ cap, s.size ≤ cap → ∀ mk : Nat × Nat, mk = (cap, cap + 1) → Q ⟨some ⟨h.size, 0, none⟩, s.size, cap⟩ (h.push (.cells ((sbytes s).toArray ++ Array.replicate (cap - s.size) (.int .u8 0)) e mk)),
   fun hq H cap hc mk hm => hq _ _ (H cap hc mk hm)⟩

section ops
variable {P : Program} {n : Frm} {a : Act} {w : World} {l : List (Nat × Value)} {dst : Option Tmp} {ty : TypeId} {pos : String} {aft : Array Edge} {g : Option (Nat × Bool)}
def opps (l : List (Nat × Value)) : List (Nat × Operand) → Option (List (Nat × Value))
  | [] => some []
  | (i, x) :: r => match opv l x, opps l r with
    | some v, some vs => some ((i, v) :: vs)
    | _, _ => none
theorem Env.opps (hE : Env n a l) : ∀ {xs : List (Nat × Operand)} {vs : List (Nat × Value)}, opps l xs = some vs → xs.map (fun (i, x) => (i, a.eval x)) = vs
  | [], vs, h => by simp [Gx.opps] at h; subst h; rfl
  | (i, x) :: r, vs, h => by
    simp only [Gx.opps] at h
    cases h1 : Gx.opv l x with
    | none => rw [h1] at h; simp at h
    | some v =>
      cases h2 : Gx.opps l r with
      | none => rw [h1, h2] at h; simp at h
      | some vs' =>
        rw [h1, h2] at h
        simp only [Option.some.injEq] at h
        subst h
        simp [hE.opv h1, Env.opps hE h2]
theorem parts_eq {parts : Array (Nat × Operand)} {vs : List (Nat × Value)} (hE : Env n a l) (ho : Gx.opps l parts.toList = some vs) : (parts.map fun (i, x) => (i, a.eval x)).toList = vs := by
  rw [Array.toList_map]
  exact hE.opps ho
theorem r_build {t : Nat} {z : Value} {ps : List (Nat × Nat)} {parts : Array (Nat × Operand)} {vs : List (Nat × Value)} {cells : Array Value} (hE : Env n a l) (ho : Gx.opps l parts.toList = some vs) (hz : (P.info? t).bind (·.zero) = some z) (hp : placesOf P t = some ps) (hf : Instr.fill (ps[·]?) z.cells vs = some cells) :
    (execOp a.eval ⟨dst, .build t parts, ty, pos, aft, g⟩).run P w = .ok (.value (.agg cells)) w := by
  have := build_run (P := P) (w := w) (parts := parts.map fun (i, x) => (i, a.eval x)) hz hp (by rw [parts_eq hE ho]; exact hf)
  simp [execOp, this]
theorem r_build0 {t : Nat} {v : Value} (h : ∀ w, (Instr.build t #[]).run P w = .ok v w) : (execOp a.eval ⟨dst, .build t #[], ty, pos, aft, g⟩).run P w = .ok (.value v) w := by
  simp [execOp, h]
theorem r_buildL {t e sz len : Nat} {z : Value} {parts : Array (Nat × Operand)} {vs : List (Nat × Value)} {cells : Array Value} {s : Sl} (hE : Env n a l) (ho : Gx.opps l parts.toList = some vs) (ht : P.underlying t = some (.slice e)) (hs : szB P e sz = true) (hz : (P.info? e).bind (·.zero) = some z) (hlim : Nat.ble (len * sz) 16777216 = true)
    (hf : Instr.fill (fun i => some (i * sz, sz)) (zRow z.cells (len * sz)) vs = some cells) (hq : s = ⟨some ⟨w.heap.size, 0, none⟩, len, len⟩) :
    (execOp a.eval ⟨dst, .buildSlice t len parts, ty, pos, aft, g⟩).run P w = .ok (.value s.v) { w with heap := w.heap.push (.cells cells e) } := by
  subst hq
  have hzv : ∀ w, (zeroValue e).run P w = .ok z w := fun w => by
    cases hi : P.info? e with
    | none => rw [hi] at hz; cases hz
    | some i => rw [hi] at hz; simp at hz; simp [zeroValue, typeInfo, hi, hz]
  have h1 : ¬ (16777216 < len * sz) := by have := Nat.le_of_ble_eq_true hlim; omega
  have h2 : List.map (fun x : Nat × Operand => (x.1, a.eval x.2)) parts.toList = vs := hE.opps ho
  by_cases h0 : len * sz = 0
  · rw [h0] at hf
    have e0 : (Array.range 0) = #[] := Array.eq_empty_of_size_eq_zero (by simp)
    simp [zRow_eq, e0] at hf
    simp [execOp, Instr.buildSlice, run_underlying ht, szB_spec hs, h0, h2, hf, newRow, Sl.v, e0]
  · simp only [zRow_eq] at hf
    simp [execOp, Instr.buildSlice, run_underlying ht, szB_spec hs, h0, h1, hzv, h2, hf, newRow, Sl.v]
theorem r_field {s f off ft : Nat} {x : Operand} {cs : Array Value} {v : Value} (hE : Env n a l) (hx : opv l x = some (.agg cs)) (hf : fdoB P s f = some (off, ft)) (ht : scB P ft = true) (hv : cs[off]? = some v) :
    (execOp a.eval ⟨dst, .field s x f, ty, pos, aft, g⟩).run P w = .ok (.value v) w := by
  unfold fdoB at hf
  cases hu : P.underlying s with
  | none => rw [hu] at hf; cases hf
  | some d =>
    rw [hu] at hf
    cases d with
    | struct fs =>
      simp only at hf
      cases hfd : fs[f]? with
      | none => rw [hfd] at hf; cases hf
      | some fd =>
        rw [hfd] at hf
        simp only [Option.some.injEq, Prod.mk.injEq] at hf
        obtain ⟨rfl, rfl⟩ := hf
        simp [execOp, hE.opv hx, Instr.field, run_underlying hu, hfd, asAgg, part, scB_spec ht, hv]
    | _ => cases hf
theorem r_fieldG {s f off ft m : Nat} {x : Operand} {cs : Array Value} (hE : Env n a l) (hx : opv l x = some (.agg cs)) (hf : fdoB P s f = some (off, ft)) (ht : agB P ft m = true) :
    (execOp a.eval ⟨dst, .field s x f, ty, pos, aft, g⟩).run P w = .ok (.value (.agg (cs.extract off (off + m)))) w := by
  unfold fdoB at hf
  cases hu : P.underlying s with
  | none => rw [hu] at hf; cases hf
  | some d =>
    rw [hu] at hf
    cases d with
    | struct fs =>
      simp only at hf
      cases hfd : fs[f]? with
      | none => rw [hfd] at hf; cases hf
      | some fd =>
        rw [hfd] at hf
        simp only [Option.some.injEq, Prod.mk.injEq] at hf
        obtain ⟨rfl, rfl⟩ := hf
        simp [execOp, hE.opv hx, Instr.field, run_underlying hu, hfd, asAgg, part, agB_spec ht]
    | _ => cases hf
theorem r_indexG {t e q : Nat} {x y : Operand} {cs : Array Value} {k : IntKind} {i : Int} {v : Value} (hE : Env n a l) (hx : opv l x = some (.agg cs)) (hy : opv l y = some (.int k i)) (ht : P.underlying t = some (.array q e)) (hs : szB P e 1 = true) (he : scB P e = true) (hc : 0 ≤ i ∧ i < q ∧ cs[i.toNat]? = some v) :
    (execOp a.eval ⟨dst, .index t x y, ty, pos, aft, g⟩).run P w = .ok (.value v) w := by
  obtain ⟨h0, h1, h2⟩ := hc
  simp [execOp, hE.opv hx, hE.opv hy, Instr.index, asIntOf, run_underlying ht, h0, h1, szB_spec hs, part, scB_spec he, h2]
theorem r_lenM {t kt e ti : Nat} {x : Operand} {m : Option Nat} {r : Int} (hE : Env n a l) (hx : opv l x = some (.map m)) (ht : P.underlying t = some (.map kt e)) (hc : ∃ es, mget w.heap m = some es ∧ r = (es.size : Int)) :
    (execOp a.eval ⟨dst, .call { callee := .builtin .len, args := #[x], argTypes := #[t] }, ti, pos, aft, g⟩).run P w = .ok (.value (.int .i64 r)) w := by
  obtain ⟨es, h1, rfl⟩ := hc
  cases m with
  | none => simp [mget] at h1; subst h1; simp [execOp, resolve, invoke, builtin, Builtin.len_, hE.opv hx, run_underlying ht, goInt]
  | some b =>
    simp only [mget] at h1
    split at h1
    · rename_i es' c hb
      simp only [Option.some.injEq] at h1
      subst h1
      simp [execOp, resolve, invoke, builtin, Builtin.len_, hE.opv hx, run_underlying ht, goInt, getObj_map hb]
    · cases h1
theorem setObj_ok {r : Nat} {o o' : Obj} (h : w.heap[r]? = some o') (hn : ∀ c t f, o' ≠ .cells c t f) : (setObj r o).run P w = .ok () { w with heap := w.heap.set! r o } := by
  simp only [setObj, Sem.run, h, Array.set!]
theorem r_clearM {t kt e ti : Nat} {x : Operand} {m : Option Nat} (hE : Env n a l) (hx : opv l x = some (.map m)) (ht : P.underlying t = some (.map kt e)) (hc : m = none ∨ ∃ r es clock, m = some r ∧ w.heap[r]? = some (.map es clock)) :
    (execOp a.eval ⟨dst, .call { callee := .builtin .clear, args := #[x], argTypes := #[t] }, ti, pos, aft, g⟩).run P w = .ok (.value (.tuple #[])) { w with heap := hcl m w.heap } := by
  rcases hc with rfl | ⟨r, es, clock, rfl, h⟩
  · simp [execOp, resolve, invoke, builtin, Builtin.clear_, hE.opv hx, run_underlying ht, hcl]
  · have hs := setObj_ok (P := P) (w := w) (r := r) (o := .map #[] clock) h (fun c t f hh => by cases hh)
    simp only [hcl, h]
    simp [execOp, resolve, invoke, builtin, Builtin.clear_, hE.opv hx, run_underlying ht, getObj_map h, hs]
theorem r_range {t kt e : Nat} {x : Operand} {m : Option Nat} {p : Addr} (hE : Env n a l) (hx : opv l x = some (.map m)) (ht : P.underlying t = some (.map kt e)) (hc : p = ⟨w.heap.size, 0, none⟩ ∧ (m = none ∨ ∃ r es clock, m = some r ∧ w.heap[r]? = some (.map es clock))) :
    (execOp a.eval ⟨dst, .range t x, ty, pos, aft, g⟩).run P w = .ok (.value (.pointer (some p))) { w with heap := w.heap.push (hit m w.heap) } := by
  obtain ⟨rfl, hc⟩ := hc
  rcases hc with rfl | ⟨r, es, clock, rfl, h⟩
  · simp [execOp, hE.opv hx, Instr.range, run_underlying ht, hit]
  · simp only [hit, h]
    simp [execOp, hE.opv hx, Instr.range, run_underlying ht, getObj_map h]
theorem r_entry {x : Operand} {p : Addr} {r : Value × Value} (hE : Env n a l) (hx : opv l x = some (.pointer (some p)))
    (hc : p.off = 0 ∧ ∃ m since seen clock es stamp e, w.heap[p.block]? = some (.mapIter (some m) since seen clock) ∧ seen.back? = some stamp ∧ w.heap[m]? = some (.map es clock) ∧ es.find? (·.born == stamp) = some e ∧ r = (e.key, e.val)) :
    (execOp a.eval ⟨dst, .entry x, ty, pos, aft, g⟩).run P w = .ok (.value (.tuple #[r.1, r.2])) w := by
  obtain ⟨h0, m, since, seen, clock, es, stamp, e, h1, h2, h3, h4, rfl⟩ := hc
  obtain ⟨b, o, sp⟩ := p
  simp only at h0 h1
  subst h0
  have hg : (getObj b).run P w = .ok (.mapIter (some m) since seen clock) w := by simp only [getObj, Sem.run, h1]
  simp [execOp, hE.opv hx, Instr.entry, hg, h2, getObj_map h3, h4]
theorem nx_run {x : Operand} {p : Addr} {Q : Value → Heap → Prop} (hE : Env n a l) (hx : opv l x = some (.pointer (some p))) (H : (nxM p).wp w.heap Q) :
    ∃ r w1, (execOp a.eval ⟨dst, .next x false, ty, pos, aft, g⟩).run P w = .ok (.value r) w1 ∧ Rest w w1 ∧ Q r w1.heap := by
  obtain ⟨h0, H⟩ := H
  obtain ⟨b, o, sp⟩ := p
  simp only at h0 H
  subst h0
  rcases H with ⟨u, v, z, h1, h2⟩ | ⟨m, since, seen, last, es, clock, h1, h2, h3, h4, h5, h6⟩
  · have hg : (getObj b).run P w = .ok (.mapIter none u v z) w := by simp only [getObj, Sem.run, h1]
    exact ⟨_, w, by simp [execOp, hE.opv hx, Instr.next, hg], ⟨rfl, rfl, rfl, Nat.le_refl _⟩, h2⟩
  · have hg : (getObj b).run P w = .ok (.mapIter (some m) since seen last) w := by simp only [getObj, Sem.run, h1]
    have hlt : b < w.heap.size := by
      rcases Nat.lt_or_ge b w.heap.size with h | h
      · exact h
      · rw [Array.getElem?_eq_none h] at h1; cases h1
    let left := es.filter fun e => !seen.contains e.born
    let old := left.filter (·.born < since)
    let new := left.filter (·.born ≥ since)
    let cand := (if old.isEmpty then #[none] else #[]) ++ (old ++ new).map some
    have hpos : 0 < cand.size := by
      by_cases ho : old.isEmpty = true
      · simp [cand, ho]; omega
      · have : 0 < old.size := by
          rcases Nat.eq_zero_or_pos old.size with h | h
          · exact absurd (by simpa using Array.eq_empty_of_size_eq_zero h) ho
          · exact h
        simp [cand, ho]; omega
    have hch : ∃ i w', (choose (.mapNext cand.size)).run P w = .ok i w' ∧ i < cand.size ∧ Rest w w' ∧ w'.heap = w.heap := by
      by_cases hf : (Question.mapNext cand.size).forced = true
      · exact ⟨0, w, by simp [hf], hpos, ⟨rfl, rfl, rfl, Nat.le_refl _⟩, rfl⟩
      · refine ⟨_, { w with drawn := w.drawn + 1 }, by rw [run_choose, if_neg hf], ?_, ⟨rfl, rfl, rfl, Nat.le_succ _⟩, rfl⟩
        simp only [Question.cut]
        exact Nat.mod_lt _ hpos
    obtain ⟨i, w', hci, hi, hr', hh'⟩ := hch
    have hrun : (execOp a.eval ⟨dst, .next x false, ty, pos, aft, g⟩).run P w = (((match cand[i]? with
      | some (some e) => do setObj b (.mapIter (some m) since (seen.push e.born) clock); pure (.tuple #[.bool true, e.key, e.val])
      | some none => pure (.tuple #[.bool false])
      | none => stuck "Next: no such candidate") : Sem Value).run P w').andThen fun v w'' => .ok (.value v) w'' := by
      have h3' : ¬ ((!seen.isEmpty && !es.isEmpty && es.all (·.born ≥ last)) = true) := by rw [h3]; simp
      simp only [execOp, hE.opv hx, Instr.next, Sem.run_bind, hg, Result.andThen_ok, getObj_map h2]
      rw [if_neg h3']
      simp only [Sem.run_bind, Sem.run_pure, Result.andThen_ok]
      show (((choose (.mapNext cand.size)).run P w).andThen _).andThen _ = _
      rw [hci]
      rfl
    rw [hrun]
    have hget : cand[i]? = some cand[i] := Array.getElem?_eq_getElem hi
    have hmem : cand[i] ∈ cand := Array.getElem_mem hi
    rw [hget]
    cases hc : cand[i] with
    | none =>
      refine ⟨_, w', rfl, hr', ?_⟩
      rw [hh']
      refine h6 fun e he hs => ?_
      rw [hc] at hmem
      simp only [cand, Array.mem_append, Array.mem_map] at hmem
      rcases hmem with hmem | ⟨e', _, he'⟩
      · by_cases ho : old.isEmpty = true
        · have hn : e ∉ old := by
            have : old = #[] := by simpa using ho
            rw [this]; simp
          simp only [old, left, Array.mem_filter] at hn
          simp at hn
          exact hn he (by simpa using hs)
        · simp [ho] at hmem
      · cases he'
    | some e =>
      rw [hc] at hmem
      simp only [cand, Array.mem_append, Array.mem_map] at hmem
      have hme : e ∈ es ∧ seen.contains e.born = false := by
        rcases hmem with hmem | ⟨e', he', hee⟩
        · by_cases ho : old.isEmpty = true
          · simp [ho] at hmem
          · simp [ho] at hmem
        · simp only [Option.some.injEq] at hee
          subst hee
          rcases he' with he' | he'
          · simp only [old, left, Array.mem_filter] at he'
            exact ⟨he'.1.1, by simpa using he'.1.2⟩
          · simp only [new, left, Array.mem_filter] at he'
            exact ⟨he'.1.1, by simpa using he'.1.2⟩
      have hset := setObj_ok (P := P) (w := w') (r := b) (o := .mapIter (some m) since (seen.push e.born) clock) (by rw [hh']; exact h1) (fun c t f hh => by cases hh)
      refine ⟨.tuple #[.bool true, e.key, e.val], { w' with heap := w'.heap.set! b (.mapIter (some m) since (seen.push e.born) clock) }, ?_, ⟨hr'.os, hr'.output, hr'.tape, hr'.drawn⟩, ?_⟩
      · simp only [Sem.run_bind, hset, Result.andThen_ok, Sem.run_pure]
      · show Q _ (w'.heap.set! _ _)
        rw [hh']
        exact h5 e hme.1 hme.2
theorem b2s_run {s d e : Nat} {x : Operand} {u : Sl} {r : ByteArray} (hE : Env n a l) (hx : opv l x = some u.v) (hs : P.underlying s = some (.slice e)) (hd : P.underlying d = some .string) (he : P.underlying e = some (.int .u8))
    (hc : ∃ ns : List UInt8, ns.length = u.len ∧ Reads w.heap u.base (ns.map fun b => Value.int .u8 (b.toNat : Int)) ∧ r = ⟨ns.toArray⟩) :
    (execOp a.eval ⟨dst, .convert s d x, ty, pos, aft, g⟩).run P w = .ok (.value (.string r)) w := by
  obtain ⟨ns, h1, h2, rfl⟩ := hc
  have key : (Conv.bytesToString u.v).run P w = .ok (.string ⟨ns.toArray⟩) w := by
    unfold Sl.v
    cases hb : u.base with
    | none =>
      rw [hb] at h2
      rcases h2 with h2 | ⟨b, hb', _⟩
      · have : ns = [] := by simpa using h2
        subst this
        simp [Conv.bytesToString]; rfl
      · cases hb'
    | some b =>
      have hl : (loadCells b u.len).run P w = .ok ((ns.map fun b => (b.toNat : Int)).map (Value.int .u8)).toArray w := by
        rw [← h1]
        have e : (ns.map fun b => (b.toNat : Int)).map (Value.int .u8) = ns.map fun b => Value.int .u8 (b.toNat : Int) := by rw [List.map_map]; rfl
        rw [e]
        have := run_loadCells_list (P := P) (w := w) b (ns.map fun b => Value.int .u8 (b.toNat : Int)) (fun j v hj => by
          rcases h2 with h2 | ⟨b', hb', hc⟩
          · rw [h2] at hj; simp at hj
          · rw [hb] at hb'; cases hb'; exact hc j v hj)
        simpa using this
      rw [run_bytesToString w b u.len u.cap _ hl]
      congr 2
      have : ∀ (l : List UInt8) (acc : ByteArray), (l.map fun b => (b.toNat : Int)).foldl (fun r n => r.push (UInt8.ofNat n.toNat)) acc = ⟨acc.data ++ l.toArray⟩ := by
        intro l
        induction l with
        | nil => intro acc; simp
        | cons b r ih =>
          intro acc
          simp only [List.map_cons, List.foldl_cons, ih]
          congr 1
          simp [ByteArray.push]
      rw [this]
      simp
  simp [execOp, hE.opv hx, convert, run_underlying hs, run_underlying hd, Sl.v] at key ⊢
  simp [run_underlying he, key]
end ops
end Gx
namespace Gx
open Go
section ops
variable {P : Program} {n : Frm} {a : Act} {w : World} {l : List (Nat × Value)} {dst : Option Tmp} {ty : TypeId} {pos : String} {aft : Array Edge} {g : Option (Nat × Bool)}
theorem ap_info {e sz bytes : Nat} {z : Array Value} (h : ((P.info? e).bind fun i => i.zero.map fun v => (i.size, i.bytes, v.cells)) = some (sz, bytes, z)) : ∃ i, P.info? e = some i ∧ i.size = sz ∧ i.bytes = bytes ∧ ∃ v, i.zero = some v ∧ v.cells = z := by
  cases hi : P.info? e with
  | none => rw [hi] at h; cases h
  | some i =>
    rw [hi] at h
    simp only [Option.bind_some] at h
    cases hz : i.zero with
    | none => rw [hz] at h; cases h
    | some v =>
      rw [hz] at h
      simp only [Option.map_some, Option.some.injEq, Prod.mk.injEq] at h
      exact ⟨i, rfl, h.1, h.2.1, v, hz, h.2.2⟩
theorem ex_run {x : Operand} {v : Value} {i : Nat} {b : Bool} (hE : Env n a l) (hx : opv l x = some v) (hc : ∃ vs, v = .tuple vs ∧ vs[i]? = some (.bool b)) : (execOp a.eval ⟨dst, .extract x i, ty, pos, aft, g⟩).run P w = .ok (.value (.bool b)) w := by
  obtain ⟨vs, rfl, h⟩ := hc
  exact r_extract hE hx h
theorem r_convS {s d : Nat} {x : Operand} {u : ByteArray} (hE : Env n a l) (hx : opv l x = some (.string u)) (hs : P.underlying s = some .string) (hd : P.underlying d = some .string) :
    (execOp a.eval ⟨dst, .convert s d x, ty, pos, aft, g⟩).run P w = .ok (.value (.string u)) w := by
  simp [execOp, hE.opv hx, convert, run_underlying hs, run_underlying hd]
theorem r_lenA {t ti q e : Nat} {x : Operand} {v : Value} (hE : Env n a l) (hx : opv l x = some v) (ht : P.underlying t = some (.array q e)) :
    (execOp a.eval ⟨dst, .call { callee := .builtin .len, args := #[x], argTypes := #[t] }, ti, pos, aft, g⟩).run P w = .ok (.value (.int .i64 (q : Int))) w := by
  simp [execOp, resolve, invoke, builtin, Builtin.len_, hE.opv hx, run_underlying ht, goInt]
theorem r_max {x y : Operand} {k k' : IntKind} {u v : Int} {ts : Array TypeId} (hE : Env n a l) (hx : opv l x = some (.int k u)) (hy : opv l y = some (.int k' v)) :
    (execOp a.eval ⟨dst, .call { callee := .builtin .max, args := #[x, y], argTypes := ts }, ty, pos, aft, g⟩).run P w = .ok (.value (.int k (iMax u v))) w := by
  simp [execOp, resolve, invoke, builtin, Builtin.max_, Builtin.max2, hE.opv hx, hE.opv hy, iMax, List.foldlM]
theorem s2b_run {s d e : Nat} {x : Operand} {u : ByteArray} {Q : Sl → Heap → Prop} (hE : Env n a l) (hx : opv l x = some (.string u)) (hs : P.underlying s = some .string) (hd : P.underlying d = some (.slice e)) (he : P.underlying e = some (.int .u8)) (H : (s2b e u).wp w.heap Q) :
    ∃ r w1, (execOp a.eval ⟨dst, .convert s d x, ty, pos, aft, g⟩).run P w = .ok (.value (Sl.v r)) w1 ∧ Rest w w1 ∧ Q r w1.heap := by
  let cap := (Question.appendCap u.size 0 e).cut (w.tape w.drawn (.appendCap u.size 0 e))
  have hcap : u.size ≤ cap := by simp only [cap, Question.cut]; omega
  have hH := H cap hcap (cap, cap + 1) rfl
  refine ⟨⟨some ⟨w.heap.size, 0, none⟩, u.size, cap⟩, { w with drawn := w.drawn + 1, heap := w.heap.push (.cells ((sbytes u).toArray ++ Array.replicate (cap - u.size) (.int .u8 0)) e (cap, cap + 1)) }, ?_, ⟨rfl, rfl, rfl, Nat.le_succ _⟩, hH⟩
  have hl : (sbytes u).length = u.size := by simp [sbytes]
  have e1 : u.data.map (fun (b : UInt8) => Value.int .u8 (b.toNat : Int)) = (sbytes u).toArray := by unfold sbytes; rw [← Array.toList_map, Array.toArray_toList]
  have hsz : u.size + (cap - u.size) = cap := by omega
  have hrun : (Conv.stringToBytes e u).run P w = .ok (.slice (some ⟨w.heap.size, 0, none⟩) u.size cap) { w with drawn := w.drawn + 1, heap := w.heap.push (.cells ((sbytes u).toArray ++ Array.replicate (cap - u.size) (.int .u8 0)) e (cap, cap + 1)) } := by
    have hf : (Question.appendCap u.size 0 e).forced = false := rfl
    unfold Conv.stringToBytes
    simp only [Sem.run_bind, run_choose, hf, Bool.false_eq_true, if_false, Result.andThen_ok]
    show (((newRow e (u.data.map (fun (b : UInt8) => Value.int .u8 (b.toNat : Int)) ++ Array.replicate (cap - u.size) (.int .u8 0))).run P { w with drawn := w.drawn + 1 }).andThen _) = _
    rw [e1]
    simp only [newRow, Sem.run_bind, run_newObj, Result.andThen_ok, Sem.run_pure, markStringish, run_shape, World.shape?, Array.getElem?_push_size]
    simp only [Array.size_append, List.size_toArray, hl, Array.size_replicate, hsz, run_freeze, Result.andThen_ok, Sem.run_pure]
    simp only [World.freeze, Nat.add_one_ne_zero, if_false]
    congr 1
    congr 1
    apply Array.ext
    · simp
    · intro i h1 h2
      simp only [Array.getElem_modify]
      split
      · rename_i hi
        subst hi
        simp
      · rename_i hne
        have hlt : i < w.heap.size := by simp at h2; omega
        rw [Array.getElem_push_lt hlt, Array.getElem_push_lt hlt]
  simp [execOp, hE.opv hx, convert, run_underlying hs, run_underlying hd, he, run_underlying he, hrun, Sl.v]
/-- []byte("..") of a constant: the block bears a mark behind its end -/
def hmrk (s : Sl) (h : Heap) : Heap := match s.base with
  | some a => match h[a.block]? with
    | some (.cells c _ _) => h.modify a.block fun
      | .cells c' t (lo, hi) => .cells c' t (if lo = hi then (c.size, c.size + 1) else (min lo c.size, max hi (c.size + 1)))
      | o => o
    | _ => h
  | none => h
def mrk (s : Sl) : M Sl := ⟨fun h Q => ∃ r : Sl, (r = s ∧ ∃ a c t f, s.base = some a ∧ h[a.block]? = some (.cells c t f)) ∧ Q r (hmrk s h), fun hq ⟨r, hp, h⟩ => ⟨r, hp, hq _ _ h⟩⟩
theorem r_mrk {t e : Nat} {x : Operand} {s r : Sl} (hE : Env n a l) (hx : opv l x = some s.v) (ht : P.underlying t = some (.slice e)) (he : P.underlying e = some (.int .u8)) (hc : r = s ∧ ∃ a c t f, s.base = some a ∧ w.heap[a.block]? = some (.cells c t f)) :
    (execOp a.eval ⟨dst, .convert t t x, ty, pos, aft, g⟩).run P w = .ok (.value r.v) { w with heap := hmrk s w.heap } := by
  obtain ⟨rfl, b, c, t', f, hb, hh⟩ := hc
  have hsh : w.shape? b.block = some (t', c.size) := by simp only [World.shape?, hh]
  simp only [hmrk, hb, hh]
  simp [execOp, hE.opv hx, convert, run_underlying ht, run_underlying he, Sl.v, hb, markStringish, hsh, World.freeze]
  rfl

theorem r_nilV {x : Operand} {v r : Value} (hE : Env n a l) (hx : opv l x = some r) (hc : r = v ∧ v ≠ .nilFunc ∧ v ≠ .nilIface ∧ v ≠ .pointer none ∧ ∀ n x y, v ≠ .func (.method n) x y) : (execOp a.eval ⟨dst, .nilCheck x, ty, pos, aft, g⟩).run P w = .ok (.value r) w := by
  obtain ⟨rfl, h1, h2, h3, h4⟩ := hc
  cases r with
  | func fn x y => cases fn <;> first | exact absurd rfl (h4 _ _ _) | simp [execOp, hE.opv hx]
  | pointer p => cases p <;> first | exact absurd rfl h3 | simp [execOp, hE.opv hx]
  | nilFunc => exact absurd rfl h1
  | nilIface => exact absurd rfl h2
  | _ => simp [execOp, hE.opv hx]
theorem r_makeFunc {fn : Fn} {cs : Array Operand} {vs : List Value} (hE : Env n a l) (h : opvs l cs.toList = some vs) : (execOp a.eval ⟨dst, .makeFunc fn #[] cs, ty, pos, aft, g⟩).run P w = .ok (.value (.func fn #[] vs.toArray)) w := by
  have h1 : cs.map a.eval = vs.toArray := by
    have := hE.opvs h
    rw [← this, ← Array.toList_map, Array.toArray_toList]
  simp [execOp, Instr.makeFunc, h1]
/-- what a call of a function value comes to: a function's, or a round of a range over a function -/
def Inv (P : Program) (v : Value) (args : List Value) (w : World) (R : Ending → World → Prop) : Prop :=
  (∃ (f : FuncId) (cap : Array Value), v = .func (.func f) #[] cap ∧ Callee? P f ∧ Calls P f (args.toArray ++ cap) w R) ∨
  (∃ (l : Nat) (r : Loop), v = .func (.yield l) #[] #[] ∧ w.heap[l]? = some (.loop r) ∧ args.length = r.params.size ∧
    RoundIn (Fw none) 1 P l r.fn ((r.params.zip args.toArray).foldl (fun tmps (t, a) => tmps.setIfInBounds t a) r.tmps) r.assign r.body w R)
theorem Inv.mono {P : Program} {v : Value} {args : List Value} {w : World} {R R' : Ending → World → Prop} (h : Inv P v args w R) (hr : ∀ e w', R e w' → R' e w') : Inv P v args w R' := by
  rcases h with ⟨f, cap, h1, h2, h3⟩ | ⟨l, r, h1, h2, h3, h4⟩
  · exact .inl ⟨f, cap, h1, h2, h3.mono hr⟩
  · exact .inr ⟨l, r, h1, h2, h3, h4.mono hr⟩
/-- a call of a function value -/
def callV (P : Program) {ρ : Type} (enc : ρ → Value) (v : Value) (args : List Value) : M ρ :=
  ⟨fun h Q => ∀ w : World, w.heap = h → Inv P v args w (fun e w' => ∃ r, e = .returned (enc r) ∧ Q r w'.heap ∧ Rest w w'),
   fun hq h w hw => (h w hw).mono fun _ _ ⟨r, h1, h2, h3⟩ => ⟨r, h1, hq _ _ h2, h3⟩⟩
theorem callV_f {P : Program} {ρ : Type} {enc : ρ → Value} {f : FuncId} {cap : Array Value} {args : List Value} {F : M ρ} {h : Heap} {Q : ρ → Heap → Prop} (hc : Callee? P f) (hS : Sound P f (args.toArray ++ cap) enc F) (H : F.wp h Q) :
    (callV P enc (.func (.func f) #[] cap) args).wp h Q := fun w hw => .inl ⟨f, cap, rfl, hc, hS w Q (hw ▸ H)⟩
end ops
section steps
variable {ro : Option Nat} {P : Program} {ops : Array Oper} {K : Act → World → Prop} {X : Nat → Act → World → Prop} {R : Act → World → Prop} {n : Frm} {a : Act} {w w0 : World} {l : List (Nat × Value)} {rest : List Oper}
theorem r_callV {dst : Option Tmp} {f : FuncId} {cap : Array Value} {x : Operand} {as : Array Operand} {ts : Array TypeId} {ty : TypeId} {pos : String} {aft : Array Edge} {g : Option (Nat × Bool)} {vs : List Value} (hE : Env n a l) (hx : opv l x = some (.func (.func f) #[] cap)) (hc : Callee? P f) (ha : opvs l as.toList = some vs) :
    (execOp a.eval ⟨dst, .call { callee := .value x, args := as, argTypes := ts }, ty, pos, aft, g⟩).run P w = .ok (.enter f (vs.toArray ++ cap)) w := by
  have h1 : as.map a.eval = vs.toArray := by
    have := hE.opvs ha
    rw [← this, ← Array.toList_map, Array.toArray_toList]
  have h2 := hc (vs.toArray ++ cap) w
  simp [execOp, resolve, Deferred.ofValue, invoke, hE.opv hx, h1, h2]
theorem r_yieldV {dst : Option Tmp} {lp : Nat} {r : Loop} {x : Operand} {as : Array Operand} {ts : Array TypeId} {ty : TypeId} {pos : String} {aft : Array Edge} {g : Option (Nat × Bool)} {vs : List Value} (hE : Env n a l) (hx : opv l x = some (.func (.yield lp) #[] #[])) (hl : w.heap[lp]? = some (.loop r)) (hs : vs.length = r.params.size) (ha : opvs l as.toList = some vs) :
    (execOp a.eval ⟨dst, .call { callee := .value x, args := as, argTypes := ts }, ty, pos, aft, g⟩).run P w = .ok (.round lp r.fn ((r.params.zip vs.toArray).foldl (fun tmps (t, a) => tmps.setIfInBounds t a) r.tmps) r.assign r.body) w := by
  have h1 : as.map a.eval = vs.toArray := by
    have := hE.opvs ha
    rw [← this, ← Array.toList_map, Array.toArray_toList]
  have h2 := run_yield (P := P) (args := vs.toArray) hl (by simpa using hs)
  simp [execOp, resolve, Deferred.ofValue, invoke, hE.opv hx, h1, h2]
theorem t_callV {d : Option Nat} {x : Operand} {as : Array Operand} {ts : Array TypeId} {ty : TypeId} {pos : String} {aft : Array Edge} {v : Value} {vs : List Value} {ρ : Type} {enc : ρ → Value} {Q : ρ → Heap → Prop}
    (hE : Env n a l) (hR : Rest w0 w) (hx : opv l x = some v) (ha : opvs l as.toList = some vs) (H : (callV P enc v vs).wp w.heap Q)
    (h : ∀ r a' w', a' = a.put d (enc r) → Rest w0 w' → Q r w'.heap → wpListIn (Fw ro) 1 P ops (Ps K X R) rest a' w') :
    wpListIn (Fw ro) 1 P ops (Ps K X R) (⟨d, .call { callee := .value x, args := as, argTypes := ts }, ty, pos, aft, none⟩ :: rest) a w := by
  rcases H w rfl with ⟨f, cap, rfl, hc, hC⟩ | ⟨lp, r, rfl, hl, hs, hC⟩
  · refine wpListIn_plain rfl fun K' hK => ⟨fun _ _ => trivial, ?_⟩
    rw [sem_v (r_callV hE hx hc ha) (fun d h => by cases h), Oper.uponIn_enter]
    refine ⟨fun _ => Nat.le_refl 1, calls_fw (hC.mono ?_)⟩
    rintro e w' ⟨r, rfl, hq, hr⟩
    exact hK _ _ (h r _ w' rfl (hR.trans hr) hq)
  · refine wpListIn_plain rfl fun K' hK => ⟨fun _ _ => trivial, ?_⟩
    rw [sem_v (r_yieldV hE hx hl hs ha) (fun d h => by cases h), Oper.uponIn_round]
    have hC' : RoundIn (Fw ro) (1 - 1) P lp r.fn ((r.params.zip vs.toArray).foldl (fun tmps (t, a) => tmps.setIfInBounds t a) r.tmps) r.assign r.body w _ := ⟨trivial, fun c cs _ => hC.2 c cs (room_w _)⟩
    refine ⟨fun _ => Nat.le_refl 1, hC'.mono ?_⟩
    rintro e w' ⟨r, rfl, hq, hr⟩
    exact hK _ _ (h r _ w' rfl (hR.trans hr) hq)
end steps
end Gx
namespace Gx
open Go

/-- s[lo:hi:mx] -/
def slL3 (s : Sl) (lo hi mx : Int) (sz : Nat) : M Sl := .get fun _ r => 0 ≤ lo ∧ lo ≤ hi ∧ hi ≤ mx ∧ mx ≤ s.cap ∧ r = ⟨if mx.toNat = lo.toNat then s.base else s.base.map (·.add (lo.toNat * sz)), hi.toNat - lo.toNat, mx.toNat - lo.toNat⟩
/-- append(s, make([]T, n)...) -/
def apM (e sz bytes : Nat) (z : Array Value) (s : Sl) (n : Int) : M Sl :=
  ⟨fun h Q => 0 ≤ n ∧ n * bytes ≤ 140737488355328 ∧ n ≤ 9223372036854775807 ∧ ∃ news : List Value, news = (zRow z (n.toNat * z.size)).toList ∧ apGo e sz bytes z s n.toNat news h Q,
   fun hq ⟨h1, h2, h3, news, h4, h5⟩ => ⟨h1, h2, h3, news, h4, apGo_mono hq h5⟩⟩
section
variable {P : Program} {n : Frm} {a : Act} {w : World} {l : List (Nat × Value)} {dst : Option Tmp} {ty : TypeId} {pos : String} {aft : Array Edge} {g : Option (Nat × Bool)}
theorem sbs_lhm {b : Bool} {len cap : Nat} {k k' k'' : IntKind} {lo hi mx : Int} (h0 : 0 ≤ lo) (h1 : lo ≤ hi) (h2 : hi ≤ mx) (h3 : mx ≤ cap) : (Instr.sliceBounds b len cap (some (.int k lo)) (some (.int k' hi)) (some (.int k'' mx))).run P w = .ok (lo.toNat, hi.toNat, mx.toNat) w := by
  have e : lo ≤ ((hi.toNat : Nat) : Int) := by omega
  have e2 : hi ≤ ((mx.toNat : Nat) : Int) := by omega
  simp [Instr.sliceBounds, sb_ok rfl (by omega : 0 ≤ mx) h3, sb_ok rfl (by omega : 0 ≤ hi) e2, sb_ok rfl h0 e]
theorem r_sliceL3 {t e m : Nat} {x y z u : Operand} {s : Sl} {k k' k'' : IntKind} {lo hi mx : Int} {r : Sl} (hE : Env n a l) (hx : opv l x = some s.v) (hy : opv l y = some (.int k lo)) (hz : opv l z = some (.int k' hi)) (hu : opv l u = some (.int k'' mx)) (ht : P.underlying t = some (.slice e)) (hm : szB P e m = true)
    (hc : 0 ≤ lo ∧ lo ≤ hi ∧ hi ≤ mx ∧ mx ≤ s.cap ∧ r = ⟨if mx.toNat = lo.toNat then s.base else s.base.map (·.add (lo.toNat * m)), hi.toNat - lo.toNat, mx.toNat - lo.toNat⟩) :
    (execOp a.eval ⟨dst, .slice t x (some y) (some z) (some u), ty, pos, aft, g⟩).run P w = .ok (.value r.v) w := by
  obtain ⟨h0, h1, h2, h3, rfl⟩ := hc
  simp [execOp, hE.opv hx, hE.opv hy, hE.opv hz, hE.opv hu, Instr.sliceAt, Instr.slice, run_underlying ht, sbs_lhm h0 h1 h2 h3, szB_spec hm, Sl.v]
theorem apM_run {t ti e sz bytes : Nat} {z : Array Value} {x y : Operand} {s : Sl} {m : Int} {Q : Sl → Heap → Prop} (hE : Env n a l) (hx : opv l x = some s.v) (hy : opv l y = some (.int .i64 m)) (hP : apB P t e sz bytes z) (hti : P.underlying ti = some (.int .i64)) (hzs : z.size = sz) (H : (apM e sz bytes z s m).wp w.heap Q) :
    ∃ r w1, (execOp a.eval ⟨dst, .call { callee := .builtin .append, args := #[x, y], argTypes := #[t, ti] }, ty, pos, aft, g⟩).run P w = .ok (.value (Sl.v r)) w1 ∧ Rest w w1 ∧ Q r w1.heap := by
  obtain ⟨hm0, hm1, hm2, news, hnews, H⟩ := H
  obtain ⟨ht, i, hi, rfl, rfl, v, hv, rfl⟩ := hP
  have hwr : IntKind.i64.wrap m = m := by simp [IntKind.wrap, IntKind.bits, IntKind.signed]; omega
  have hl0 : ¬ m < 0 := by omega
  have hl1 : ¬ (m * (i.bytes : Int) > 2 ^ 48) := by
    have e : (2 : Int) ^ 48 = 281474976710656 := by decide
    rw [e]; omega
  have hl1' : ¬ ((281474976710656 : Int) < m * (i.bytes : Int)) := by omega
  have hzv : ∀ w' : World, (zeroValue e).run P w' = .ok v w' := fun w' => by simp [zeroValue, typeInfo, hi, hv]
  have hzc : Builtin.zeroCells v.cells m.toNat = news.toArray := by
    subst hnews
    simp only [Builtin.zeroCells, zRow]
    apply Array.ext'; simp
  have hn0 : m.toNat * i.size = 0 → news = [] := fun h0 => by
    subst hnews
    rw [hzs, h0]
    rfl
  suffices hh : ∃ r w1, (Builtin.append_ #[t, ti] ty #[s.v, .int .i64 m]).run P w = .ok (Sl.v r) w1 ∧ Rest w w1 ∧ Q r w1.heap by
    obtain ⟨r, w1, hr, hrest, hq⟩ := hh
    exact ⟨r, w1, by simp [execOp, resolve, invoke, builtin, hE.opv hx, hE.opv hy, hr], hrest, hq⟩
  unfold apGo at H
  split at H
  · rename_i hc
    obtain ⟨h1, h2, h3⟩ := H
    refine ⟨⟨s.base, s.len + m.toNat, s.cap⟩, { w with heap := hputL w.heap s.base (s.len * i.size) news }, ?_, ⟨rfl, rfl, rfl, Nat.le_refl _⟩, h3⟩
    simp only [Builtin.append_, Sl.v]
    cases hb : s.base with
    | none =>
      by_cases h0 : m.toNat * i.size = 0
      · have := hn0 h0
        subst this
        simp [run_underlying ht, run_underlying hti, Go.sizeOf, typeInfo, hi, hc, asInt, hwr, hl0, hl1', hputL, asIntOf, h0]
      · simp [run_underlying ht, run_underlying hti, Go.sizeOf, typeInfo, hi, hc, asInt, hwr, hl0, hl1', hputL, asIntOf, h0, hzv, hzc]
    | some b =>
      have hp : (storeCells (b.add (s.len * i.size)) news).run P w = .ok () { w with heap := hputL w.heap (some b) (s.len * i.size) news } := by
        rw [hb] at h1
        exact run_puts (b := some b) h1 h2
      by_cases h0 : m.toNat * i.size = 0
      · have := hn0 h0
        subst this
        simp [run_underlying ht, run_underlying hti, Go.sizeOf, typeInfo, hi, hc, asInt, asIntOf, hwr, hl0, hl1', h0, hp]
      · simp [run_underlying ht, run_underlying hti, Go.sizeOf, typeInfo, hi, hc, asInt, asIntOf, hwr, hl0, hl1', h0, hp, hzv, hzc]
  · rename_i hc
    obtain ⟨h1, h2, olds, h3, h4, h5⟩ := H
    have hlt : s.cap < s.len + m.toNat := by omega
    have hfit := growslice_fits hlt h1
    have h48' : ¬ (281474976710656 < Builtin.nextslicecap (s.len + m.toNat) s.cap * i.bytes) := by omega
    have hcap : s.len + m.toNat ≤ grownCap w (s.len + m.toNat) s.cap e := by unfold grownCap; simp only [Question.cut]; omega
    refine ⟨⟨some ⟨w.heap.size, 0, none⟩, s.len + m.toNat, grownCap w (s.len + m.toNat) s.cap e⟩, { w with drawn := w.drawn + 1, heap := w.heap.push (.cells (olds.toArray ++ news.toArray ++ zRow v.cells ((grownCap w (s.len + m.toNat) s.cap e - (s.len + m.toNat)) * v.cells.size)) e) }, ?_, ⟨rfl, rfl, rfl, Nat.le_succ _⟩, h5 _ hcap⟩
    have ho := run_first (P := P) (w := w.drew) (sz := i.size) (k := s.len) (s := s) h3 h4
    have hd' : ({ w with drawn := w.drawn + 1 } : World) = w.drew := rfl
    have hmax : ¬ ((9223372036854775807 : Int) < (s.len : Int) + (m.toNat : Int)) := by omega
    have hmax' : ¬ ((9223372036854775807 : Int) < (s.len : Int) + max m 0) := by omega
    simp only [Builtin.append_, Sl.v] at ho ⊢
    by_cases h0 : m.toNat * i.size = 0
    · have := hn0 h0
      subst this
      simp [run_underlying ht, run_underlying hti, Go.sizeOf, typeInfo, hi, hc, hmax, hmax', h48', Question.forced, hd', ho, hzv, hzc, h0, hv, newRow, grownCap, asInt, asIntOf, hwr, hl0, hl1']
      simp [Builtin.zeroCells, zRow_eq]
      rfl
    · simp [run_underlying ht, run_underlying hti, Go.sizeOf, typeInfo, hi, hc, hmax, hmax', h48', Question.forced, hd', ho, hzv, hzc, h0, hv, newRow, grownCap, asInt, asIntOf, hwr, hl0, hl1']
      simp [Builtin.zeroCells, zRow_eq]
      rw [← Array.append_assoc, show olds.toArray ++ news.toArray = (olds ++ news).toArray from by simp]
      rfl
end
/-! ### A range over a function -/
def recAt (r : Loop) (s : LoopState) (p : Option Code) : Obj := .loop { r with state := s, pending := p }
def jat (js : List Code) : Nat → Option Code
  | 0 => none
  | k + 1 => js[k]?
/-- the loop's record is busy -/
def beg (l : Nat) : M Unit := ⟨fun h Q => ∃ r : Loop, h[l]? = some (.loop r) ∧ r.state = .ready ∧ Q () (h.setIfInBounds l (.loop { r with state := .busy })), fun hq ⟨r, h1, h2, h3⟩ => ⟨r, h1, h2, hq _ _ h3⟩⟩
def yV (l : Nat) : Value := .func (.yield l) #[] #[]
/-- how a round ends: the record -/
def RoundEnd (r : Loop) (l : Nat) (js : List Code) (Q : Bool → Heap → Prop) (j : Nat) (h : Heap) : Prop :=
  ∃ s p, h[l]? = some (recAt r s p) ∧ Q (jat js j).isNone (h.setIfInBounds l (recAt r (if (jat js j).isNone then .ready else .done) (jat js j)))
/-- how the loop ends -/
def LoopEnd (r : Loop) (l : Nat) (js : List Code) (Q : Nat → Heap → Prop) (h : Heap) : Prop :=
  ∃ s j, s ≠ LoopState.busy ∧ h[l]? = some (recAt r s (jat js j)) ∧ Q j (h.setIfInBounds l (recAt r .exhausted (jat js j)))
/-- a round may be asked for -/
def Rounds (P : Program) {α : Type} (enc : α → List Value) (js : List Code) (Y : Nat → α → M Nat) (r : Loop) (l : Nat) : Prop :=
  ∀ x h (Q : Bool → Heap → Prop) s p, h[l]? = some (recAt r s p) → (Y l x).wp h (RoundEnd r l js Q) → (callV P (fun b : Bool => .bool b) (yV l) (enc x)).wp h Q
/-- 'for x := range g { Y x }': the jump (0: none), and the block for what is put off -/
def rgF (P : Program) {α : Type} (enc : α → List Value) (js : List Code) (Y : Nat → α → M Nat) (g : Value) : M (Nat × Nat) :=
  ⟨fun h Q => (∀ l, g ≠ .func (.yield l) #[] #[]) ∧ ∀ r : Loop, Rounds P enc js Y r (h.size + 1) →
      (callV P (fun _ : Unit => .tuple #[]) g [yV (h.size + 1)]).wp ((h.push (.deferred (some []))).push (recAt r .ready none)) (fun _ h3 => LoopEnd r (h.size + 1) js (fun j h4 => Q (j, h.size) h4) h3),
   fun hq H => ⟨H.1, fun r hr => (callV P _ _ _).mono (fun _ h3 ⟨s, j, h1, h2, h3⟩ => ⟨s, j, h1, h2, hq _ _ h3⟩) (H.2 r hr)⟩⟩
/-- the same in a round of the loop l0 -/
def rgFN (P : Program) {α : Type} (l0 : Nat) (enc : α → List Value) (js : List Code) (Y : Nat → α → M Nat) (g : Value) : M Nat :=
  ⟨fun h Q => ((∃ r0 : Loop, h[l0]? = some (.loop r0)) ∧ ∀ l, g ≠ .func (.yield l) #[] #[]) ∧ ∀ r : Loop, Rounds P enc js Y r h.size →
      (callV P (fun _ : Unit => .tuple #[]) g [yV h.size]).wp (h.push (recAt r .ready none)) (fun _ h3 => LoopEnd r h.size js (fun j h4 => Q j h4) h3),
   fun hq H => ⟨H.1, fun r hr => (callV P _ _ _).mono (fun _ h3 ⟨s, j, h1, h2, h3⟩ => ⟨s, j, h1, h2, hq _ _ h3⟩) (H.2 r hr)⟩⟩
/-- the blocks of what is put off are shut -/
def shut : List Nat → M Unit
  | [] => M.pure ()
  | b :: r => ⟨fun h Q => h[b]? = some (.deferred (some [])) ∧ (shut r).wp (h.setIfInBounds b (.deferred none)) Q, fun hq H => ⟨H.1, (shut r).mono hq H.2⟩⟩

section
variable {ro : Option Nat} {P : Program} {K : Act → World → Prop} {X : Nat → Act → World → Prop} {R : Act → World → Prop} {n : Frm} {a : Act} {w w0 : World} {l : List (Nat × Value)}
theorem beg_w {β : Type} {lp : Nat} {f : Unit → M β} {Q : β → Heap → Prop} {B : World → Prop} (hR : Rest w0 w) (H : (beg lp >>= f).wp w.heap Q) (h : ∀ w', Rest w0 w' → (f ()).wp w'.heap Q → B w') :
    ∃ w2, (Instr.beginRound lp).run P w = .ok () w2 ∧ B w2 := by
  obtain ⟨r, h1, h2, h3⟩ := H
  exact ⟨_, run_beginRound h1 h2, h _ (hR.trans ⟨rfl, rfl, rfl, Nat.le_refl _⟩) h3⟩
/-- what comes behind a loop: a jump, or on -/
def jgo (ro : Option Nat) (P : Program) (N : Act → World → Prop) (Z : Exit → Act → World → Prop) : List Code → Nat → Act → World → Prop
  | [], _, a, w => N a w
  | c :: cs, j, a, w => if j = 1 then c.wpIn (Fw ro) 1 P Z a w else jgo ro P N Z cs (j - 1) a w
theorem jgo_cons {N : Act → World → Prop} {Z : Exit → Act → World → Prop} {c : Code} {cs : List Code} {j : Nat} (h1 : j = 1 → c.wpIn (Fw ro) 1 P Z a w) (h2 : ¬ j = 1 → jgo ro P N Z cs (j - 1) a w) : jgo ro P N Z (c :: cs) j a w := by
  unfold jgo
  split
  · exact h1 ‹_›
  · exact h2 ‹_›
theorem jgo_nil {N : Act → World → Prop} {Z : Exit → Act → World → Prop} {j : Nat} (h : N a w) : jgo ro P N Z [] j a w := h
theorem jgo_at {N : Act → World → Prop} {Z : Exit → Act → World → Prop} : ∀ {js : List Code} {j : Nat}, jgo ro P N Z js j a w → match jat js j with | none => N a w | some c => c.wpIn (Fw ro) 1 P Z a w
  | js, 0, h => by
    show N a w
    induction js with
    | nil => exact h
    | cons c cs ih => exact ih (by unfold jgo at h; simpa using h)
  | [], j + 1, h => by simpa [jat, jgo] using h
  | c :: cs, 1, h => by
    have : c.wpIn (Fw ro) 1 P Z a w := by unfold jgo at h; simpa using h
    simpa [jat] using this
  | c :: cs, j + 2, h => by
    have h' : jgo ro P N Z cs (j + 1) a w := by unfold jgo at h; simpa using h
    have := jgo_at h'
    simpa [jat] using this
def zipl : List Tmp → List Value → List (Nat × Value) → List (Nat × Value)
  | t :: ts, v :: vs, l => zipl ts vs ((t, v) :: l)
  | _, _, l => l
theorem env_zip : ∀ (ps : List Tmp) (vs : List Value) {a : Act} {l : List (Nat × Value)}, Env n a l → (ps.all fun t => Nat.blt t n.size) = true → Env n { a with tmps := (ps.zip vs).foldl (fun t p => t.setIfInBounds p.1 p.2) a.tmps } (zipl ps vs l)
  | [], vs, a, l, hE, _ => by simpa [zipl] using hE
  | t :: ts, [], a, l, hE, _ => by simpa [zipl] using hE
  | t :: ts, v :: vs, a, l, hE, h => by
    simp only [List.all_cons, Bool.and_eq_true] at h
    have := env_zip ts vs (hE.put t v h.1) h.2
    simpa [zipl, Act.put] using this
abbrev Xr (js : List Code) (Rr : Nat → Act → World → Prop) : Nat → Act → World → Prop := fun id a w => bif Nat.beq pid id then False else ∃ k, js[k]? = some (.exit id) ∧ Rr (k + 1) a w
abbrev Rr' (js : List Code) (Rr : Nat → Act → World → Prop) : Act → World → Prop := fun a w => ∃ k, js[k]? = some .ret ∧ Rr (k + 1) a w
theorem round_ok {lp : Nat} {fn : FuncId} {tmps : Array Value} {ps : Array Tmp} {assign body : Code} {D : Nat} {js : List Code} {α : Type} {enc : α → List Value} {Y : Nat → α → M Nat}
    (hps : ∀ x, (enc x).length = ps.size)
    (hround : ∀ (lp : Nat) (x : α) (Q : Nat → Heap → Prop) (w0 : World) (Rr : Nat → Act → World → Prop) (hfin : ∀ j a w, Rest w0 w → Q j w.heap → Rr j a w), (Y lp x).wp w0.heap Q →
      assign.wpIn (Fw (some lp)) 1 P (Ps (fun a1 w1 => ∃ w2, (Instr.beginRound lp).run P w1 = .ok () w2 ∧ body.wpIn (Fw (some lp)) 1 P (Ps (Rr 0) (Xr js Rr) (Rr' js Rr)) a1 w2) X0 (fun _ _ => False))
        { tmps := (ps.zip (enc x).toArray).foldl (fun t p => t.setIfInBounds p.1 p.2) tmps, defers := [] } w0) :
    Rounds P enc js Y { state := .ready, pending := none, fn := fn, tmps := tmps, params := ps, assign := assign, body := body, defers := D } lp := by
  intro x h Q s p hl hY w hw
  subst hw
  refine .inr ⟨lp, _, rfl, hl, hps x, roundIn_of_wpIn trivial ?_⟩
  refine wpIn_mono (hround lp x _ w (fun j a w' => ∃ v w'', (Instr.endRound lp (jat js j)).run P w' = .ok v w'' ∧ ∃ r, Ending.returned v = .returned (.bool r) ∧ Q r w''.heap ∧ Rest w w'') ?_ hY) ?_
  · rintro j a w' hR ⟨s, p, h1, h2⟩
    exact ⟨_, _, run_endRound _ h1, _, rfl, h2, hR.trans ⟨rfl, rfl, rfl, Nat.le_refl _⟩⟩
  · intro e a w' hh
    cases e with
    | normal =>
      obtain ⟨w2, h1, h2⟩ := hh
      refine ⟨w2, h1, wpIn_mono h2 ?_⟩
      intro e a w' hh
      cases e with
      | normal => exact hh
      | ret =>
        obtain ⟨k, hk, hh⟩ := hh
        have : jat js (k + 1) = some .ret := hk
        rw [this] at hh
        exact hh
      | exit id =>
        obtain ⟨h0, hh⟩ := hh
        unfold Xr at hh
        rw [h0] at hh
        dsimp only [cond_false] at hh
        obtain ⟨k, hk, hh⟩ := hh
        have : jat js (k + 1) = some (.exit id) := hk
        rw [this] at hh
        exact hh
      | goto t => exact False.elim hh
      | panic c => obtain ⟨_, _, hh⟩ := hh; exact False.elim hh
      | outgrown => exact hh
    | panic c => obtain ⟨_, _, hh⟩ := hh; exact False.elim hh
    | exit id => exact False.elim hh.2
    | _ => exact hh
theorem callV_calls {lp : Nat} {g : Value} {w : World} {Q : Unit → Heap → Prop} (hg : ∀ l, g ≠ .func (.yield l) #[] #[]) (H : (callV P (fun _ : Unit => .tuple #[]) g [yV lp]).wp w.heap Q) :
    ∃ f cap, g = .func (.func f) #[] cap ∧ Callee? P f ∧ Calls P f (#[yV lp] ++ cap) w (fun e w' => ∃ r, e = .returned (.tuple #[]) ∧ Q r w'.heap ∧ Rest w w') := by
  rcases H w rfl with ⟨f, cap, h1, h2, h3⟩ | ⟨l, r, h1, _⟩
  · exact ⟨f, cap, h1, h2, h3⟩
  · exact absurd h1 (hg l)
/-- the statement, outermost -/
theorem w_rangeF {gv : Value} {g : Operand} {ps : Array Tmp} {assign body : Code} {js : List Code} {α : Type} {enc : α → List Value} {Y : Nat → α → M Nat} {Q : Nat × Nat → Heap → Prop}
    (hE : Env n a l) (hR : Rest w0 w) (hg : opv l g = some gv) (hps : ∀ x, (enc x).length = ps.size) (hpl : (ps.toList.all fun t => Nat.blt t n.size) = true) (H : (rgF P enc js Y gv).wp w.heap Q)
    (hround : ∀ (lp : Nat) (x : α) (Q : Nat → Heap → Prop) (w0 : World) (Rr : Nat → Act → World → Prop) (hfin : ∀ j a w, Rest w0 w → Q j w.heap → Rr j a w) (a : Act) (w : World), Env ⟨n.size, []⟩ a (zipl ps.toList (enc x) l) → Rest w0 w → (Y lp x).wp w.heap Q →
      assign.wpIn (Fw (some lp)) 1 P (Ps (fun a1 w1 => ∃ w2, (Instr.beginRound lp).run P w1 = .ok () w2 ∧ body.wpIn (Fw (some lp)) 1 P (Ps (Rr 0) (Xr js Rr) (Rr' js Rr)) a1 w2) X0 (fun _ _ => False)) a w)
    (h : ∀ (x : Nat × Nat) a w, Env ⟨n.size, x.2 :: n.marks⟩ a l → Rest w0 w → Q x w.heap → jgo none P K (Ps K X R) js x.1 a w) :
    (Code.rangeFunc g ps assign body).wpIn (Fw none) 1 P (Ps K X R) a w := by
  refine wpIn_rangeFunc ?_
  intro fn hfn
  let r0 : Loop := { state := .ready, pending := none, fn := fn, tmps := a.tmps, params := ps, assign := assign, body := body, defers := w.heap.size }
  have hRo : Rounds P enc js Y r0 (w.heap.size + 1) := round_ok hps (fun lp x Q w1 Rr hfin hY => by
    have hE0 : Env ⟨n.size, []⟩ { tmps := a.tmps, defers := [] } l := ⟨hE.size, rfl, hE.at_⟩
    have := hround lp x Q w1 Rr hfin _ w1 (env_zip ps.toList (enc x) hE0 hpl) (Rest.refl _) hY
    have e : (ps.zip (enc x).toArray).foldl (fun t p => t.setIfInBounds p.1 p.2) a.tmps = (ps.toList.zip (enc x)).foldl (fun t p => t.setIfInBounds p.1 p.2) a.tmps := by
      rw [← Array.foldl_toList]; simp
    rw [e]
    exact this)
  obtain ⟨f, cap, rfl, hc, hC⟩ := callV_calls (w := (w.alloc (.deferred (some []))).alloc (.loop r0)) H.1 (H.2 r0 hRo)
  refine ⟨w.heap.size + 1, [dmark w.heap.size], (w.alloc (.deferred (some []))).alloc (.loop r0), { target := .fn (.func f) cap, args := #[yV (w.heap.size + 1)] }, (w.alloc (.deferred (some []))).alloc (.loop r0), f, #[yV (w.heap.size + 1)] ++ cap, (w.alloc (.deferred (some []))).alloc (.loop r0), ?_, ?_, ?_, ?_, fun _ => Nat.le_refl 1, ?_⟩
  · exact run_enterLoop_outer _ _ _ _ _
  · simp only [resolve, hE.opv hg]
    simp [Deferred.ofValue, yV, Act.eval]
  · intro f' _; trivial
  · have := hc (#[yV (w.heap.size + 1)] ++ cap) ((w.alloc (.deferred (some []))).alloc (.loop r0))
    simp [invoke, this]
  · refine calls_fw (hC.mono ?_)
    rintro e w' ⟨_, rfl, ⟨s, j, h1, h2, h3⟩, hr⟩
    have hend := run_endLoop (P := P) h2 (by simpa using h1)
    have hj := jgo_at (h (j, w.heap.size) { a with defers := dmark w.heap.size :: a.defers } (w'.putObj (w.heap.size + 1) (recAt r0 .exhausted (jat js j))) ⟨hE.size, by simp [hE.defers], hE.at_⟩ (hR.trans ⟨hr.os, hr.output, hr.tape, hr.drawn⟩) h3)
    exact ⟨_, _, hend, hj⟩
/-- the statement in a round of another -/
theorem w_rangeFN {l0 : Nat} {gv : Value} {g : Operand} {ps : Array Tmp} {assign body : Code} {js : List Code} {α : Type} {enc : α → List Value} {Y : Nat → α → M Nat} {Q : Nat → Heap → Prop}
    (hE : Env n a l) (hR : Rest w0 w) (hg : opv l g = some gv) (hps : ∀ x, (enc x).length = ps.size) (hpl : (ps.toList.all fun t => Nat.blt t n.size) = true) (H : (rgFN P l0 enc js Y gv).wp w.heap Q)
    (hround : ∀ (lp : Nat) (x : α) (Q : Nat → Heap → Prop) (w0 : World) (Rr : Nat → Act → World → Prop) (hfin : ∀ j a w, Rest w0 w → Q j w.heap → Rr j a w) (a : Act) (w : World), Env ⟨n.size, []⟩ a (zipl ps.toList (enc x) l) → Rest w0 w → (Y lp x).wp w.heap Q →
      assign.wpIn (Fw (some lp)) 1 P (Ps (fun a1 w1 => ∃ w2, (Instr.beginRound lp).run P w1 = .ok () w2 ∧ body.wpIn (Fw (some lp)) 1 P (Ps (Rr 0) (Xr js Rr) (Rr' js Rr)) a1 w2) X0 (fun _ _ => False)) a w)
    (h : ∀ j a w, Env n a l → Rest w0 w → Q j w.heap → jgo (some l0) P K (Ps K X R) js j a w) :
    (Code.rangeFunc g ps assign body).wpIn (Fw (some l0)) 1 P (Ps K X R) a w := by
  refine wpIn_rangeFunc ?_
  intro fn hfn
  obtain ⟨⟨⟨rr, hrr⟩, hy⟩, H⟩ := H
  let r0 : Loop := { state := .ready, pending := none, fn := fn, tmps := a.tmps, params := ps, assign := assign, body := body, defers := rr.defers }
  have hRo : Rounds P enc js Y r0 w.heap.size := round_ok hps (fun lp x Q w1 Rr hfin hY => by
    have hE0 : Env ⟨n.size, []⟩ { tmps := a.tmps, defers := [] } l := ⟨hE.size, rfl, hE.at_⟩
    have := hround lp x Q w1 Rr hfin _ w1 (env_zip ps.toList (enc x) hE0 hpl) (Rest.refl _) hY
    have e : (ps.zip (enc x).toArray).foldl (fun t p => t.setIfInBounds p.1 p.2) a.tmps = (ps.toList.zip (enc x)).foldl (fun t p => t.setIfInBounds p.1 p.2) a.tmps := by
      rw [← Array.foldl_toList]; simp
    rw [e]
    exact this)
  obtain ⟨f, cap, rfl, hc, hC⟩ := callV_calls (w := w.alloc (.loop r0)) hy (H r0 hRo)
  refine ⟨w.heap.size, [], w.alloc (.loop r0), { target := .fn (.func f) cap, args := #[yV w.heap.size] }, w.alloc (.loop r0), f, #[yV w.heap.size] ++ cap, w.alloc (.loop r0), ?_, ?_, ?_, ?_, fun _ => Nat.le_refl 1, ?_⟩
  · have hg := run_getLoop (P := P) hrr
    unfold Instr.enterLoop
    simp only [Sem.run_bind, hg, run_newObj_alloc, Result.andThen, Sem.run_pure]
    rfl
  · simp only [resolve, hE.opv hg]
    simp [Deferred.ofValue, yV, Act.eval]
  · intro f' _; trivial
  · have := hc (#[yV w.heap.size] ++ cap) (w.alloc (.loop r0))
    simp [invoke, this]
  · refine calls_fw (hC.mono ?_)
    rintro e w' ⟨_, rfl, ⟨s, j, h1, h2, h3⟩, hr⟩
    have hend := run_endLoop (P := P) h2 (by simpa using h1)
    have hj := jgo_at (h j { a with defers := [] ++ a.defers } (w'.putObj w.heap.size (recAt r0 .exhausted (jat js j))) ⟨hE.size, by simp [hE.defers], hE.at_⟩ (hR.trans ⟨hr.os, hr.output, hr.tape, hr.drawn⟩) h3)
    exact ⟨_, _, hend, hj⟩
end

/-- a function that holds a range over a function -/
theorem shut_leaves {P : Program} {fn : Func} {tmps : Array Value} {Q : Heap → Prop} {w0 : World} {R : Ending → World → Prop} : ∀ (m : List Nat) {w : World},
    Rest w0 w → (shut m).wp w.heap (fun _ h => Q h) → (∀ w, Rest w0 w → Q w.heap → ∃ v, (results fn tmps).run P w = .ok v w ∧ R (.returned v) w) → LeavesInM (Fw none) 1 P fn tmps R (m.map dmark) .returning w
  | [], w, hR, hs, h => h w hR hs
  | b :: r, w, hR, hs, h => ⟨by simp, .inl ⟨b, _, rfl, run_takeDeferred hs.1, shut_leaves (w := w.putObj b (.deferred none)) r (hR.trans ⟨rfl, rfl, rfl, Nat.le_refl _⟩) hs.2 h⟩⟩
theorem sound_ofM {P : Program} {f : FuncId} {fn : Func} {c : Code} {args : Array Value} {ρ : Type} {enc : ρ → Value} {F : M ρ} {n : Nat} (l : List (Nat × Value))
    (hf : P.funcs[f]? = some fn) (hb : fn.body = some c) (hn : fn.ntmps = n) (hs : args.size ≤ n) (hl : ∀ d v, look l d = some v → args[d]? = some v)
    (h : ∀ (w0 w : World) (Q : ρ → Heap → Prop) (R : Act → World → Prop) (a : Act),
      (∀ (m : List Nat) a w l (Q1 : Heap → Prop), Env ⟨n, m⟩ a l → Rest w0 w → (shut m).wp w.heap (fun _ h => Q1 h) →
        (∀ w, Rest w0 w → Q1 w.heap → ∃ r v, (results fn a.tmps).run P w = .ok v w ∧ v = enc r ∧ Q r w.heap) → R a w) →
      Env ⟨n, []⟩ a l → Rest w0 w → F.wp w.heap Q → c.wpIn (Fw none) 1 P (Ps R X0 R) a w) : Sound P f args enc F := by
  intro w Q hF
  refine (callsIn_wide (n := 1)).1 (callsIn_of_wp_marks hf hb trivial ?_)
  refine wpIn_mono (h w w Q (fun a w' => LeavesInM (Fw none) 1 P fn a.tmps (fun e w' => ∃ r, e = .returned (enc r) ∧ Q r w'.heap ∧ Rest w w') a.defers .returning w') _ ?_ (hn ▸ Env.enter args l (hn ▸ hs) hl) (Rest.refl w) hF) ?_
  · intro m a w' l Q1 hE hR hsh hret
    rw [hE.defers]
    refine shut_leaves m hR hsh (fun w2 hR2 hQ2 => ?_)
    obtain ⟨r, v, h1, rfl, h3⟩ := hret w2 hR2 hQ2
    exact ⟨_, h1, r, rfl, h3, hR2⟩
  · intro e a w' hh
    cases e with
    | normal => exact hh
    | ret => exact hh
    | exit i => exact hh.2.elim
    | goto l => exact hh.elim
    | panic c => obtain ⟨_, _, hh⟩ := hh; exact hh.elim
    | outgrown => exact hh.elim
end Gx
namespace Gx
open Go Gx.Last
/-! ### Panics; values as interfaces -/
def niB (P : Program) (t : TypeId) : Bool := match P.underlying t with
  | some (.interface _) => false
  | some _ => true
  | none => false
section
variable {ro : Option Nat} {P : Program} {ops : Array Oper} {K : Act → World → Prop} {X : Nat → Act → World → Prop} {R : Act → World → Prop} {n : Frm} {a : Act} {w w0 : World} {l : List (Nat × Value)} {rest : List Oper} {S : World → Prop} {ds : List Nat} {fuel : Nat} {b b' : Array Bool} {i : Nat} {E C W : List (List Nat)}
theorem r_mkIface {t : TypeId} {x : Operand} {v : Value} {dst : Option Tmp} {ty : TypeId} {pos : String} {aft : Array Edge} {g : Option (Nat × Bool)} (hE : Env n a l) (hx : opv l x = some v) (ht : niB P t = true) : (execOp a.eval ⟨dst, .makeInterface t x, ty, pos, aft, g⟩).run P w = .ok (.value (.iface t v)) w := by
  unfold niB at ht
  cases hu : P.underlying t with
  | none => rw [hu] at ht; cases ht
  | some d =>
    rw [hu] at ht
    cases d <;> first | (cases ht; done) | simp [execOp, Instr.makeInterface, run_underlying hu, hE.opv hx]
theorem r_panic {t : TypeId} {x : Operand} {v : Value} {dst : Option Tmp} {ty : TypeId} {pos : String} {aft : Array Edge} {g : Option (Nat × Bool)} (hE : Env n a l) (hx : opv l x = some (.iface t v)) : (execOp a.eval ⟨dst, .panic x, ty, pos, aft, g⟩).run P w = .halt (.panic (.iface t v)) w := by
  simp [execOp, Instr.panic, hE.opv hx, goPanic]
theorem t_panic {d : Option Nat} {x : Operand} {ty : TypeId} {pos : String} {aft : Array Edge} {t : TypeId} {v : Value} {m : Nat} (hE : Env ⟨m, []⟩ a l) (hx : opv l x = some (.iface t v)) (h : X pid { tmps := #[.iface t v], defers := [] } w) :
    wpListIn (Fw ro) 1 P ops (Ps K X R) (⟨d, .panic x, ty, pos, aft, none⟩ :: rest) a w := by
  refine wpListIn_plain rfl fun K' hK => ⟨fun _ _ => trivial, ?_⟩
  rw [show (Fw ro).round = ro from rfl, Oper.semAt_eq _ _ _ (fun c hc => by cases hc), r_panic hE hx, Oper.uponIn_panic]
  exact ⟨_, rfl, by rw [hE.defers]; exact h⟩
/-- a call that may panic -/
theorem t_callX {d : Option Nat} {f : FuncId} {as : Array Operand} {ts : Array TypeId} {ty : TypeId} {pos : String} {aft : Array Edge} {vs : List Value} {ρ β : Type} {enc : ρ → Value} {F : M (Value ⊕ ρ)} {f' : ρ → M (Value ⊕ β)} {Q : Value ⊕ β → Heap → Prop} {m : Nat}
    (hE : Env ⟨m, []⟩ a l) (hR : Rest w0 w) (hc : Callee? P f) (ha : opvs l as.toList = some vs) (hS : SoundX P f vs.toArray enc F) (H : (thr F f').wp w.heap Q)
    (hp : ∀ v w, Rest w0 w → Q (.inl v) w.heap → X pid { tmps := #[v], defers := [] } w)
    (h : ∀ r a' w', a' = a.put d (enc r) → Rest w0 w' → (f' r).wp w'.heap Q → wpListIn (Fw ro) 1 P ops (Ps K X R) rest a' w') :
    wpListIn (Fw ro) 1 P ops (Ps K X R) (⟨d, .call { callee := .value (.func f), args := as, argTypes := ts }, ty, pos, aft, none⟩ :: rest) a w := by
  refine wpListIn_plain rfl fun K' hK => ⟨fun _ _ => trivial, ?_⟩
  rw [sem_v (r_call hE hc ha) (fun d h => by cases h), Oper.uponIn_enter]
  refine ⟨fun _ => Nat.le_refl 1, calls_fw ((hS w _ H).mono ?_)⟩
  rintro e w' ⟨r, he, hq, hr⟩
  cases r with
  | inl v =>
    subst he
    exact ⟨v, rfl, by rw [hE.defers]; exact hp v w' (hR.trans hr) hq⟩
  | inr r =>
    subst he
    exact hK _ _ (h r _ w' rfl (hR.trans hr) hq)
theorem call_X {Q : Exit → Act → World → Prop} {oi : Oper} {N : Option Tmp} {a : Act} {w : World} {K : Act → World → Prop} (f : FuncId) (args : Array Value) (hw : Region.wanted oi (yielded ops a.tmps) = true) (hN : oi.dst = N) (hrun : (execOp a.eval oi).run P w = .ok (.enter f args) w)
    (h : Calls P f args w fun e w' => (∃ v, e = .returned v ∧ K (a.put N v) w') ∨ ∃ c, e = .panicked c ∧ Q (.panic c) a w') : if Region.wanted oi (yielded ops a.tmps) = true then Oper.wp P oi a w K Q else K (a.put N undef) w := by
  rw [if_pos hw]
  subst hN
  unfold Oper.wp
  rw [hrun, Oper.upon_enter]
  refine h.mono fun e w'' hh => ?_
  rcases hh with ⟨v, rfl, hk⟩ | ⟨c, rfl, hk⟩
  · exact hk
  · exact hk
theorem panic_X {Q : Exit → Act → World → Prop} {oi : Oper} {N : Option Tmp} {a : Act} {w : World} {K : Act → World → Prop} {v : Value} (hw : Region.wanted oi (yielded ops a.tmps) = true) (hrun : (execOp a.eval oi).run P w = .halt (.panic v) w)
    (h : Q (.panic [{ v := v, recovered := false }]) a w) : if Region.wanted oi (yielded ops a.tmps) = true then Oper.wp P oi a w K Q else K (a.put N undef) w := by
  rw [if_pos hw]
  unfold Oper.wp
  rw [hrun]
  exact h
theorem d_panic {o : Oper} {t : TypeId} {v : Value} {x : Operand} {m : Nat} (b' : Array Bool) (hi : ops[i]? = some o) (hop : o.op = .panic x) (hT : Tab ops E C W) (hc : oneT E b b' i = true) (hds : ds.contains i = true) (hE : Env ⟨m, []⟩ a l)
    (hw : Region.wanted o (yielded ops a.tmps) = true) (hx : opv l x = some (.iface t v)) (h : X pid { tmps := #[.iface t v], defers := [] } w) : Drawn P ops K X R S ds (fuel + 1) b a w := by
  refine last_ b' hi rfl (hT.one hc) (by simpa using hds) fun KK hK => ?_
  have hrun : (execOp a.eval o).run P w = .halt (.panic (.iface t v)) w := by
    have := r_panic (P := P) (w := w) (dst := o.dst) (ty := o.type) (pos := o.pos) (aft := o.after) (g := o.guard) hE hx
    rw [← hop] at this
    exact this
  exact panic_X hw hrun ⟨_, rfl, by rw [hE.defers]; exact h⟩
theorem d_callX {o : Oper} {N : Option Nat} {f : FuncId} {as : Array Operand} {ts : Array TypeId} {vs : List Value} {ρ β : Type} {enc : ρ → Value} {F : M (Value ⊕ ρ)} {f' : ρ → M (Value ⊕ β)} {Q : Value ⊕ β → Heap → Prop} {m : Nat} (b' : Array Bool)
    (hi : ops[i]? = some o) (hd : o.dst = N) (hop : o.op = .call { callee := .value (.func f), args := as, argTypes := ts }) (hT : Tab ops E C W) (hc : oneT E b b' i = true) (hds : ds.contains i = false) (hE : Env ⟨m, []⟩ a l) (hR : Rest w0 w)
    (hw : Region.wanted o (yielded ops a.tmps) = true) (hcl : Callee? P f) (ha : opvs l as.toList = some vs) (hS : SoundX P f vs.toArray enc F) (H : (thr F f').wp w.heap Q) (hSS : ∀ r h, (f' r).wp h Q → ∀ w' : World, w'.heap = h → S w')
    (hp : ∀ v w, Rest w0 w → Q (.inl v) w.heap → X pid { tmps := #[v], defers := [] } w)
    (h : ∀ r a' w', a' = a.put N (enc r) → Rest w0 w' → (f' r).wp w'.heap Q → S w' → Drawn P ops K X R S ds fuel b' a' w') : Drawn P ops K X R S ds (fuel + 1) b a w := by
  refine one_ b' hi hd (hT.one hc) (by simpa using hds) fun KK hK => ?_
  have hrun : (execOp a.eval o).run P w = .ok (.enter f vs.toArray) w := by
    have := r_call (dst := o.dst) (ty := o.type) (pos := o.pos) (aft := o.after) (g := o.guard) (ts := ts) (w := w) hE hcl ha
    rw [← hop] at this
    exact this
  refine call_X f vs.toArray hw hd hrun ((hS w _ H).mono ?_)
  rintro e w' ⟨r, he, hq, hr⟩
  cases r with
  | inl v => subst he; exact .inr ⟨_, rfl, v, rfl, by rw [hE.defers]; exact hp v w' (hR.trans hr) hq⟩
  | inr r => subst he; exact .inl ⟨_, rfl, hK _ _ (hSS r _ hq w' rfl) fun hs => h r _ w' rfl (hR.trans hr) hq hs⟩
theorem d_calllX {o : Oper} {N : Option Nat} {f : FuncId} {as : Array Operand} {ts : Array TypeId} {vs : List Value} {ρ β : Type} {enc : ρ → Value} {F : M (Value ⊕ ρ)} {f' : ρ → M (Value ⊕ β)} {Q : Value ⊕ β → Heap → Prop} {m : Nat} (b' : Array Bool)
    (hi : ops[i]? = some o) (hd : o.dst = N) (hop : o.op = .call { callee := .value (.func f), args := as, argTypes := ts }) (hT : Tab ops E C W) (hc : oneT E b b' i = true) (hds : ds.contains i = true) (hE : Env ⟨m, []⟩ a l) (hR : Rest w0 w)
    (hw : Region.wanted o (yielded ops a.tmps) = true) (hcl : Callee? P f) (ha : opvs l as.toList = some vs) (hS : SoundX P f vs.toArray enc F) (H : (thr F f').wp w.heap Q)
    (hp : ∀ v w, Rest w0 w → Q (.inl v) w.heap → X pid { tmps := #[v], defers := [] } w)
    (h : ∀ r a' w', a' = a.put N (enc r) → Rest w0 w' → (f' r).wp w'.heap Q → Drawn P ops K X R S ds fuel b' a' w') : Drawn P ops K X R S ds (fuel + 1) b a w := by
  refine last_ b' hi hd (hT.one hc) (by simpa using hds) fun KK hK => ?_
  have hrun : (execOp a.eval o).run P w = .ok (.enter f vs.toArray) w := by
    have := r_call (dst := o.dst) (ty := o.type) (pos := o.pos) (aft := o.after) (g := o.guard) (ts := ts) (w := w) hE hcl ha
    rw [← hop] at this
    exact this
  refine call_X f vs.toArray hw hd hrun ((hS w _ H).mono ?_)
  rintro e w' ⟨r, he, hq, hr⟩
  cases r with
  | inl v => subst he; exact .inr ⟨_, rfl, v, rfl, by rw [hE.defers]; exact hp v w' (hR.trans hr) hq⟩
  | inr r => subst he; exact .inl ⟨_, rfl, hK _ _ (h r _ w' rfl (hR.trans hr) hq)⟩
end
end Gx
namespace Gx
open Go Gx.Last
/-! ### Flat structs held against each other -/
inductive FK where
  | I (k : IntKind)
  | S
  | B
def FK.is : FK → Value → Bool
  | .I k, .int k' _ => decide (k = k')
  | .S, .string _ => true
  | .B, .bool _ => true
  | _, _ => false
def vEq : Value → Value → Bool
  | .int _ a, .int _ b => a == b
  | .string a, .string b => a.toList == b.toList
  | .bool a, .bool b => a == b
  | _, _ => false
def cEq : List FK → Nat → Array Value → Array Value → Bool
  | [], _, _, _ => true
  | _ :: ks, i, xs, ys => (match xs[i]?, ys[i]? with | some x, some y => vEq x y | _, _ => false) && cEq ks (i + 1) xs ys
def Fits : List FK → Nat → Array Value → Prop
  | [], _, _ => True
  | k :: ks, i, xs => (∃ v, xs[i]? = some v ∧ k.is v = true) ∧ Fits ks (i + 1) xs
def eqS (ks : List FK) (xs ys : Array Value) : M Bool := .get fun _ b => Fits ks 0 xs ∧ Fits ks 0 ys ∧ b = cEq ks 0 xs ys
def fkB (P : Program) (t : TypeId) : FK → Bool
  | .I k => match P.underlying t with | some (.int k') => decide (k = k') | _ => false
  | .S => match P.underlying t with | some .string => true | _ => false
  | .B => match P.underlying t with | some .bool => true | _ => false
def flL (P : Program) : List Field → List FK → Nat → Bool
  | [], [], _ => true
  | f :: fs, k :: ks, i => (f.name != "_") && Nat.beq f.offset i && fkB P f.type k && flL P fs ks (i + 1)
  | _, _, _ => false
def flB (P : Program) (t : TypeId) (ks : List FK) : Bool := (match P.underlying t with | some (.struct _) => true | _ => false) && !P.stoodInHeld t && flL P (P.fieldsOf t).toList ks 0
section
variable {P : Program} {w : World}
theorem fk_part {t : TypeId} {k : FK} {xs : Array Value} {i : Nat} {v : Value} (ht : fkB P t k = true) (hx : xs[i]? = some v) : (part t xs i).run P w = .ok v w := by
  cases k <;> (unfold fkB at ht; cases hu : P.underlying t with
    | none => rw [hu] at ht; cases ht
    | some d => rw [hu] at ht; cases d <;> first | (cases ht; done) | simp [part, isAgg, run_underlying hu, hx])
theorem fk_eq {t : TypeId} {k : FK} {a b : Value} (d : Nat) (ht : fkB P t k = true) (ha : k.is a = true) (hb : k.is b = true) : (Op.equalIn (d + 1) t a b).run P w = .ok (vEq a b) w := by
  cases k with
  | I k =>
    unfold fkB at ht
    cases hu : P.underlying t with
    | none => rw [hu] at ht; cases ht
    | some u =>
      rw [hu] at ht
      cases u <;> first | (cases ht; done) | skip
      cases a <;> first | (cases ha; done) | skip
      cases b <;> first | (cases hb; done) | skip
      have h1 := of_decide_eq_true ha
      have h2 := of_decide_eq_true hb
      subst h1; subst h2
      exact run_equalIn_int w d t _ _ _ _ hu
  | S =>
    unfold fkB at ht
    cases hu : P.underlying t with
    | none => rw [hu] at ht; cases ht
    | some u =>
      rw [hu] at ht
      cases u <;> first | (cases ht; done) | skip
      cases a <;> first | (cases ha; done) | skip
      cases b <;> first | (cases hb; done) | skip
      exact run_equalIn_string w d t _ _ hu
  | B =>
    unfold fkB at ht
    cases hu : P.underlying t with
    | none => rw [hu] at ht; cases ht
    | some u =>
      rw [hu] at ht
      cases u <;> first | (cases ht; done) | skip
      cases a <;> first | (cases ha; done) | skip
      cases b <;> first | (cases hb; done) | skip
      exact run_equalIn_bool' w d t _ _ hu
theorem eq_fields (d : Nat) {xs ys : Array Value} : ∀ {fs : List Field} {ks : List FK} {i : Nat}, flL P fs ks i = true → Fits ks i xs → Fits ks i ys → (Op.eqFields (d + 1) xs ys fs).run P w = .ok (cEq ks i xs ys) w
  | [], [], _, _, _, _ => rfl
  | [], _ :: _, _, h, _, _ => by cases h
  | _ :: _, [], _, h, _, _ => by cases h
  | f :: fs, k :: ks, i, h, hx, hy => by
    simp only [flL, Bool.and_eq_true] at h
    obtain ⟨⟨⟨h1, h2⟩, h3⟩, h4⟩ := h
    obtain ⟨⟨a, ha, hka⟩, hx⟩ := hx
    obtain ⟨⟨b, hb, hkb⟩, hy⟩ := hy
    have h2 : f.offset = i := Nat.eq_of_beq_eq_true h2
    have h1 : f.name ≠ "_" := by simpa using h1
    have ih := eq_fields d h4 hx hy
    simp only [Op.eqFields, if_pos h1, Sem.run_bind, h2, fk_part h3 ha, fk_part h3 hb, Result.andThen_ok, fk_eq d h3 hka hkb, Sem.run_ite, cEq, ha, hb]
    cases vEq a b with
    | true => simpa using ih
    | false => simp
theorem e_st {t : TypeId} {ks : List FK} {xs ys : Array Value} (ht : flB P t ks = true) (hx : Fits ks 0 xs) (hy : Fits ks 0 ys) (d : Nat) : (Op.equalIn (d + 2) t (.agg xs) (.agg ys)).run P w = .ok (cEq ks 0 xs ys) w := by
  unfold flB at ht
  simp only [Bool.and_eq_true, Bool.not_eq_true'] at ht
  obtain ⟨⟨h1, h2⟩, h3⟩ := ht
  have hu : P.underlying t = some (.struct (P.fieldsOf t)) := by
    unfold Program.fieldsOf
    cases hu : P.underlying t with
    | none => rw [hu] at h1; cases h1
    | some u => rw [hu] at h1; cases u <;> first | (cases h1; done) | rfl
  rw [run_equalIn_struct w (d + 1) t xs ys hu h2]
  exact eq_fields d h3 hx hy
theorem b_eqlT {t : TypeId} {ks : List FK} {xs ys : Array Value} {b : Bool} (ht : flB P t ks = true) (h : Fits ks 0 xs ∧ Fits ks 0 ys ∧ b = cEq ks 0 xs ys) : (binOp .eql t (.agg xs) (.agg ys)).run P w = .ok (.bool b) w := by
  obtain ⟨hx, hy, rfl⟩ := h
  have e1 : binOp .eql t (.agg xs) (.agg ys) = (do pure (.bool (← Op.equal t (.agg xs) (.agg ys)))) := rfl
  rw [e1, Sem.run_bind, show (Op.equal t (.agg xs) (.agg ys)).run P w = _ from e_st ht hx hy 9998]
  rfl
theorem b_neqT {t : TypeId} {ks : List FK} {xs ys : Array Value} {b : Bool} (ht : flB P t ks = true) (h : Fits ks 0 xs ∧ Fits ks 0 ys ∧ b = cEq ks 0 xs ys) : (binOp .neq t (.agg xs) (.agg ys)).run P w = .ok (.bool !b) w := by
  obtain ⟨hx, hy, rfl⟩ := h
  have e1 : binOp .neq t (.agg xs) (.agg ys) = (do pure (.bool (!(← Op.equal t (.agg xs) (.agg ys))))) := rfl
  rw [e1, Sem.run_bind, show (Op.equal t (.agg xs) (.agg ys)).run P w = _ from e_st ht hx hy 9998]
  rfl
/-! functions held against nil -/
def isNF (v : Value) : M Bool := .get fun _ b => (v = .nilFunc ∧ b = true) ∨ ((∃ f x y, v = .func f x y) ∧ b = false)
def fnB (P : Program) (t : TypeId) : Bool := match P.underlying t with | some (.func _ _ _) => true | _ => false
theorem e_fn {t : TypeId} {v : Value} {b : Bool} (ht : fnB P t = true) (h : (v = .nilFunc ∧ b = true) ∨ ((∃ f x y, v = .func f x y) ∧ b = false)) (d : Nat) : (Op.equalIn (d + 1) t v .nilFunc).run P w = .ok b w := by
  unfold fnB at ht
  cases hu : P.underlying t with
  | none => rw [hu] at ht; cases ht
  | some u =>
    rw [hu] at ht
    cases u <;> first | (cases ht; done) | skip
    rcases h with ⟨rfl, rfl⟩ | ⟨⟨f, x, y, rfl⟩, rfl⟩ <;> simp [Op.equalIn, run_underlying hu]
theorem g_fn {op : BinOp} {t : Nat} {x y : Operand} {u : Value} {b : Bool} (h : (u = .nilFunc ∧ b = true) ∨ ((∃ f x y, u = .func f x y) ∧ b = false)) : (eqGuard op t x y u .nilFunc).run P w = .ok () w := by
  rcases h with ⟨rfl, rfl⟩ | ⟨⟨f, x, y, rfl⟩, rfl⟩ <;> cases op <;> simp [eqGuard]
theorem b_eqlF {t : TypeId} {v : Value} {b : Bool} (ht : fnB P t = true) (h : (v = .nilFunc ∧ b = true) ∨ ((∃ f x y, v = .func f x y) ∧ b = false)) : (binOp .eql t v .nilFunc).run P w = .ok (.bool b) w := by
  refine bin_eql ?_ (e_fn ht h)
  rcases h with ⟨rfl, rfl⟩ | ⟨⟨f, x, y, rfl⟩, rfl⟩ <;> rfl
theorem b_neqF {t : TypeId} {v : Value} {b : Bool} (ht : fnB P t = true) (h : (v = .nilFunc ∧ b = true) ∨ ((∃ f x y, v = .func f x y) ∧ b = false)) : (binOp .neq t v .nilFunc).run P w = .ok (.bool !b) w := by
  refine bin_neq ?_ (e_fn ht h)
  rcases h with ⟨rfl, rfl⟩ | ⟨⟨f, x, y, rfl⟩, rfl⟩ <;> rfl
end
/-! ### Bytes as strings, unsafely -/
def uSD (x : Sl) : M (Option Addr) := .get fun _ r => (x.base = none ∧ r = none) ∨ (x.cap ≠ 0 ∧ x.base = r)
def uStr (e : TypeId) (p : Option Addr) (n : Int) : M ByteArray :=
  ⟨fun h Q => (n = 0 ∧ Q .empty h) ∨ ∃ g cells fz, ∃ l : List UInt8, p = some ⟨g, 0, none⟩ ∧ n = (l.length : Int) ∧ l ≠ [] ∧ l.length ≤ cells.size ∧ l.length ≤ 9223372036854775807 ∧ h[g]? = some (.cells cells e fz) ∧ (∀ (j : Nat) x, l[j]? = some x → cells[j]? = some (.int .u8 (x.toNat : Int))) ∧
      ∀ h' : Heap, h'.size = h.size → (∀ i, i ≠ g → h'[i]? = h[i]?) → Q ⟨l.toArray⟩ h',
   fun hq H => H.imp (fun ⟨a, b⟩ => ⟨a, hq _ _ b⟩) (fun ⟨g, c, f, l, h1, h2, h3, h4, h5, h6, h7, h8⟩ => ⟨g, c, f, l, h1, h2, h3, h4, h5, h6, h7, fun h' a b => hq _ _ (h8 h' a b)⟩)⟩
section
variable {P : Program} {n : Frm} {a : Act} {w : World} {l : List (Nat × Value)} {dst : Option Tmp} {ty : TypeId} {pos : String} {aft : Array Edge} {g : Option (Nat × Bool)}
theorem r_uSD {t : TypeId} {x : Operand} {s : Sl} {r : Option Addr} (hE : Env n a l) (hx : opv l x = some s.v) (h : (s.base = none ∧ r = none) ∨ (s.cap ≠ 0 ∧ s.base = r)) :
    (execOp a.eval ⟨dst, .call { callee := .builtin .unsafeSliceData, args := #[x], argTypes := #[t] }, ty, pos, aft, g⟩).run P w = .ok (.value (.pointer r)) w := by
  obtain ⟨base, len, cap⟩ := s
  have hr : (Builtin.unsafeSliceData_ #[t] ty #[.slice base len cap]).run P w = .ok (.pointer r) w := by
    rcases h with ⟨h1, rfl⟩ | ⟨h1, h2⟩
    · have h1 : base = none := h1
      subst h1
      rfl
    · have h2 : base = r := h2
      subst h2
      have h1 : cap ≠ 0 := h1
      cases base with
      | none => rfl
      | some b => exact Lib.run_unsafeSliceData_row _ _ _ _ _ _ h1
  simp [execOp, resolve, invoke, builtin, hE.opv hx, Sl.v, hr]
theorem uStr_run {pt it e : TypeId} {x y : Operand} {p : Option Addr} {m : Int} {Q : ByteArray → Heap → Prop} (hE : Env n a l) (hx : opv l x = some (.pointer p)) (hy : opv l y = some (.int .i64 m)) (hp : P.underlying pt = some (.pointer e)) (hc : P.cellsOf e = 1) (H : (uStr e p m).wp w.heap Q) :
    ∃ r w1, (execOp a.eval ⟨dst, .call { callee := .builtin .unsafeString, args := #[x, y], argTypes := #[pt, it] }, ty, pos, aft, g⟩).run P w = .ok (.value (.string r)) w1 ∧ Rest w w1 ∧ Q r w1.heap := by
  rcases H with ⟨rfl, H⟩ | ⟨b, cells, fz, ls, rfl, rfl, h3, h4, h5, h6, h7, h8⟩
  · refine ⟨.empty, w, ?_, Rest.refl w, H⟩
    have hr := Lib.run_unsafeString_none (P := P) w pt it ty p
    simp [execOp, resolve, invoke, builtin, hE.opv hx, hE.opv hy, hr]
  · have hr := Lib.run_unsafeString_row (P := P) w pt it ty e hp hc b cells.size (by simp [World.shape?, h6]) ls h3 h4 h5 (fun j x hj => by
      have := h7 j x hj
      rw [cell_h, show ((⟨b, 0, none⟩ : Addr).add j) = ⟨b, 0 + j, none⟩ by unfold Addr.add; split <;> simp_all]
      simp only [hcell, h6, Nat.zero_add, this]
      rfl)
    refine ⟨⟨ls.toArray⟩, w.freeze ⟨b, 0, none⟩ ls.length, ?_, ⟨by unfold World.freeze; split <;> rfl, by unfold World.freeze; split <;> rfl, by unfold World.freeze; split <;> rfl, by unfold World.freeze; split <;> exact Nat.le_refl _⟩, h8 _ ?_ ?_⟩
    · simp [execOp, resolve, invoke, builtin, hE.opv hx, hE.opv hy, hr]
    · unfold World.freeze
      split
      · rfl
      · simp
    · intro i hi
      unfold World.freeze
      split
      · rfl
      · simp only [Array.getElem?_modify]
        rw [if_neg (fun h => hi h.symm)]
end
/-! ### internal/bytealg.MakeNoZero -/
def mnz (e : TypeId) (n : Int) : M Sl :=
  ⟨fun h Q => 0 ≤ n ∧ n ≤ 281474976710656 ∧ ∀ cs : Array Value, n ≤ cs.size → cs.size ≤ 9223372036854775807 → Q ⟨some ⟨h.size, 0, none⟩, n.toNat, cs.size⟩ (h.push (.cells cs e)),
   fun hq ⟨h1, h2, h3⟩ => ⟨h1, h2, fun cs a b => hq _ _ (h3 cs a b)⟩⟩
theorem mnz_run {P : Program} {n : Frm} {a : Act} {w : World} {l : List (Nat × Value)} {dst : Option Tmp} {ty : TypeId} {pos : String} {aft : Array Edge} {g : Option (Nat × Bool)} {f : FuncId} {fn : Func} {ps : Array TypeId} {t e : TypeId} {ts : Array TypeId} {x : Operand} {m : Int} {Q : Sl → Heap → Prop}
    (hE : Env n a l) (hx : opv l x = some (.int .i64 m)) (hf : P.funcs[f]? = some fn) (hname : (fn.name == "runtime.NumGoroutine") = false) (hb : fn.body.isNone = true) (hn : Extern.findNext fn = none) (he : Extern.find fn = some (Extern.BytealgMakeNoZero.makeNoZero ps #[t])) (ht : P.underlying t = some (.slice e)) (H : (mnz e m).wp w.heap Q) :
    ∃ r w1, (execOp a.eval ⟨dst, .call { callee := .value (.func f), args := #[x], argTypes := ts }, ty, pos, aft, g⟩).run P w = .ok (.value (Sl.v r)) w1 ∧ Rest w w1 ∧ Q r w1.heap := by
  obtain ⟨h1, h2, h3⟩ := H
  obtain ⟨k, rfl⟩ : ∃ k : Nat, m = (k : Int) := ⟨m.toNat, by omega⟩
  obtain ⟨cs, hrun, hle, hmax⟩ := Lib.run_makeNoZero (P := P) w ps t e ht k (by omega)
  refine ⟨⟨some ⟨w.heap.size, 0, none⟩, k, cs.size⟩, w.drew.drew.alloc (.cells cs e), ?_, Rest.draws rfl rfl rfl 2 rfl, ?_⟩
  · have hc := run_callFunc_extern hf hname hb hn he #[.int .i64 (k : Int)] w
    rw [hrun] at hc
    have he := hE.opv hx
    have he' : (#[x] : Array Operand).map a.eval = #[.int .i64 (k : Int)] := by simp [he]
    simp [execOp, resolve, Deferred.ofValue, invoke, Act.eval, he, he', hc, Sl.v]
  · have := h3 cs (by omega) (hmax (by unfold maxLen; omega))
    rw [Int.toNat_natCast] at this
    exact this
/-! ### A function's value called in a region that draws -/
def callW (P : Program) {ρ : Type} (enc : ρ → Value) (v : Value) (args : List Value) : M ρ :=
  ⟨fun h Q => ∀ w : World, w.heap = h → ∃ f cap, v = .func (.func f) #[] cap ∧ Callee? P f ∧ Calls P f (args.toArray ++ cap) w (fun e w' => ∃ r, e = .returned (enc r) ∧ Q r w'.heap ∧ Rest w w'),
   fun hq h w hw => let ⟨f, cap, h1, h2, h3⟩ := h w hw; ⟨f, cap, h1, h2, h3.mono fun _ _ ⟨r, a, b, c⟩ => ⟨r, a, hq _ _ b, c⟩⟩⟩
theorem callW_f {P : Program} {ρ : Type} {enc : ρ → Value} {f : FuncId} {cap : Array Value} {args : List Value} {F : M ρ} {h : Heap} {Q : ρ → Heap → Prop} (hc : Callee? P f) (hS : Sound P f (args.toArray ++ cap) enc F) (H : F.wp h Q) :
    (callW P enc (.func (.func f) #[] cap) args).wp h Q := fun w hw => ⟨f, cap, rfl, hc, hS w Q (hw ▸ H)⟩
section
variable {P : Program} {ops : Array Oper} {K : Act → World → Prop} {X : Nat → Act → World → Prop} {R : Act → World → Prop} {n : Frm} {a : Act} {w w0 : World} {l : List (Nat × Value)} {S : World → Prop} {ds : List Nat} {fuel : Nat} {b b' : Array Bool} {i : Nat} {E C W : List (List Nat)}
theorem d_callW {o : Oper} {N : Option Nat} {x : Operand} {as : Array Operand} {ts : Array TypeId} {v : Value} {vs : List Value} {ρ : Type} {enc : ρ → Value} {Q : ρ → Heap → Prop} (b' : Array Bool)
    (hi : ops[i]? = some o) (hd : o.dst = N) (hop : o.op = .call { callee := .value x, args := as, argTypes := ts }) (hT : Tab ops E C W) (hc : oneT E b b' i = true) (hds : ds.contains i = false) (hE : Env n a l) (hR : Rest w0 w)
    (hw : Region.wanted o (yielded ops a.tmps) = true) (hx : opv l x = some v) (ha : opvs l as.toList = some vs) (H : (callW P enc v vs).wp w.heap Q) (hSS : ∀ r h, Q r h → ∀ w' : World, w'.heap = h → S w')
    (h : ∀ r a' w', a' = a.put N (enc r) → Rest w0 w' → Q r w'.heap → S w' → Drawn P ops K X R S ds fuel b' a' w') : Drawn P ops K X R S ds (fuel + 1) b a w := by
  obtain ⟨f, cap, rfl, hcl, hC⟩ := H w rfl
  refine one_ b' hi hd (hT.one hc) (by simpa using hds) fun KK hK => ?_
  have hrun : (execOp a.eval o).run P w = .ok (.enter f (vs.toArray ++ cap)) w := by
    have := r_callV (P := P) (w := w) (dst := o.dst) (ty := o.type) (pos := o.pos) (aft := o.after) (g := o.guard) (ts := ts) hE hx hcl ha
    rw [← hop] at this
    exact this
  refine call_ f (vs.toArray ++ cap) hw hd hrun (hC.mono ?_)
  rintro e w' ⟨r, rfl, hq, hr⟩
  exact ⟨_, rfl, hK _ _ (hSS r _ hq w' rfl) fun hs => h r _ w' rfl (hR.trans hr) hq hs⟩
theorem d_calllW {o : Oper} {N : Option Nat} {x : Operand} {as : Array Operand} {ts : Array TypeId} {v : Value} {vs : List Value} {ρ : Type} {enc : ρ → Value} {Q : ρ → Heap → Prop} (b' : Array Bool)
    (hi : ops[i]? = some o) (hd : o.dst = N) (hop : o.op = .call { callee := .value x, args := as, argTypes := ts }) (hT : Tab ops E C W) (hc : oneT E b b' i = true) (hds : ds.contains i = true) (hE : Env n a l) (hR : Rest w0 w)
    (hw : Region.wanted o (yielded ops a.tmps) = true) (hx : opv l x = some v) (ha : opvs l as.toList = some vs) (H : (callW P enc v vs).wp w.heap Q)
    (h : ∀ r a' w', a' = a.put N (enc r) → Rest w0 w' → Q r w'.heap → Drawn P ops K X R S ds fuel b' a' w') : Drawn P ops K X R S ds (fuel + 1) b a w := by
  obtain ⟨f, cap, rfl, hcl, hC⟩ := H w rfl
  refine last_ b' hi hd (hT.one hc) (by simpa using hds) fun KK hK => ?_
  have hrun : (execOp a.eval o).run P w = .ok (.enter f (vs.toArray ++ cap)) w := by
    have := r_callV (P := P) (w := w) (dst := o.dst) (ty := o.type) (pos := o.pos) (aft := o.after) (g := o.guard) (ts := ts) hE hx hcl ha
    rw [← hop] at this
    exact this
  refine call_ f (vs.toArray ++ cap) hw hd hrun (hC.mono ?_)
  rintro e w' ⟨r, rfl, hq, hr⟩
  exact ⟨_, rfl, hK _ _ (h r _ w' rfl (hR.trans hr) hq)⟩
theorem p_callW {o : Oper} {N : Option Nat} {x : Operand} {as : Array Operand} {ts : Array TypeId} {v : Value} {vs : List Value} {ρ : Type} {enc : ρ → Value} {Q : ρ → Heap → Prop} (b' : Array Bool)
    (hi : ops[i]? = some o) (hd : o.dst = N) (hop : o.op = .call { callee := .value x, args := as, argTypes := ts }) (hb : (b.setIfInBounds i true == b') = true) (hE : Env n a l) (hR : Rest w0 w)
    (hw : Region.wanted o (yielded ops a.tmps) = true) (hx : opv l x = some v) (ha : opvs l as.toList = some vs) (H : (callW P enc v vs).wp w.heap Q) (hSS : ∀ r h, Q r h → ∀ w' : World, w'.heap = h → S w')
    (h : ∀ r a' w', a' = a.put N (enc r) → Rest w0 w' → Q r w'.heap → S w' → Drawn P ops K X R S ds fuel b' a' w') :
    wpOp P ops (Ps K X R) i (fun a' w' => (i ∉ ds → S w → S w') ∧ Drawn P ops K X R S ds fuel (b.setIfInBounds i true) a' w') a w := by
  have hb' := eq_of_beq hb
  rw [hb']
  obtain ⟨f, cap, rfl, hcl, hC⟩ := H w rfl
  refine wpOp_step hi fun K' hK => ?_
  rw [hd]
  have hrun : (execOp a.eval o).run P w = .ok (.enter f (vs.toArray ++ cap)) w := by
    have := r_callV (P := P) (w := w) (dst := o.dst) (ty := o.type) (pos := o.pos) (aft := o.after) (g := o.guard) (ts := ts) hE hx hcl ha
    rw [← hop] at this
    exact this
  refine call_ f (vs.toArray ++ cap) hw hd hrun (hC.mono ?_)
  rintro e w' ⟨r, rfl, hq, hr⟩
  exact ⟨_, rfl, hK _ _ ⟨fun _ _ => hSS r _ hq w' rfl, h r _ w' rfl (hR.trans hr) hq (hSS r _ hq w' rfl)⟩⟩
theorem p_sth {o : Oper} {h1 : Heap} (b' : Array Bool) (hi : ops[i]? = some o) (hd : o.dst = none) (hb : (b.setIfInBounds i true == b') = true) (hE : Env n a l) (hR : Rest w0 w) (hw : Region.wanted o (yielded ops a.tmps) = true)
    (hrun : (execOp a.eval o).run P w = .ok .skip { w with heap := h1 }) (hS : ∀ w' : World, w'.heap = h1 → S w')
    (h : ∀ a' w', Env n a' l → Rest w0 w' → w'.heap = h1 → S w' → Drawn P ops K X R S ds fuel b' a' w') :
    wpOp P ops (Ps K X R) i (fun a' w' => (i ∉ ds → S w → S w') ∧ Drawn P ops K X R S ds fuel (b.setIfInBounds i true) a' w') a w := by
  have hb' := eq_of_beq hb
  rw [hb']
  refine wpOp_step hi fun K' hK => ?_
  rw [hd]
  refine skip_ hw hd hrun ?_
  exact hK _ _ ⟨fun _ _ => hS _ rfl, h _ _ hE (hR.trans ⟨rfl, rfl, rfl, Nat.le_refl _⟩) rfl (hS _ rfl)⟩
end
/-- clear(s) of a slice -/
def clL (z : Array Value) (s : Sl) : M Unit :=
  ⟨fun h Q => (s.base = none ∨ s.len = 0) ∧ Q () h ∨ ∃ a, s.base = some a ∧ s.len ≠ 0 ∧ Open h a (s.len * z.size) ∧ (∀ v ∈ z.toList, one v = true) ∧ Q () (hsetL h a (zRow z (s.len * z.size)).toList 0),
   fun hq H => H.imp (fun ⟨a, b⟩ => ⟨a, hq _ _ b⟩) (fun ⟨a, h1, h2, h3, h4, h5⟩ => ⟨a, h1, h2, h3, h4, hq _ _ h5⟩)⟩
theorem clL_run {P : Program} {n : Frm} {a : Act} {w : World} {l : List (Nat × Value)} {dst : Option Tmp} {ty : TypeId} {pos : String} {aft : Array Edge} {g : Option (Nat × Bool)} {t e sz bytes : Nat} {z : Array Value} {x : Operand} {s : Sl} {Q : Unit → Heap → Prop} (hE : Env n a l) (hx : opv l x = some s.v) (hP : apB P t e sz bytes z) (H : (clL z s).wp w.heap Q) :
    ∃ (r : Unit) (w1 : World), (execOp a.eval ⟨dst, .call { callee := .builtin .clear, args := #[x], argTypes := #[t] }, ty, pos, aft, g⟩).run P w = .ok (.value (.tuple #[])) w1 ∧ Rest w w1 ∧ Q r w1.heap := by
  obtain ⟨ht, i, hi, rfl, rfl, v, hv, rfl⟩ := hP
  obtain ⟨base, len, cap⟩ := s
  rcases H with ⟨h1, H⟩ | ⟨b, h1, h2, h3, h4, H⟩
  · refine ⟨(), w, ?_, Rest.refl w, H⟩
    have hr : (Builtin.clear_ #[t] ty #[.slice base len cap]).run P w = .ok (.tuple #[]) w := by
      cases base with
      | none => simp [Builtin.clear_, run_underlying ht]
      | some b =>
        rcases h1 with h1 | h1
        · cases h1
        · have h1 : len = 0 := h1
          subst h1
          simp [Builtin.clear_, run_underlying ht]
    simp [execOp, resolve, invoke, builtin, hE.opv hx, Sl.v, hr]
  · have h1 : base = some b := h1
    subst h1
    have h2 : len ≠ 0 := h2
    have hzv : (zeroValue e).run P w = .ok v w := by simp [zeroValue, typeInfo, hi, hv]
    have hzc : Builtin.zeroCells v.cells len = zRow v.cells (len * v.cells.size) := by
      simp only [Builtin.zeroCells, zRow]
      apply Array.ext'; simp
    have hl : (zRow v.cells (len * v.cells.size)).toList.length = len * v.cells.size := by simp [zRow]
    have hone : ∀ u ∈ (zRow v.cells (len * v.cells.size)).toList, one u = true := by
      intro u hu
      simp only [zRow, List.mem_map, List.mem_range] at hu
      obtain ⟨j, hj, rfl⟩ := hu
      have hpos : 0 < v.cells.size := by
        rcases Nat.eq_zero_or_pos v.cells.size with h | h
        · rw [h] at hj; simp at hj
        · exact h
      have hlt := Nat.mod_lt j hpos
      rw [getElem!_pos v.cells _ hlt]
      exact h4 _ (by simp)
    have hs := run_storeCells_h (P := P) (a := b) (zRow v.cells (len * v.cells.size)).toList 0 w (fun j hj => by rw [Nat.zero_add]; exact h3 j (by rw [hl] at hj; exact hj)) hone
    refine ⟨(), { w with heap := hsetL w.heap b (zRow v.cells (len * v.cells.size)).toList 0 }, ?_, ⟨rfl, rfl, rfl, Nat.le_refl _⟩, H⟩
    obtain ⟨m, rfl⟩ : ∃ m, len = m + 1 := ⟨len - 1, by omega⟩
    simp [execOp, resolve, invoke, builtin, hE.opv hx, Sl.v, Builtin.clear_, run_underlying ht, hzv, hzc, hs]
theorem w_refuse {ro : Option Nat} {P : Program} {N R : Act → World → Prop} {X : Nat → Act → World → Prop} {a : Act} {w : World} {c : Code} (h : False) : c.wpIn (Fw ro) 1 P (Ps N X R) a w := h.elim
end Gx
namespace Gx
open Go

/-! ### What is asked, step by step -/
section b
variable {α β : Type} {h : Heap} {Q : β → Heap → Prop}
theorem bind_w {m : M α} {f : α → M β} (H : m.wp h (fun r h' => (f r).wp h' Q)) : (m >>= f).wp h Q := H
theorem pure_w {a : β} (H : Q a h) : (M.pure a : M β).wp h Q := H
theorem pure_b {a : α} {f : α → M β} (H : (f a).wp h Q) : (M.pure a >>= f).wp h Q := H
theorem need_b {p : Prop} {f : Unit → M β} (hp : p) (H : (f ()).wp h Q) : (M.need p >>= f).wp h Q := ⟨hp, H⟩
theorem chk_b {p : Heap → Prop} {f : Unit → M β} (hp : p h) (H : (f ()).wp h Q) : (chk p >>= f).wp h Q := ⟨(), hp, H⟩
theorem ite_w {b : Bool} {m n : M β} (ht : b = true → m.wp h Q) (hf : b = false → n.wp h Q) : (M.ite b m n).wp h Q := by cases b; exact hf rfl; exact ht rfl
theorem ite_b {b : Bool} {m n : M α} {f : α → M β} (ht : b = true → (m >>= f).wp h Q) (hf : b = false → (n >>= f).wp h Q) : (M.ite b m n >>= f).wp h Q := by cases b; exact hf rfl; exact ht rfl
theorem iteT {b : Bool} {m n : M β} (hb : b = true) (H : m.wp h Q) : (M.ite b m n).wp h Q := by subst hb; exact H
theorem iteF {b : Bool} {m n : M β} (hb : b = false) (H : n.wp h Q) : (M.ite b m n).wp h Q := by subst hb; exact H
theorem iteT_b {b : Bool} {m n : M α} {f : α → M β} (hb : b = true) (H : (m >>= f).wp h Q) : (M.ite b m n >>= f).wp h Q := by subst hb; exact H
theorem iteF_b {b : Bool} {m n : M α} {f : α → M β} (hb : b = false) (H : (n >>= f).wp h Q) : (M.ite b m n >>= f).wp h Q := by subst hb; exact H
theorem assoc_b {γ : Type} {m : M γ} {g : γ → M α} {f : α → M β} (H : (m >>= fun x => g x >>= f).wp h Q) : ((m >>= g) >>= f).wp h Q := H
theorem both_w {m n : M β} (h1 : m.wp h Q) (h2 : n.wp h Q) : (M.both m n).wp h Q := ⟨h1, h2⟩
theorem both_b {m n : M α} {f : α → M β} (h1 : (m >>= f).wp h Q) (h2 : (n >>= f).wp h Q) : (M.both m n >>= f).wp h Q := ⟨h1, h2⟩
theorem ldI_b {k : IntKind} {a : Addr} {n : Int} {f : Int → M β} (hc : hcell h a = some (.int k n)) (H : (f n).wp h Q) : (ldI k a >>= f).wp h Q := ⟨n, hc, H⟩
theorem ldB_b {a : Addr} {n : Bool} {f : Bool → M β} (hc : hcell h a = some (.bool n)) (H : (f n).wp h Q) : (ldB a >>= f).wp h Q := ⟨n, hc, H⟩
theorem ldS_b {a : Addr} {n : ByteArray} {f : ByteArray → M β} (hc : hcell h a = some (.string n)) (H : (f n).wp h Q) : (ldS a >>= f).wp h Q := ⟨n, hc, H⟩
theorem ldP_b {a : Addr} {n : Option Addr} {f : Option Addr → M β} (hc : hcell h a = some (.pointer n)) (H : (f n).wp h Q) : (ldP a >>= f).wp h Q := ⟨n, hc, H⟩
theorem ldL_b {a : Addr} {n : Sl} {f : Sl → M β} (hc : hcell h a = some n.v) (H : (f n).wp h Q) : (ldL a >>= f).wp h Q := ⟨n, hc, H⟩
theorem ldMp_b {a : Addr} {n : Option Nat} {f : Option Nat → M β} (hc : hcell h a = some (.map n)) (H : (f n).wp h Q) : (ldMp a >>= f).wp h Q := ⟨n, hc, H⟩
theorem ldG_b {n : Nat} {a : Addr} {cs : Array Value} {f : Array Value → M β} (hs : cs.size = n) (hc : ∀ i, i < n → hcell h (a.add i) = cs[i]?) (H : (f cs).wp h Q) : (ldG n a >>= f).wp h Q := ⟨cs, ⟨hs, hc⟩, H⟩
theorem stV_b {a : Addr} {v x : Value} {f : Unit → M β} (hc : hcell h a = some x) (hf : hfrozen h a = false) (h1 : one v = true) (H : (f ()).wp (hset h a v) Q) : (stV a v >>= f).wp h Q := ⟨(), ⟨⟨x, hc⟩, hf, h1⟩, H⟩
theorem stG_b {a : Addr} {cs : Array Value} {f : Unit → M β} (hc : ∀ i, i < cs.size → (∃ x, hcell h (a.add i) = some x) ∧ hfrozen h (a.add i) = false) (h1 : ∀ v ∈ cs.toList, one v = true) (H : (f ()).wp (hsetL h a cs.toList 0) Q) : (stG a cs >>= f).wp h Q := ⟨(), ⟨hc, h1⟩, H⟩
theorem mkB_b {t : TypeId} {cs : Array Value} {f : Addr → M β} (H : (f ⟨h.size, 0, none⟩).wp (h.push (.cells cs t)) Q) : (mkB t cs >>= f).wp h Q := ⟨_, rfl, H⟩
theorem mkMap_b {f : Option Nat → M β} (H : (f (some h.size)).wp (h.push (.map #[] 0)) Q) : (mkMap >>= f).wp h Q := ⟨_, rfl, H⟩
theorem nilP_b {a : Addr} {f : Addr → M β} (H : (f a).wp h Q) : (nilP (some a) >>= f).wp h Q := ⟨a, rfl, H⟩
theorem ixL_b {s : Sl} {i : Int} {sz : Nat} {b : Addr} {f : Addr → M β} (h0 : 0 ≤ i) (h1 : i < s.len) (hb : s.base = some b) (H : (f (b.add (i.toNat * sz))).wp h Q) : (ixL s i sz >>= f).wp h Q := ⟨_, ⟨h0, h1, b, hb, rfl⟩, H⟩
theorem ixA_b {b : Addr} {n : Nat} {i : Int} {sz : Nat} {f : Addr → M β} (h0 : 0 ≤ i) (h1 : i < n) (H : (f (b.add (i.toNat * sz))).wp h Q) : (ixA b n i sz >>= f).wp h Q := ⟨_, ⟨h0, h1, rfl⟩, H⟩
theorem slL_b {s : Sl} {lo hi : Int} {sz : Nat} {f : Sl → M β} (h0 : 0 ≤ lo) (h1 : lo ≤ hi) (h2 : hi ≤ s.cap) (H : (f ⟨if s.cap = lo.toNat then s.base else s.base.map (·.add (lo.toNat * sz)), hi.toNat - lo.toNat, s.cap - lo.toNat⟩).wp h Q) : (slL s lo hi sz >>= f).wp h Q := ⟨_, ⟨h0, h1, h2, rfl⟩, H⟩
theorem slA_b {a : Addr} {n : Nat} {lo hi : Int} {sz : Nat} {f : Sl → M β} (h0 : 0 ≤ lo) (h1 : lo ≤ hi) (h2 : hi ≤ n) (H : (f ⟨some (if n = lo.toNat then a else a.add (lo.toNat * sz)), hi.toNat - lo.toNat, n - lo.toNat⟩).wp h Q) : (slA a n lo hi sz >>= f).wp h Q := ⟨_, ⟨h0, h1, h2, rfl⟩, H⟩
theorem pShl_b {k : IntKind} {x y : Int} {f : Int → M β} (h0 : 0 ≤ y) (H : (f (iShl k x y)).wp h Q) : (pShl k x y >>= f).wp h Q := ⟨_, ⟨h0, rfl⟩, H⟩
theorem pShr_b {k : IntKind} {x y : Int} {f : Int → M β} (h0 : 0 ≤ y) (H : (f (iShr k x y)).wp h Q) : (pShr k x y >>= f).wp h Q := ⟨_, ⟨h0, rfl⟩, H⟩
theorem bdL_b {e len : Nat} {cells : Array Value} {f : Sl → M β} (H : (f ⟨some ⟨h.size, 0, none⟩, len, len⟩).wp (h.push (.cells cells e)) Q) : (bdL e len cells >>= f).wp h Q := ⟨_, rfl, H⟩
theorem eqA_b {k : IntKind} {q : Nat} {xs ys : Array Value} {f : Bool → M β} (hx : Nums k q xs) (hy : Nums k q ys) (H : (f (aEq q xs ys)).wp h Q) : (eqA k q xs ys >>= f).wp h Q := ⟨_, ⟨hx, hy, rfl⟩, H⟩
theorem b2s_b {s : Sl} {ns : List UInt8} {f : ByteArray → M β} (hl : ns.length = s.len) (hr : Reads h s.base (ns.map fun b => Value.int .u8 (b.toNat : Int))) (H : (f ⟨ns.toArray⟩).wp h Q) : (b2s s >>= f).wp h Q := ⟨_, ⟨ns, hl, hr, rfl⟩, H⟩
end b

/-! ### Addresses and blocks -/
theorem add_mk (b o n : Nat) : (⟨b, o, none⟩ : Addr).add n = ⟨b, o + n, none⟩ := by
  cases n with
  | zero => rfl
  | succ n => simp [Addr.add]
theorem hcell_blk {h : Heap} {b o : Nat} {cs : Array Value} {t : TypeId} {z : Nat × Nat} (hb : h[b]? = some (.cells cs t z)) : hcell h ⟨b, o, none⟩ = cs[o]? := by
  simp [hcell, hb]
theorem hfrozen_blk {h : Heap} {b o : Nat} {cs : Array Value} {t : TypeId} (hb : h[b]? = some (.cells cs t (0, 0))) : hfrozen h ⟨b, o, none⟩ = false := by
  simp [hfrozen, hb]
theorem get_push_lt {h : Heap} {o : Obj} {i : Nat} (hi : i < h.size) : (h.push o)[i]? = h[i]? := by
  rw [Array.getElem?_push]
  rw [if_neg (by omega)]
theorem get_push_eq {h : Heap} {o : Obj} : (h.push o)[h.size]? = some o := by simp
theorem hset_size {h : Heap} {a : Addr} {v : Value} : (hset h a v).size = h.size := by simp [hset]
theorem hset_ne {h : Heap} {a : Addr} {v : Value} {i : Nat} (hi : i ≠ a.block) : (hset h a v)[i]? = h[i]? := by
  simp only [hset, Array.getElem?_modify]
  rw [if_neg (fun e => hi e.symm)]
theorem hset_at {h : Heap} {b o : Nat} {v : Value} {cs : Array Value} {t : TypeId} {z : Nat × Nat} (hb : h[b]? = some (.cells cs t z)) : (hset h ⟨b, o, none⟩ v)[b]? = some (.cells (cs.setIfInBounds o v) t z) := by
  simp only [hset, Array.getElem?_modify, if_true, hb, Option.map_some]
  rfl
theorem hsetL_size {a : Addr} : ∀ (vs : List Value) (h : Heap) (i : Nat), (hsetL h a vs i).size = h.size
  | [], _, _ => rfl
  | v :: r, h, i => by simp only [hsetL]; rw [hsetL_size r, hset_size]
theorem add_block (a : Addr) (n : Nat) : (a.add n).block = a.block := by
  cases n <;> rfl
theorem hsetL_ne {a : Addr} {j : Nat} (hj : j ≠ a.block) : ∀ (vs : List Value) (h : Heap) (i : Nat), (hsetL h a vs i)[j]? = h[j]?
  | [], _, _ => rfl
  | v :: r, h, i => by simp only [hsetL]; rw [hsetL_ne hj r, hset_ne (by rw [add_block]; exact hj)]
/-- vs laid over cs from o on -/
def lay (cs : Array Value) (o : Nat) : List Value → Array Value
  | [] => cs
  | v :: r => lay (cs.setIfInBounds o v) (o + 1) r
theorem hsetL_at {b o : Nat} {t : TypeId} {z : Nat × Nat} : ∀ (vs : List Value) (h : Heap) (i : Nat) (cs : Array Value), h[b]? = some (.cells cs t z) → (hsetL h ⟨b, o, none⟩ vs i)[b]? = some (.cells (lay cs (o + i) vs) t z)
  | [], h, i, cs, hb => hb
  | v :: r, h, i, cs, hb => by
    simp only [hsetL, lay]
    rw [add_mk]
    exact hsetL_at r _ (i + 1) _ (hset_at hb)
theorem lay_size : ∀ (vs : List Value) (cs : Array Value) (o : Nat), (lay cs o vs).size = cs.size
  | [], _, _ => rfl
  | v :: r, cs, o => by simp only [lay]; rw [lay_size r]; simp
theorem lay_toList : ∀ (vs : List Value) (cs : Array Value) (o : Nat), o + vs.length ≤ cs.size → (lay cs o vs).toList = cs.toList.take o ++ vs ++ cs.toList.drop (o + vs.length)
  | [], cs, o, _ => by simp [lay]
  | v :: r, cs, o, h => by
    simp only [List.length_cons] at h
    simp only [lay]
    rw [lay_toList r _ _ (by simp; omega)]
    simp only [Array.toList_setIfInBounds, List.length_cons]
    have h1 : (cs.toList.set o v).take (o + 1) = cs.toList.take o ++ [v] := by
      rw [List.take_succ_eq_append_getElem (by simp; omega), List.take_set_of_le (Nat.le_refl _)]
      simp
    rw [h1, List.drop_set_of_lt (by omega)]
    simp [Nat.add_assoc, Nat.add_comm 1]

/-- what had been there is there, as it was -/
structure Ext (h h' : Heap) : Prop where
  size : h.size ≤ h'.size
  same : ∀ i, i < h.size → h'[i]? = h[i]?
theorem Ext.refl (h : Heap) : Ext h h := ⟨Nat.le_refl _, fun _ _ => rfl⟩
theorem Ext.trans {h h' h'' : Heap} (a : Ext h h') (b : Ext h' h'') : Ext h h'' := ⟨Nat.le_trans a.size b.size, fun i hi => (b.same i (Nat.lt_of_lt_of_le hi a.size)).trans (a.same i hi)⟩
theorem Ext.push (h : Heap) (o : Obj) : Ext h (h.push o) := ⟨by simp, fun i hi => get_push_lt hi⟩
theorem Ext.pushed {h h' : Heap} (a : Ext h h') (o : Obj) : Ext h (h'.push o) := a.trans (Ext.push _ _)
theorem Ext.hset {h h' : Heap} (a : Ext h h') {p : Addr} {v : Value} (hp : h.size ≤ p.block) : Ext h (hset h' p v) :=
  ⟨by rw [hset_size]; exact a.size, fun i hi => by rw [hset_ne (by omega)]; exact a.same i hi⟩
theorem Ext.hsetL {h h' : Heap} (a : Ext h h') {p : Addr} {vs : List Value} {j : Nat} (hp : h.size ≤ p.block) : Ext h (hsetL h' p vs j) :=
  ⟨by rw [hsetL_size]; exact a.size, fun i hi => by rw [hsetL_ne (by omega)]; exact a.same i hi⟩
theorem Ext.cell {h h' : Heap} (a : Ext h h') {p : Addr} {v : Value} (hc : hcell h p = some v) : hcell h' p = some v := by
  have hlt : p.block < h.size := by
    rcases Nat.lt_or_ge p.block h.size with h1 | h1
    · exact h1
    · simp [hcell, Array.getElem?_eq_none h1] at hc
  simp only [hcell, a.same _ hlt] at hc ⊢
  exact hc
theorem Ext.blk {h h' : Heap} (a : Ext h h') {b : Nat} {o : Obj} (hb : h[b]? = some o) : h'[b]? = some o := by
  have hlt : b < h.size := by
    rcases Nat.lt_or_ge b h.size with h1 | h1
    · exact h1
    · rw [Array.getElem?_eq_none h1] at hb; cases hb
  rw [a.same _ hlt]; exact hb
theorem Ext.reads {h h' : Heap} (a : Ext h h') {b : Option Addr} {cs : List Value} (hr : Reads h b cs) : Reads h' b cs := by
  rcases hr with h1 | ⟨p, hp, hc⟩
  · exact .inl h1
  · exact .inr ⟨p, hp, fun j v hj => a.cell (hc j v hj)⟩
theorem blk_lt {h : Heap} {b : Nat} {o : Obj} (hb : h[b]? = some o) : b < h.size := by
  rcases Nat.lt_or_ge b h.size with h1 | h1
  · exact h1
  · rw [Array.getElem?_eq_none h1] at hb; cases hb

/-! ### Bytes -/
def bv (b : UInt8) : Value := .int .u8 (b.toNat : Int)
/-- bytes as cells -/
def bcells (l : List UInt8) : Array Value := (l.map bv).toArray
theorem bcells_size (l : List UInt8) : (bcells l).size = l.length := by simp [bcells]
theorem bcells_get (l : List UInt8) (i : Nat) : (bcells l)[i]? = (l[i]?).map bv := by simp [bcells]
theorem bcells_toList (l : List UInt8) : (bcells l).toList = l.map bv := rfl
theorem one_bv (b : UInt8) : one (bv b) = true := rfl
theorem bcells_set (l : List UInt8) (i : Nat) (b : UInt8) : (bcells l).setIfInBounds i (bv b) = bcells (l.set i b) := by
  apply Array.ext'
  simp [bcells, List.map_set]
theorem bcells_lay (l : List UInt8) (o : Nat) (vs : List UInt8) (h : o + vs.length ≤ l.length) : lay (bcells l) o (vs.map bv) = bcells (l.take o ++ vs ++ l.drop (o + vs.length)) := by
  apply Array.ext'
  rw [lay_toList _ _ _ (by simp [bcells]; exact h)]
  simp [bcells, List.map_take, List.map_drop]
theorem nums_bcells (l : List UInt8) {q : Nat} (h : q ≤ l.length) : Nums .u8 q (bcells l) := fun i hi => by
  have : i < l.length := by omega
  exact ⟨_, by rw [bcells_get, List.getElem?_eq_getElem this]; rfl⟩
theorem aEq_bcells (l l' : List UInt8) {q : Nat} (h : l.length = q) (h' : l'.length = q) : aEq q (bcells l) (bcells l') = decide (l = l') := by
  have key : ∀ i (hi : i < q), (iat (bcells l) i == iat (bcells l') i) = decide (l[i]'(by omega) = l'[i]'(by omega)) := fun i hi => by
    have h1 : iat (bcells l) i = ((l[i]'(by omega)).toNat : Int) := by
      simp only [iat, bcells_get, List.getElem?_eq_getElem (show i < l.length by omega), Option.map_some, bv]
    have h2 : iat (bcells l') i = ((l'[i]'(by omega)).toNat : Int) := by
      simp only [iat, bcells_get, List.getElem?_eq_getElem (show i < l'.length by omega), Option.map_some, bv]
    rw [h1, h2]
    rw [Bool.eq_iff_iff]
    simp only [beq_iff_eq, decide_eq_true_eq]
    constructor
    · intro e; exact UInt8.toNat_inj.1 (by omega)
    · intro e; rw [e]
  unfold aEq
  rw [Bool.eq_iff_iff, List.all_eq_true, decide_eq_true_eq]
  constructor
  · intro hh
    apply List.ext_getElem (by omega)
    intro i h1 h2
    have := hh i (by simp; omega)
    rw [key i (by omega)] at this
    simpa using this
  · rintro rfl i hi
    have hi' : i < q := by simpa using hi
    rw [key i hi']
    simp
/-- a slice's bytes -/
structure Bys (h : Heap) (s : Sl) (l : List UInt8) : Prop where
  len : s.len = l.length
  at_ : Reads h s.base (l.map bv)
theorem Bys.ext {h h' : Heap} {s : Sl} {l : List UInt8} (hb : Bys h s l) (he : Ext h h') : Bys h' s l := ⟨hb.len, he.reads hb.at_⟩
theorem Bys.get {h : Heap} {s : Sl} {l : List UInt8} (hb : Bys h s l) {i : Nat} (hi : i < l.length) : ∃ a, s.base = some a ∧ hcell h (a.add i) = some (bv l[i]) := by
  rcases hb.at_ with h1 | ⟨a, ha, hc⟩
  · simp at h1; subst h1; simp at hi
  · exact ⟨a, ha, hc i _ (by simp [List.getElem?_eq_getElem hi])⟩
theorem Bys.nil (h : Heap) : Bys h Sl.nil [] := ⟨rfl, .inl rfl⟩
/-- a number's low byte -/
def u8 (n : Int) : UInt8 := UInt8.ofNat (n % 256).toNat
theorem wrap_u8 (n : Int) : IntKind.wrap .u8 n = ((u8 n).toNat : Int) := by
  have e : IntKind.wrap .u8 n = n % 256 := by simp [IntKind.wrap, IntKind.signed, IntKind.bits]
  rw [e]
  simp [u8, UInt8.toNat_ofNat']
  omega
theorem u8_toNat (n : Int) : ((u8 n).toNat : Int) = n % 256 := by
  simp [u8, UInt8.toNat_ofNat']
  omega
end Gx
namespace Gx
open Go
set_option linter.unusedVariables false
set_option linter.unusedSimpArgs false
theorem w64 {n : Int} (h0 : -9223372036854775808 ≤ n) (h1 : n ≤ 9223372036854775807) : IntKind.wrap .i64 n = n := by
  rw [IntKind.wrap_i64]; omega
theorem take_snoc {l : List UInt8} {j : Nat} (h : j < l.length) : l.take (j + 1) = l.take j ++ [l[j]] := by
  rw [List.take_succ_eq_append_getElem h]
/-- only block b may have changed -/
structure Upd (b : Nat) (h h' : Heap) : Prop where
  size : h'.size = h.size
  ne : ∀ i, i ≠ b → h'[i]? = h[i]?
theorem Upd.refl (b : Nat) (h : Heap) : Upd b h h := ⟨rfl, fun _ _ => rfl⟩
theorem Upd.trans {b : Nat} {h h' h'' : Heap} (a : Upd b h h') (c : Upd b h' h'') : Upd b h h'' := ⟨c.size.trans a.size, fun i hi => (c.ne i hi).trans (a.ne i hi)⟩
theorem Upd.hset (h : Heap) (b o : Nat) (v : Value) : Upd b h (hset h ⟨b, o, none⟩ v) := ⟨hset_size, fun i hi => hset_ne hi⟩
theorem Upd.hsetL (h : Heap) (b o : Nat) (vs : List Value) (j : Nat) : Upd b h (hsetL h ⟨b, o, none⟩ vs j) := ⟨hsetL_size _ _ _, fun i hi => hsetL_ne hi _ _ _⟩
theorem Ext.upd {h h' h'' : Heap} {b : Nat} (e : Ext h h') (u : Upd b h' h'') (hb : h.size ≤ b) : Ext h h'' := ⟨by rw [u.size]; exact e.size, fun i hi => by rw [u.ne i (by omega)]; exact e.same i hi⟩

/-- a block of bytes of one's own -/
def BB (h : Heap) (b : Nat) (t : TypeId) (l : List UInt8) : Prop := h[b]? = some (.cells (bcells l) t (0, 0))
theorem BB.cell {h : Heap} {b : Nat} {t : TypeId} {l : List UInt8} (hb : BB h b t l) {i : Nat} (hi : i < l.length) : hcell h ⟨b, i, none⟩ = some (bv l[i]) := by
  rw [hcell_blk hb, bcells_get, List.getElem?_eq_getElem hi]; rfl
theorem BB.frozen {h : Heap} {b : Nat} {t : TypeId} {l : List UInt8} (hb : BB h b t l) (i : Nat) : hfrozen h ⟨b, i, none⟩ = false := hfrozen_blk hb
theorem BB.set {h : Heap} {b : Nat} {t : TypeId} {l : List UInt8} (hb : BB h b t l) (i : Nat) (x : UInt8) : BB (hset h ⟨b, i, none⟩ (bv x)) b t (l.set i x) := by
  unfold BB
  rw [hset_at hb, bcells_set]
theorem BB.lay {h : Heap} {b : Nat} {t : TypeId} {l : List UInt8} (hb : BB h b t l) (o : Nat) (vs : List UInt8) (hl : o + vs.length ≤ l.length) : BB (hsetL h ⟨b, o, none⟩ (vs.map bv) 0) b t (l.take o ++ vs ++ l.drop (o + vs.length)) := by
  unfold BB
  rw [hsetL_at _ _ _ _ hb, Nat.add_zero, bcells_lay l o vs hl]
theorem BB.upd {h h' : Heap} {b c : Nat} {t : TypeId} {l : List UInt8} (hb : BB h b t l) (u : Upd c h h') (hne : b ≠ c) : BB h' b t l := by
  unfold BB
  rw [u.ne b hne]; exact hb
theorem BB.bys {h : Heap} {b : Nat} {t : TypeId} {l : List UInt8} (hb : BB h b t l) (o n cap : Nat) (hl : o + n ≤ l.length) : Bys h ⟨some ⟨b, o, none⟩, n, cap⟩ ((l.drop o).take n) := by
  refine ⟨by simp; omega, .inr ⟨_, rfl, fun j v hj => ?_⟩⟩
  rw [add_mk]
  have hlt : j < ((l.drop o).take n).length := by
    rcases Nat.lt_or_ge j ((l.drop o).take n).length with h' | h'
    · exact h'
    · rw [List.getElem?_eq_none (by simpa using h')] at hj; cases hj
  have hlt' : j < n ∧ o + j < l.length := by simp at hlt; omega
  rw [hb.cell hlt'.2]
  rw [List.getElem?_map, List.getElem?_eq_getElem hlt] at hj
  simp at hj
  rw [← hj]
theorem stB_b {β : Type} {h : Heap} {Q : β → Heap → Prop} {b i : Nat} {t : TypeId} {l : List UInt8} {n : Int} {f : Unit → M β} (hb : BB h b t l) (hi : i < l.length)
    (H : (f ()).wp (hset h ⟨b, i, none⟩ (bv (u8 n))) Q) : (stV ⟨b, i, none⟩ (.int .u8 (IntKind.wrap .u8 n)) >>= f).wp h Q := by
  rw [wrap_u8]
  exact stV_b (hb.cell hi) (hb.frozen i) (one_bv _) H

theorem w64n {n : Nat} (h : n ≤ 9223372036854775807) : IntKind.wrap .i64 (n : Int) = (n : Int) := w64 (by omega) (by omega)
theorem list_set_mid {α : Type} {a b : List α} {x y : α} {o : Nat} (h : a.length = o) : (a ++ x :: b).set o y = a ++ y :: b := by
  subst h; simp
/-! ### Aggregates put together -/
theorem zip_lay (c : List Value) : ∀ (cs : Array Value) (off k : Nat), (c.zipIdx k).foldl (fun cs (x : Value × Nat) => cs.setIfInBounds (off + x.2) x.1) cs = lay cs (off + k) c := by
  induction c with
  | nil => intro cs off k; rfl
  | cons v r ih =>
    intro cs off k
    rw [List.zipIdx_cons, List.foldl_cons, ih]
    rfl
theorem fill_cons {place : Nat → Option (Nat × Nat)} {cells : Array Value} {i off size : Nat} {v : Value} {rest : List (Nat × Value)} (hp : place i = some (off, size)) (hs : v.cells.size = size) (hl : off + size ≤ cells.size) :
    Instr.fill place cells ((i, v) :: rest) = Instr.fill place (lay cells off v.cells.toList) rest := by
  conv => lhs; unfold Instr.fill
  simp only [hp]
  rw [if_neg (by rw [hs]; simp; omega)]
  congr 1
  rw [← Array.foldl_toList, Array.toList_zipIdx]
  exact zip_lay _ _ _ 0
theorem lay_full {cs : Array Value} {vs : List Value} (h : vs.length = cs.size) : lay cs 0 vs = vs.toArray := by
  apply Array.ext'
  rw [lay_toList _ _ _ (by omega)]
  simp [h]
theorem fillL1_b {β : Type} {h : Heap} {Q : β → Heap → Prop} {sz : Nat} {z c : Array Value} {f : Array Value → M β} (hc : c.size = sz) (H : (f c).wp h Q) : (fillL sz 1 z [(0, .agg c)] >>= f).wp h Q := by
  refine ⟨c, ?_, H⟩
  have hz : (zRow z (1 * sz)).size = sz := by simp [zRow]
  show Instr.fill (fun i => some (i * sz, sz)) (zRow z (1 * sz)) [(0, Value.agg c)] = some c
  rw [fill_cons (off := 0) (size := sz) (v := Value.agg c) (by simp) hc (by omega)]
  show some _ = some c
  rw [show (Value.agg c).cells = c from rfl, lay_full (by rw [Array.length_toList]; omega)]
/-! ### Slices that grow by append, one's own -/
structure Row (lo : Nat) (h : Heap) (r : Sl) (sz b : Nat) (ty : TypeId) (cells : Array Value) (vs : List Value) : Prop where
  base : r.base = some ⟨b, 0, none⟩
  lo : lo ≤ b
  blk : h[b]? = some (.cells cells ty (0, 0))
  size : cells.size = r.cap * sz
  cap : r.len ≤ r.cap
  len : vs.length = r.len * sz
  get : ∀ (j : Nat) v, vs[j]? = some v → cells[j]? = some v
def Gw (lo : Nat) (h : Heap) (r : Sl) (sz : Nat) (vs : List Value) : Prop := (r = Sl.nil ∧ vs = []) ∨ ∃ b ty cells, Row lo h r sz b ty cells vs
theorem Gw.nil (lo : Nat) (h : Heap) (sz : Nat) : Gw lo h Sl.nil sz [] := .inl ⟨rfl, rfl⟩
/-- the blocks of a slice -/
def Sl.on (r : Sl) (i : Nat) : Prop := ∃ a, r.base = some a ∧ a.block = i
theorem Gw.same {lo : Nat} {h h' : Heap} {r : Sl} {sz : Nat} {vs : List Value} (H : Gw lo h r sz vs) (e : ∀ i, Sl.on r i → h'[i]? = h[i]?) : Gw lo h' r sz vs := by
  rcases H with H | ⟨b, ty, cells, H⟩
  · exact .inl H
  · exact .inr ⟨b, ty, cells, H.base, H.lo, (e b ⟨_, H.base, rfl⟩).trans H.blk, H.size, H.cap, H.len, H.get⟩
theorem Gw.lt {lo : Nat} {h : Heap} {r : Sl} {sz : Nat} {vs : List Value} (H : Gw lo h r sz vs) {i : Nat} (hi : Sl.on r i) : i < h.size ∧ lo ≤ i := by
  obtain ⟨a, ha, rfl⟩ := hi
  rcases H with ⟨rfl, _⟩ | ⟨b, ty, cells, H⟩
  · cases ha
  · rw [H.base] at ha
    cases ha
    exact ⟨blk_lt H.blk, H.lo⟩
theorem Gw.reads {lo : Nat} {h : Heap} {r : Sl} {sz : Nat} {vs : List Value} (H : Gw lo h r sz vs) : Reads h r.base vs := by
  rcases H with ⟨_, rfl⟩ | ⟨b, ty, cells, H⟩
  · exact .inl rfl
  · refine .inr ⟨_, H.base, fun j v hj => ?_⟩
    rw [add_mk, Nat.zero_add, hcell_blk H.blk]
    exact H.get j v hj
theorem Gw.cell {lo : Nat} {h : Heap} {r : Sl} {sz : Nat} {vs : List Value} (H : Gw lo h r sz vs) {j : Nat} {v : Value} (hj : vs[j]? = some v) : ∃ b, r.base = some ⟨b, 0, none⟩ ∧ hcell h ⟨b, j, none⟩ = some v := by
  rcases H with ⟨_, rfl⟩ | ⟨b, ty, cells, H⟩
  · cases hj
  · exact ⟨b, H.base, by rw [hcell_blk H.blk]; exact H.get j v hj⟩
theorem Gw.len {lo : Nat} {h : Heap} {r : Sl} {sz : Nat} {vs : List Value} (H : Gw lo h r sz vs) : vs.length = r.len * sz := by
  rcases H with ⟨rfl, rfl⟩ | ⟨b, ty, cells, H⟩
  · simp [Sl.nil]
  · exact H.len
theorem zRow_size (z : Array Value) (n : Nat) : (zRow z n).size = n := by simp [zRow]
/-- append -/
theorem ap_grow {lo : Nat} {h : Heap} {Q : Sl → Heap → Prop} {e sz bytes : Nat} {z : Array Value} {r x : Sl} {vs news : List Value} (hz : z.size = sz) (H : Gw lo h r sz vs) (hn : news.length = x.len * sz) (hr : Reads h x.base news) (h1 : ∀ v ∈ news, one v = true)
    (hb : (r.len + x.len) * bytes ≤ 140737488355328) (hm : r.len + x.len ≤ 9223372036854775807) (hlo : lo ≤ h.size)
    (hq : ∀ h' r', Gw lo h' r' sz (vs ++ news) → r'.len = r.len + x.len → h.size ≤ h'.size → (∀ i, i < h.size → ¬ Sl.on r i → h'[i]? = h[i]?) → (∀ i, Sl.on r' i → Sl.on r i ∨ h.size ≤ i) → Q r' h') : (apL e sz bytes z r x).wp h Q := by
  refine ⟨news, hn, hr, ?_⟩
  unfold apGo
  split
  · rename_i hc
    rcases H with ⟨rfl, rfl⟩ | ⟨b, ty, cells, H⟩
    · have h0 : x.len = 0 := by simp [Sl.nil] at hc; exact hc
      have : news = [] := List.length_eq_zero_iff.1 (by rw [hn, h0]; simp)
      subst this
      refine ⟨fun a ha => (by cases ha), by simp, ?_⟩
      rw [h0]
      exact hq h _ (.inl ⟨rfl, rfl⟩) (by rw [h0]) (Nat.le_refl _) (fun i _ _ => rfl) (fun i hi => .inl hi)
    · have hsz : r.len * sz + news.length ≤ cells.size := by
        rw [hn, H.size, ← Nat.add_mul]
        exact Nat.mul_le_mul_right _ hc
      have hblk : (hputL h r.base (r.len * sz) news)[b]? = some (.cells (lay cells (r.len * sz) news) ty (0, 0)) := by
        rw [H.base]
        show (hsetL h ((⟨b, 0, none⟩ : Addr).add (r.len * sz)) news 0)[b]? = _
        rw [add_mk, Nat.zero_add, hsetL_at _ _ _ _ H.blk, Nat.add_zero]
      have hne : ∀ i, i ≠ b → (hputL h r.base (r.len * sz) news)[i]? = h[i]? := fun i hi => by
        rw [H.base]
        show (hsetL h ((⟨b, 0, none⟩ : Addr).add (r.len * sz)) news 0)[i]? = _
        rw [add_mk, hsetL_ne hi]
      have hsize : (hputL h r.base (r.len * sz) news).size = h.size := by
        rw [H.base]
        exact hsetL_size _ _ _
      refine ⟨fun a ha j hj => ?_, h1, hq _ _ (.inr ⟨b, ty, _, H.base, H.lo, hblk, ?_, hc, ?_, fun j v hj => ?_⟩) rfl (by rw [hsize]; exact Nat.le_refl _) (fun i hi hno => hne i (fun e => hno ⟨_, H.base, e.symm⟩)) (fun i hi => .inl hi)⟩
      · rw [H.base] at ha; cases ha
        rw [add_mk, add_mk, Nat.zero_add, hcell_blk H.blk, hfrozen_blk H.blk]
        exact ⟨⟨_, Array.getElem?_eq_getElem (by omega)⟩, rfl⟩
      · rw [lay_size]; exact H.size
      · rw [List.length_append, H.len, hn, Nat.add_mul]
      · rw [← Array.getElem?_toList, lay_toList _ _ _ hsz]
        have hlen : (cells.toList.take (r.len * sz)).length = r.len * sz := by rw [List.length_take, Array.length_toList]; omega
        by_cases hj1 : j < vs.length
        · rw [List.getElem?_append_left hj1] at hj
          have := H.get j v hj
          rw [List.append_assoc, List.getElem?_append_left (by rw [hlen, ← H.len]; exact hj1), List.getElem?_take, if_pos (by rw [← H.len]; exact hj1), Array.getElem?_toList]
          exact this
        · rw [List.getElem?_append_right (by omega)] at hj
          have hjn : j - vs.length < news.length := (List.getElem?_eq_some_iff.1 hj).1
          rw [List.append_assoc, List.getElem?_append_right (by rw [hlen, ← H.len]; omega), hlen, List.getElem?_append_left (by rw [← H.len]; exact hjn), ← H.len]
          exact hj
  · rename_i hc
    refine ⟨hb, hm, vs, H.len, H.reads, fun cap hcap => ?_⟩
    have hl := H.len
    refine hq _ _ (.inr ⟨h.size, e, _, rfl, hlo, get_push_eq, ?_, hcap, ?_, fun j v hj => ?_⟩) rfl (by simp) (fun i hi _ => get_push_lt hi) (fun i hi => .inr ?_)
    · rw [Array.size_append, Array.size_append, zRow_size, List.size_toArray, List.size_toArray, hl, hn, hz]
      show r.len * sz + x.len * sz + (cap - (r.len + x.len)) * sz = cap * sz
      rw [← Nat.add_mul, ← Nat.add_mul]
      congr 1
      omega
    · rw [List.length_append, hl, hn, Nat.add_mul]
    · have hlt : j < (vs ++ news).length := (List.getElem?_eq_some_iff.1 hj).1
      rw [Array.getElem?_append_left (by simpa using hlt)]
      rw [← hj]
      simp
    · obtain ⟨a, ha, rfl⟩ := hi
      cases ha
      exact Nat.le_refl _
/-- rows of one width, one behind the other -/
theorem flat_get {α : Type} {f : α → List Value} {w : Nat} (hw : ∀ x, (f x).length = w) : ∀ (l : List α) (i j : Nat), j < w → (l.flatMap f)[i * w + j]? = (l[i]?).bind fun x => (f x)[j]?
  | [], i, j, hj => by simp
  | x :: l, i, j, hj => by
    rw [List.flatMap_cons]
    cases i with
    | zero =>
      rw [List.getElem?_append_left (by rw [hw]; omega)]
      simp
    | succ i =>
      rw [List.getElem?_append_right (by rw [hw, Nat.add_mul]; omega), hw, show (i + 1) * w + j - w = i * w + j by rw [Nat.add_mul]; omega, flat_get hw l i j hj]
      simp
theorem flat_len {α : Type} {f : α → List Value} {w : Nat} (hw : ∀ x, (f x).length = w) (l : List α) : (l.flatMap f).length = l.length * w := by
  induction l with
  | nil => simp
  | cons x l ih => rw [List.flatMap_cons, List.length_append, hw, ih, List.length_cons, Nat.add_mul]; omega
/-- all but some blocks is as it was -/
structure Km (S : Nat → Prop) (h h' : Heap) : Prop where
  size : h.size ≤ h'.size
  same : ∀ i, i < h.size → ¬ S i → h'[i]? = h[i]?
theorem Km.refl (S : Nat → Prop) (h : Heap) : Km S h h := ⟨Nat.le_refl _, fun _ _ _ => rfl⟩
theorem Km.trans {S : Nat → Prop} {h h' h'' : Heap} (a : Km S h h') (b : Km S h' h'') : Km S h h'' :=
  ⟨Nat.le_trans a.size b.size, fun i hi hn => (b.same i (Nat.lt_of_lt_of_le hi a.size) hn).trans (a.same i hi hn)⟩
theorem Km.ext {S : Nat → Prop} {h h' : Heap} (a : Ext h h') : Km S h h' := ⟨a.size, fun i hi _ => a.same i hi⟩
theorem Km.upd {S : Nat → Prop} {h h' : Heap} {b : Nat} (u : Upd b h h') (hb : S b) : Km S h h' := ⟨by rw [u.size]; exact Nat.le_refl _, fun i hi hn => u.ne i (fun e => hn (e ▸ hb))⟩
theorem Km.own {S : Nat → Prop} {h h' h'' : Heap} {b : Nat} (K : Km S h h') (u : Upd b h' h'') (hb : h.size ≤ b) : Km S h h'' :=
  ⟨by rw [u.size]; exact K.size, fun i hi hn => (u.ne i (by omega)).trans (K.same i hi hn)⟩
theorem Km.blk {S : Nat → Prop} {h h' : Heap} (k : Km S h h') {b : Nat} {o : Obj} (hb : h[b]? = some o) (hn : ¬ S b) : h'[b]? = some o := (k.same b (blk_lt hb) hn).trans hb
theorem Ext.km {S : Nat → Prop} {h h' h'' : Heap} (e : Ext h h') (k : Km S h' h'') (hF : ∀ i, S i → h.size ≤ i) : Ext h h'' :=
  ⟨Nat.le_trans e.size k.size, fun i hi => (k.same i (Nat.lt_of_lt_of_le hi e.size) (fun ho => by have := hF i ho; omega)).trans (e.same i hi)⟩
theorem Gw.bys {lo : Nat} {h : Heap} {r : Sl} {l : List UInt8} (H : Gw lo h r 1 (l.map bv)) : Bys h r l := ⟨by have := H.len; simp at this; exact this.symm, H.reads⟩
theorem Gw.cap {lo : Nat} {h : Heap} {r : Sl} {sz : Nat} {vs : List Value} (H : Gw lo h r sz vs) : r.len ≤ r.cap := by
  rcases H with ⟨rfl, _⟩ | ⟨b, ty, cells, H⟩
  · exact Nat.le_refl _
  · exact H.cap
theorem Gw.ext {lo : Nat} {h h' : Heap} {r : Sl} {sz : Nat} {vs : List Value} (H : Gw lo h r sz vs) (e : Ext h h') : Gw lo h' r sz vs := H.same fun i hi => e.same i (H.lt hi).1
theorem Gw.weak {lo lo' : Nat} {h : Heap} {r : Sl} {sz : Nat} {vs : List Value} (H : Gw lo h r sz vs) (hl : lo' ≤ lo) : Gw lo' h r sz vs := by
  rcases H with H | ⟨b, ty, cells, H⟩
  · exact .inl H
  · exact .inr ⟨b, ty, cells, H.base, Nat.le_trans hl H.lo, H.blk, H.size, H.cap, H.len, H.get⟩
theorem one_v (s : Sl) : one s.v = true := by cases s; rfl
theorem stR {β : Type} {h : Heap} {Q : β → Heap → Prop} {b off : Nat} {cs vs : Array Value} {ty : TypeId} {f : Unit → M β} (hb : h[b]? = some (.cells cs ty (0, 0))) (hl : off + vs.size ≤ cs.size) (h1 : ∀ v ∈ vs.toList, one v = true)
    (H : ∀ h', Upd b h h' → h'[b]? = some (.cells (lay cs off vs.toList) ty (0, 0)) → (f ()).wp h' Q) : (stG ⟨b, off, none⟩ vs >>= f).wp h Q := by
  refine stG_b (fun i hi => ?_) h1 (H _ (Upd.hsetL _ _ _ _ _) (by rw [hsetL_at _ _ _ _ hb, Nat.add_zero]))
  rw [add_mk, hcell_blk hb]
  exact ⟨⟨_, Array.getElem?_eq_getElem (by omega)⟩, hfrozen_blk hb⟩
theorem ldR {β : Type} {h : Heap} {Q : β → Heap → Prop} {b n : Nat} {cs : Array Value} {ty : TypeId} {f : Array Value → M β} (hb : h[b]? = some (.cells cs ty (0, 0))) (hn : cs.size = n) (H : (f cs).wp h Q) : (ldG n ⟨b, 0, none⟩ >>= f).wp h Q :=
  ldG_b hn (fun i hi => by rw [add_mk, Nat.zero_add, hcell_blk hb]) H
theorem Ext.modify {h h' : Heap} {b : Nat} {f : Obj → Obj} (e : Ext h h') (hb : h.size ≤ b) : Ext h (h'.modify b f) :=
  ⟨by rw [Array.size_modify]; exact e.size, fun i hi => by
    rw [Array.getElem?_modify, if_neg (by omega)]; exact e.same i hi⟩
end Gx
namespace Gx
open Go
set_option linter.unusedVariables false
set_option linter.unusedSimpArgs false
/-! ### A range over a function, as it is used -/
theorem Upd.set_ (h : Heap) (l : Nat) (o : Obj) : Upd l h (h.setIfInBounds l o) := ⟨by simp, fun i hi => by rw [Array.getElem?_setIfInBounds, if_neg (fun e => hi e.symm)]⟩
theorem set_self {h : Heap} {l : Nat} {o o' : Obj} (hb : h[l]? = some o) : (h.setIfInBounds l o')[l]? = some o' := by
  rw [Array.getElem?_setIfInBounds, if_pos rfl, if_pos (blk_lt hb)]
/-- what an iterator does: it asks for the xs one by one, and ends where a round says so -/
def SeqW (P : Program) {α : Type} (enc : α → List Value) (xs : List α) (g : Value) (J : Nat → Heap → Prop) : Prop :=
  ∀ (l : Nat) (Inv : Nat → Heap → Prop) (Stop : Heap → Prop) (h : Heap), (∀ i h1, Inv i h1 → J i h1) → Inv 0 h →
    (∀ i (hi : i < xs.length) h1, Inv i h1 → (callV P (fun b : Bool => .bool b) (yV l) (enc xs[i])).wp h1 (fun b h2 => if b = true then Inv (i + 1) h2 else Stop h2)) →
    (callV P (fun _ : Unit => .tuple #[]) g [yV l]).wp h (fun _ h1 => Inv xs.length h1 ∨ Stop h1)
/-- the rounds: the body is asked with the record busy -/
theorem rounds_w {P : Program} {α : Type} {enc : α → List Value} {js : List Code} {Y : Nat → α → M Nat} {Yb : α → M Nat} {r : Loop} {l : Nat} (hY : ∀ x, Y l x = (beg l >>= fun _ => Yb x)) (hr : Rounds P enc js Y r l) {c : Code} (hjs : js = [c]) {J : Heap → Prop} {J' E : Heap → Prop} {x : α}
    (hJ : ∀ h1 h2, J h1 → Upd l h1 h2 → J h2) (hJ' : ∀ h1 h2, J' h1 → Upd l h1 h2 → J' h2) (hE : ∀ h1 h2, E h1 → Upd l h1 h2 → E h2)
    (hbody : ∀ h1 o, J h1 → h1[l]? = some o → (Yb x).wp h1 (fun j h2 => h2[l]? = some o ∧ (j = 0 ∧ J' h2 ∨ j = 1 ∧ E h2))) {h1 : Heap} (h0 : J h1) (hrec : h1[l]? = some (recAt r .ready none)) :
    (callV P (fun b : Bool => .bool b) (yV l) (enc x)).wp h1 (fun b h2 => if b = true then (J' h2 ∧ h2[l]? = some (recAt r .ready none)) else (E h2 ∧ h2[l]? = some (recAt r .done (some c)))) := by
  refine hr x h1 _ .ready none hrec ?_
  rw [hY]
  refine ⟨{ r with state := .ready, pending := none }, hrec, rfl, ?_⟩
  have hb := set_self (o' := recAt r .busy none) hrec
  refine (Yb x).mono ?_ (hbody _ _ (hJ _ _ h0 (Upd.set_ h1 l (recAt r .busy none))) hb)
  rintro j h2 ⟨h3, h4⟩
  refine ⟨.busy, none, h3, ?_⟩
  rcases h4 with ⟨rfl, h4⟩ | ⟨rfl, h4⟩
  · show if true = true then _ else _
    rw [if_pos rfl]
    exact ⟨hJ' _ _ h4 (Upd.set_ _ _ _), set_self h3⟩
  · subst hjs
    show if false = true then _ else _
    rw [if_neg (by simp)]
    exact ⟨hE _ _ h4 (Upd.set_ _ _ _), set_self h3⟩
/-- 'for x := range g { .. }': the jump 1, or 0: all are gone through -/
theorem rgF_w {P : Program} {α : Type} {enc : α → List Value} {js : List Code} {Y : Nat → α → M Nat} {Yb : α → M Nat} (hY : ∀ l x, Y l x = (beg l >>= fun _ => Yb x)) {c : Code} (hjs : js = [c]) {g : Value} (hg : ∀ l, g ≠ .func (.yield l) #[] #[]) {h : Heap} {Q : Nat × Nat → Heap → Prop} {xs : List α}
    (J : Nat → Heap → Prop) (E : Heap → Prop) (hJ : ∀ i h1 h2, J i h1 → Upd (h.size + 1) h1 h2 → J i h2) (hE : ∀ h1 h2, E h1 → Upd (h.size + 1) h1 h2 → E h2)
    (hseq : SeqW P enc xs g J) (h0 : ∀ r : Loop, J 0 ((h.push (.deferred (some []))).push (recAt r .ready none)))
    (hbody : ∀ i (hi : i < xs.length) h1 o, J i h1 → h1[h.size + 1]? = some o → (Yb xs[i]).wp h1 (fun j h2 => h2[h.size + 1]? = some o ∧ (j = 0 ∧ J (i + 1) h2 ∨ j = 1 ∧ E h2)))
    (hq0 : ∀ h1, J xs.length h1 → Q (0, h.size) h1) (hq1 : ∀ h1, E h1 → Q (1, h.size) h1) : (rgF P enc js Y g).wp h Q := by
  refine ⟨hg, fun r hr => ?_⟩
  have hrec : ((h.push (.deferred (some []))).push (recAt r .ready none))[h.size + 1]? = some (recAt r .ready none) := by
    have : h.size + 1 = (h.push (.deferred (some []))).size := by simp
    rw [this]; exact get_push_eq
  refine (callV P _ _ _).mono ?_ (hseq (h.size + 1) (fun i h1 => J i h1 ∧ h1[h.size + 1]? = some (recAt r .ready none)) (fun h1 => E h1 ∧ h1[h.size + 1]? = some (recAt r .done (some c))) _ (fun i h1 hh => hh.1) ⟨h0 r, hrec⟩ (fun i hi h1 hh => rounds_w (hY _) hr hjs (hJ i) (hJ (i + 1)) hE (hbody i hi) hh.1 hh.2))
  rintro _ h1 (⟨h2, h3⟩ | ⟨h2, h3⟩)
  · exact ⟨.ready, 0, by decide, h3, hq0 _ (hJ _ _ _ h2 (Upd.set_ _ _ _))⟩
  · subst hjs
    exact ⟨.done, 1, by decide, h3, hq1 _ (hE _ _ h2 (Upd.set_ _ _ _))⟩
end Gx
