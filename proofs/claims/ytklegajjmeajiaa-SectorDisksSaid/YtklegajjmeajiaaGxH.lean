/- Own library: a small logic of Lean programs over the model's heap, with the laws that tie Go code to it. No condition. -/
import Derived.Test.YtklegajjmeajiaaGxG
namespace Gx
open Go

/-! ### Structs built; slices built; fields -/
def placeOne (P : Program) (f : Field) : Option (Nat × Nat) := match P.info? f.type with
  | some i => some (f.offset, i.size)
  | none => none
def placesL (P : Program) : List Field → Option (List (Nat × Nat))
  | [] => some []
  | f :: r => match placeOne P f, placesL P r with
    | some p, some ps => some (p :: ps)
    | _, _ => none
/-- the fields' places of a struct type -/
def placesOf (P : Program) (t : TypeId) : Option (List (Nat × Nat)) := match P.underlying t with
  | some (.struct fs) => placesL P fs.toList
  | _ => none
section
variable {P : Program} {w : World}
theorem placesL_run : ∀ {fs : List Field} {ps : List (Nat × Nat)}, placesL P fs = some ps → (fs.mapM (m := Sem) fun f => do pure (f.offset, ← Go.sizeOf f.type)).run P w = .ok ps w
  | [], ps, h => by simp [placesL] at h; subst h; rfl
  | f :: r, ps, h => by
    simp only [placesL] at h
    cases h1 : placeOne P f with
    | none => rw [h1] at h; simp at h
    | some p =>
      cases h2 : placesL P r with
      | none => rw [h1, h2] at h; simp at h
      | some qs =>
        rw [h1, h2] at h
        simp only [Option.some.injEq] at h
        subst h
        unfold placeOne at h1
        cases hi : P.info? f.type with
        | none => rw [hi] at h1; cases h1
        | some i =>
          rw [hi] at h1
          simp only [Option.some.injEq] at h1
          subst h1
          have hh : ((do pure (f.offset, ← Go.sizeOf f.type)) : Sem (Nat × Nat)).run P w = .ok (f.offset, i.size) w := by simp [Go.sizeOf, typeInfo, hi]
          rw [List.mapM_cons]
          simp only [Sem.run_bind] at hh ⊢
          rw [hh]
          have := placesL_run h2
          simp only [Result.andThen_ok, this, Sem.run_pure]
theorem build_run {t : Nat} {z : Value} {ps : List (Nat × Nat)} {parts : Array (Nat × Value)} {cells : Array Value} (hz : (P.info? t).bind (·.zero) = some z) (hp : placesOf P t = some ps) (hf : Instr.fill (ps[·]?) z.cells parts.toList = some cells) :
    (Instr.build t parts).run P w = .ok (.agg cells) w := by
  have hzv : (zeroValue t).run P w = .ok z w := by
    cases hi : P.info? t with
    | none => rw [hi] at hz; cases hz
    | some i => rw [hi] at hz; simp at hz; simp [zeroValue, typeInfo, hi, hz]
  unfold placesOf at hp
  cases hu : P.underlying t with
  | none => rw [hu] at hp; cases hp
  | some d =>
    rw [hu] at hp
    cases d with
    | struct fs =>
      simp only at hp
      have h1 := placesL_run (w := w) hp
      have h2 : (fs.mapM (m := Sem) fun f => do pure (f.offset, ← Go.sizeOf f.type)).run P w = .ok ps.toArray w := by
        have e : fs = fs.toList.toArray := by simp
        rw [e, List.mapM_toArray]
        simp only [Sem.run_map, h1, Result.andThen_ok]
      unfold Instr.build
      simp only [Sem.run_bind, hzv, Result.andThen_ok, run_underlying hu, h2]
      have h3 : (fun x : Nat => ps.toArray[x]?) = (fun x : Nat => ps[x]?) := by funext x; simp
      rw [h3, hf]
      rfl
    | _ => cases hp
end
/-- a struct is put together; a part may be a struct -/
def fillG (ps : List (Nat × Nat)) (z : Array Value) (parts : List (Nat × Value)) : M (Array Value) := .get fun _ cs => Instr.fill (ps[·]?) z parts = some cs
def bdL (e len : Nat) (cells : Array Value) : M Sl := ⟨fun h Q => ∃ r : Sl, r = ⟨some ⟨h.size, 0, none⟩, len, len⟩ ∧ Q r (h.push (.cells cells e)), fun hq ⟨r, hp, h⟩ => ⟨r, hp, hq _ _ h⟩⟩
def fillL (size len : Nat) (z : Array Value) (parts : List (Nat × Value)) : M (Array Value) := .get fun _ cs => Instr.fill (fun i => some (i * size, size)) (zRow z (len * size)) parts = some cs
def fdI (k : IntKind) (cs : Array Value) (i : Nat) : M Int := .get fun _ n => cs[i]? = some (.int k n)
def fdB (cs : Array Value) (i : Nat) : M Bool := .get fun _ n => cs[i]? = some (.bool n)
def fdS (cs : Array Value) (i : Nat) : M ByteArray := .get fun _ n => cs[i]? = some (.string n)
def fdP (cs : Array Value) (i : Nat) : M (Option Addr) := .get fun _ n => cs[i]? = some (.pointer n)
def fdL (cs : Array Value) (i : Nat) : M Sl := .get fun _ n => cs[i]? = some n.v
def fdMp (cs : Array Value) (i : Nat) : M (Option Nat) := .get fun _ n => cs[i]? = some (.map n)
def fdV (cs : Array Value) (i : Nat) : M Value := .get fun _ n => cs[i]? = some n
/-- what of a field's type is asked -/
def fdoB (P : Program) (s f : Nat) : Option (Nat × Nat) := match P.underlying s with
  | some (.struct fs) => match fs[f]? with
    | some fd => some (fd.offset, fd.type)
    | none => none
  | _ => none
/-- string(b) -/
def b2s (s : Sl) : M ByteArray := .get fun h r => ∃ ns : List UInt8, ns.length = s.len ∧ Reads h s.base (ns.map fun b => Value.int .u8 (b.toNat : Int)) ∧ r = ⟨ns.toArray⟩
/-- []byte(s): the block behind it bears a mark -/
def s2b (e : Nat) (s : ByteArray) : M Sl :=
  ⟨fun h Q => ∀ cap, s.size ≤ cap → ∀ mk : Nat × Nat, mk = (cap, cap + 1) → Q ⟨some ⟨h.size, 0, none⟩, s.size, cap⟩ (h.push (.cells ((sbytes s).toArray ++ Array.replicate (cap - s.size) (.int .u8 0)) e mk)),
   fun hq H cap hc mk hm => hq _ _ (H cap hc mk hm)⟩

section ops
variable {P : Program} {n : Nat} {a : Act} {w : World} {l : List (Nat × Value)} {dst : Option Tmp} {ty : TypeId} {pos : String} {aft : Array Edge} {g : Option (Nat × Bool)}
def opps (l : List (Nat × Value)) : List (Nat × Operand) → Option (List (Nat × Value))
  | [] => some []
  | (i, x) :: r => match opv l x, opps l r with
    | some v, some vs => some ((i, v) :: vs)
    | _, _ => none
theorem Env.opps (hE : Env n a l) : ∀ {xs : List (Nat × Operand)} {vs : List (Nat × Value)}, opps l xs = some vs → xs.map (fun (i, x) => (i, a.eval x)) = vs
  | [], vs, h => by simp [Gx.opps] at h; subst h; rfl
  | (i, x) :: r, vs, h => by
    simp only [Gx.opps] at h
    cases h1 : Gx.opv l x with
    | none => rw [h1] at h; simp at h
    | some v =>
      cases h2 : Gx.opps l r with
      | none => rw [h1, h2] at h; simp at h
      | some vs' =>
        rw [h1, h2] at h
        simp only [Option.some.injEq] at h
        subst h
        simp [hE.opv h1, Env.opps hE h2]
theorem parts_eq {parts : Array (Nat × Operand)} {vs : List (Nat × Value)} (hE : Env n a l) (ho : Gx.opps l parts.toList = some vs) : (parts.map fun (i, x) => (i, a.eval x)).toList = vs := by
  rw [Array.toList_map]
  exact hE.opps ho
theorem r_build {t : Nat} {z : Value} {ps : List (Nat × Nat)} {parts : Array (Nat × Operand)} {vs : List (Nat × Value)} {cells : Array Value} (hE : Env n a l) (ho : Gx.opps l parts.toList = some vs) (hz : (P.info? t).bind (·.zero) = some z) (hp : placesOf P t = some ps) (hf : Instr.fill (ps[·]?) z.cells vs = some cells) :
    (execOp a.eval ⟨dst, .build t parts, ty, pos, aft, g⟩).run P w = .ok (.value (.agg cells)) w := by
  have := build_run (P := P) (w := w) (parts := parts.map fun (i, x) => (i, a.eval x)) hz hp (by rw [parts_eq hE ho]; exact hf)
  simp [execOp, this]
theorem r_build0 {t : Nat} {v : Value} (h : ∀ w, (Instr.build t #[]).run P w = .ok v w) : (execOp a.eval ⟨dst, .build t #[], ty, pos, aft, g⟩).run P w = .ok (.value v) w := by
  simp [execOp, h]
theorem r_buildL {t e sz len : Nat} {z : Value} {parts : Array (Nat × Operand)} {vs : List (Nat × Value)} {cells : Array Value} {s : Sl} (hE : Env n a l) (ho : Gx.opps l parts.toList = some vs) (ht : P.underlying t = some (.slice e)) (hs : szB P e sz = true) (hz : (P.info? e).bind (·.zero) = some z) (hlim : Nat.ble (len * sz) 16777216 = true)
    (hf : Instr.fill (fun i => some (i * sz, sz)) (zRow z.cells (len * sz)) vs = some cells) (hq : s = ⟨some ⟨w.heap.size, 0, none⟩, len, len⟩) :
    (execOp a.eval ⟨dst, .buildSlice t len parts, ty, pos, aft, g⟩).run P w = .ok (.value s.v) { w with heap := w.heap.push (.cells cells e) } := by
  subst hq
  have hzv : ∀ w, (zeroValue e).run P w = .ok z w := fun w => by
    cases hi : P.info? e with
    | none => rw [hi] at hz; cases hz
    | some i => rw [hi] at hz; simp at hz; simp [zeroValue, typeInfo, hi, hz]
  have h1 : ¬ (16777216 < len * sz) := by have := Nat.le_of_ble_eq_true hlim; omega
  have h2 : List.map (fun x : Nat × Operand => (x.1, a.eval x.2)) parts.toList = vs := hE.opps ho
  by_cases h0 : len * sz = 0
  · rw [h0] at hf
    have e0 : (Array.range 0) = #[] := Array.eq_empty_of_size_eq_zero (by simp)
    simp [zRow_eq, e0] at hf
    simp [execOp, Instr.buildSlice, run_underlying ht, szB_spec hs, h0, h2, hf, newRow, Sl.v, e0]
  · simp only [zRow_eq] at hf
    simp [execOp, Instr.buildSlice, run_underlying ht, szB_spec hs, h0, h1, hzv, h2, hf, newRow, Sl.v]
theorem r_field {s f off ft : Nat} {x : Operand} {cs : Array Value} {v : Value} (hE : Env n a l) (hx : opv l x = some (.agg cs)) (hf : fdoB P s f = some (off, ft)) (ht : scB P ft = true) (hv : cs[off]? = some v) :
    (execOp a.eval ⟨dst, .field s x f, ty, pos, aft, g⟩).run P w = .ok (.value v) w := by
  unfold fdoB at hf
  cases hu : P.underlying s with
  | none => rw [hu] at hf; cases hf
  | some d =>
    rw [hu] at hf
    cases d with
    | struct fs =>
      simp only at hf
      cases hfd : fs[f]? with
      | none => rw [hfd] at hf; cases hf
      | some fd =>
        rw [hfd] at hf
        simp only [Option.some.injEq, Prod.mk.injEq] at hf
        obtain ⟨rfl, rfl⟩ := hf
        simp [execOp, hE.opv hx, Instr.field, run_underlying hu, hfd, asAgg, part, scB_spec ht, hv]
    | _ => cases hf
theorem r_fieldG {s f off ft m : Nat} {x : Operand} {cs : Array Value} (hE : Env n a l) (hx : opv l x = some (.agg cs)) (hf : fdoB P s f = some (off, ft)) (ht : agB P ft m = true) :
    (execOp a.eval ⟨dst, .field s x f, ty, pos, aft, g⟩).run P w = .ok (.value (.agg (cs.extract off (off + m)))) w := by
  unfold fdoB at hf
  cases hu : P.underlying s with
  | none => rw [hu] at hf; cases hf
  | some d =>
    rw [hu] at hf
    cases d with
    | struct fs =>
      simp only at hf
      cases hfd : fs[f]? with
      | none => rw [hfd] at hf; cases hf
      | some fd =>
        rw [hfd] at hf
        simp only [Option.some.injEq, Prod.mk.injEq] at hf
        obtain ⟨rfl, rfl⟩ := hf
        simp [execOp, hE.opv hx, Instr.field, run_underlying hu, hfd, asAgg, part, agB_spec ht]
    | _ => cases hf
theorem r_indexG {t e q : Nat} {x y : Operand} {cs : Array Value} {k : IntKind} {i : Int} {v : Value} (hE : Env n a l) (hx : opv l x = some (.agg cs)) (hy : opv l y = some (.int k i)) (ht : P.underlying t = some (.array q e)) (hs : szB P e 1 = true) (he : scB P e = true) (hc : 0 ≤ i ∧ i < q ∧ cs[i.toNat]? = some v) :
    (execOp a.eval ⟨dst, .index t x y, ty, pos, aft, g⟩).run P w = .ok (.value v) w := by
  obtain ⟨h0, h1, h2⟩ := hc
  simp [execOp, hE.opv hx, hE.opv hy, Instr.index, asIntOf, run_underlying ht, h0, h1, szB_spec hs, part, scB_spec he, h2]
theorem r_lenM {t kt e ti : Nat} {x : Operand} {m : Option Nat} {r : Int} (hE : Env n a l) (hx : opv l x = some (.map m)) (ht : P.underlying t = some (.map kt e)) (hc : ∃ es, mget w.heap m = some es ∧ r = (es.size : Int)) :
    (execOp a.eval ⟨dst, .call { callee := .builtin .len, args := #[x], argTypes := #[t] }, ti, pos, aft, g⟩).run P w = .ok (.value (.int .i64 r)) w := by
  obtain ⟨es, h1, rfl⟩ := hc
  cases m with
  | none => simp [mget] at h1; subst h1; simp [execOp, resolve, invoke, builtin, Builtin.len_, hE.opv hx, run_underlying ht, goInt]
  | some b =>
    simp only [mget] at h1
    split at h1
    · rename_i es' c hb
      simp only [Option.some.injEq] at h1
      subst h1
      simp [execOp, resolve, invoke, builtin, Builtin.len_, hE.opv hx, run_underlying ht, goInt, getObj_map hb]
    · cases h1
theorem setObj_ok {r : Nat} {o o' : Obj} (h : w.heap[r]? = some o') (hn : ∀ c t f, o' ≠ .cells c t f) : (setObj r o).run P w = .ok () { w with heap := w.heap.set! r o } := by
  simp only [setObj, Sem.run, h, Array.set!]
theorem r_clearM {t kt e ti : Nat} {x : Operand} {m : Option Nat} (hE : Env n a l) (hx : opv l x = some (.map m)) (ht : P.underlying t = some (.map kt e)) (hc : m = none ∨ ∃ r es clock, m = some r ∧ w.heap[r]? = some (.map es clock)) :
    (execOp a.eval ⟨dst, .call { callee := .builtin .clear, args := #[x], argTypes := #[t] }, ti, pos, aft, g⟩).run P w = .ok (.value (.tuple #[])) { w with heap := hcl m w.heap } := by
  rcases hc with rfl | ⟨r, es, clock, rfl, h⟩
  · simp [execOp, resolve, invoke, builtin, Builtin.clear_, hE.opv hx, run_underlying ht, hcl]
  · have hs := setObj_ok (P := P) (w := w) (r := r) (o := .map #[] clock) h (fun c t f hh => by cases hh)
    simp only [hcl, h]
    simp [execOp, resolve, invoke, builtin, Builtin.clear_, hE.opv hx, run_underlying ht, getObj_map h, hs]
theorem r_range {t kt e : Nat} {x : Operand} {m : Option Nat} {p : Addr} (hE : Env n a l) (hx : opv l x = some (.map m)) (ht : P.underlying t = some (.map kt e)) (hc : p = ⟨w.heap.size, 0, none⟩ ∧ (m = none ∨ ∃ r es clock, m = some r ∧ w.heap[r]? = some (.map es clock))) :
    (execOp a.eval ⟨dst, .range t x, ty, pos, aft, g⟩).run P w = .ok (.value (.pointer (some p))) { w with heap := w.heap.push (hit m w.heap) } := by
  obtain ⟨rfl, hc⟩ := hc
  rcases hc with rfl | ⟨r, es, clock, rfl, h⟩
  · simp [execOp, hE.opv hx, Instr.range, run_underlying ht, hit]
  · simp only [hit, h]
    simp [execOp, hE.opv hx, Instr.range, run_underlying ht, getObj_map h]
theorem r_entry {x : Operand} {p : Addr} {r : Value × Value} (hE : Env n a l) (hx : opv l x = some (.pointer (some p)))
    (hc : p.off = 0 ∧ ∃ m since seen clock es stamp e, w.heap[p.block]? = some (.mapIter (some m) since seen clock) ∧ seen.back? = some stamp ∧ w.heap[m]? = some (.map es clock) ∧ es.find? (·.born == stamp) = some e ∧ r = (e.key, e.val)) :
    (execOp a.eval ⟨dst, .entry x, ty, pos, aft, g⟩).run P w = .ok (.value (.tuple #[r.1, r.2])) w := by
  obtain ⟨h0, m, since, seen, clock, es, stamp, e, h1, h2, h3, h4, rfl⟩ := hc
  obtain ⟨b, o, sp⟩ := p
  simp only at h0 h1
  subst h0
  have hg : (getObj b).run P w = .ok (.mapIter (some m) since seen clock) w := by simp only [getObj, Sem.run, h1]
  simp [execOp, hE.opv hx, Instr.entry, hg, h2, getObj_map h3, h4]
theorem nx_run {x : Operand} {p : Addr} {Q : Value → Heap → Prop} (hE : Env n a l) (hx : opv l x = some (.pointer (some p))) (H : (nxM p).wp w.heap Q) :
    ∃ r w1, (execOp a.eval ⟨dst, .next x false, ty, pos, aft, g⟩).run P w = .ok (.value r) w1 ∧ Rest w w1 ∧ Q r w1.heap := by
  obtain ⟨h0, H⟩ := H
  obtain ⟨b, o, sp⟩ := p
  simp only at h0 H
  subst h0
  rcases H with ⟨u, v, z, h1, h2⟩ | ⟨m, since, seen, last, es, clock, h1, h2, h3, h4, h5, h6⟩
  · have hg : (getObj b).run P w = .ok (.mapIter none u v z) w := by simp only [getObj, Sem.run, h1]
    exact ⟨_, w, by simp [execOp, hE.opv hx, Instr.next, hg], ⟨rfl, rfl⟩, h2⟩
  · have hg : (getObj b).run P w = .ok (.mapIter (some m) since seen last) w := by simp only [getObj, Sem.run, h1]
    have hlt : b < w.heap.size := by
      rcases Nat.lt_or_ge b w.heap.size with h | h
      · exact h
      · rw [Array.getElem?_eq_none h] at h1; cases h1
    let left := es.filter fun e => !seen.contains e.born
    let old := left.filter (·.born < since)
    let new := left.filter (·.born ≥ since)
    let cand := (if old.isEmpty then #[none] else #[]) ++ (old ++ new).map some
    have hpos : 0 < cand.size := by
      by_cases ho : old.isEmpty = true
      · simp [cand, ho]; omega
      · have : 0 < old.size := by
          rcases Nat.eq_zero_or_pos old.size with h | h
          · exact absurd (by simpa using Array.eq_empty_of_size_eq_zero h) ho
          · exact h
        simp [cand, ho]; omega
    have hch : ∃ i w', (choose (.mapNext cand.size)).run P w = .ok i w' ∧ i < cand.size ∧ Rest w w' ∧ w'.heap = w.heap := by
      by_cases hf : (Question.mapNext cand.size).forced = true
      · exact ⟨0, w, by simp [hf], hpos, ⟨rfl, rfl⟩, rfl⟩
      · refine ⟨_, { w with drawn := w.drawn + 1 }, by rw [run_choose, if_neg hf], ?_, ⟨rfl, rfl⟩, rfl⟩
        simp only [Question.cut]
        exact Nat.mod_lt _ hpos
    obtain ⟨i, w', hci, hi, hr', hh'⟩ := hch
    have hrun : (execOp a.eval ⟨dst, .next x false, ty, pos, aft, g⟩).run P w = (((match cand[i]? with
      | some (some e) => do setObj b (.mapIter (some m) since (seen.push e.born) clock); pure (.tuple #[.bool true, e.key, e.val])
      | some none => pure (.tuple #[.bool false])
      | none => stuck "Next: no such candidate") : Sem Value).run P w').andThen fun v w'' => .ok (.value v) w'' := by
      have h3' : ¬ ((!seen.isEmpty && !es.isEmpty && es.all (·.born ≥ last)) = true) := by rw [h3]; simp
      simp only [execOp, hE.opv hx, Instr.next, Sem.run_bind, hg, Result.andThen_ok, getObj_map h2]
      rw [if_neg h3']
      simp only [Sem.run_bind, Sem.run_pure, Result.andThen_ok]
      show (((choose (.mapNext cand.size)).run P w).andThen _).andThen _ = _
      rw [hci]
      rfl
    rw [hrun]
    have hget : cand[i]? = some cand[i] := Array.getElem?_eq_getElem hi
    have hmem : cand[i] ∈ cand := Array.getElem_mem hi
    rw [hget]
    cases hc : cand[i] with
    | none =>
      refine ⟨_, w', rfl, hr', ?_⟩
      rw [hh']
      refine h6 fun e he hs => ?_
      rw [hc] at hmem
      simp only [cand, Array.mem_append, Array.mem_map] at hmem
      rcases hmem with hmem | ⟨e', _, he'⟩
      · by_cases ho : old.isEmpty = true
        · have hn : e ∉ old := by
            have : old = #[] := by simpa using ho
            rw [this]; simp
          simp only [old, left, Array.mem_filter] at hn
          simp at hn
          exact hn he (by simpa using hs)
        · simp [ho] at hmem
      · cases he'
    | some e =>
      rw [hc] at hmem
      simp only [cand, Array.mem_append, Array.mem_map] at hmem
      have hme : e ∈ es ∧ seen.contains e.born = false := by
        rcases hmem with hmem | ⟨e', he', hee⟩
        · by_cases ho : old.isEmpty = true
          · simp [ho] at hmem
          · simp [ho] at hmem
        · simp only [Option.some.injEq] at hee
          subst hee
          rcases he' with he' | he'
          · simp only [old, left, Array.mem_filter] at he'
            exact ⟨he'.1.1, by simpa using he'.1.2⟩
          · simp only [new, left, Array.mem_filter] at he'
            exact ⟨he'.1.1, by simpa using he'.1.2⟩
      have hset := setObj_ok (P := P) (w := w') (r := b) (o := .mapIter (some m) since (seen.push e.born) clock) (by rw [hh']; exact h1) (fun c t f hh => by cases hh)
      refine ⟨.tuple #[.bool true, e.key, e.val], { w' with heap := w'.heap.set! b (.mapIter (some m) since (seen.push e.born) clock) }, ?_, ⟨hr'.os, hr'.output⟩, ?_⟩
      · simp only [Sem.run_bind, hset, Result.andThen_ok, Sem.run_pure]
      · show Q _ (w'.heap.set! _ _)
        rw [hh']
        exact h5 e hme.1 hme.2
theorem b2s_run {s d e : Nat} {x : Operand} {u : Sl} {r : ByteArray} (hE : Env n a l) (hx : opv l x = some u.v) (hs : P.underlying s = some (.slice e)) (hd : P.underlying d = some .string) (he : P.underlying e = some (.int .u8))
    (hc : ∃ ns : List UInt8, ns.length = u.len ∧ Reads w.heap u.base (ns.map fun b => Value.int .u8 (b.toNat : Int)) ∧ r = ⟨ns.toArray⟩) :
    (execOp a.eval ⟨dst, .convert s d x, ty, pos, aft, g⟩).run P w = .ok (.value (.string r)) w := by
  obtain ⟨ns, h1, h2, rfl⟩ := hc
  have key : (Conv.bytesToString u.v).run P w = .ok (.string ⟨ns.toArray⟩) w := by
    unfold Sl.v
    cases hb : u.base with
    | none =>
      rw [hb] at h2
      rcases h2 with h2 | ⟨b, hb', _⟩
      · have : ns = [] := by simpa using h2
        subst this
        simp [Conv.bytesToString]; rfl
      · cases hb'
    | some b =>
      have hl : (loadCells b u.len).run P w = .ok ((ns.map fun b => (b.toNat : Int)).map (Value.int .u8)).toArray w := by
        rw [← h1]
        have e : (ns.map fun b => (b.toNat : Int)).map (Value.int .u8) = ns.map fun b => Value.int .u8 (b.toNat : Int) := by rw [List.map_map]; rfl
        rw [e]
        have := run_loadCells_list (P := P) (w := w) b (ns.map fun b => Value.int .u8 (b.toNat : Int)) (fun j v hj => by
          rcases h2 with h2 | ⟨b', hb', hc⟩
          · rw [h2] at hj; simp at hj
          · rw [hb] at hb'; cases hb'; exact hc j v hj)
        simpa using this
      rw [run_bytesToString w b u.len u.cap _ hl]
      congr 2
      have : ∀ (l : List UInt8) (acc : ByteArray), (l.map fun b => (b.toNat : Int)).foldl (fun r n => r.push (UInt8.ofNat n.toNat)) acc = ⟨acc.data ++ l.toArray⟩ := by
        intro l
        induction l with
        | nil => intro acc; simp
        | cons b r ih =>
          intro acc
          simp only [List.map_cons, List.foldl_cons, ih]
          congr 1
          simp [ByteArray.push]
      rw [this]
      simp
  simp [execOp, hE.opv hx, convert, run_underlying hs, run_underlying hd, Sl.v] at key ⊢
  simp [run_underlying he, key]
end ops
end Gx
