/- Own library: a small logic of Lean programs over the model's heap, with the laws that tie Go code to it. No condition. -/
import Derived.Test.YtklegajjmeajiaaGxA
namespace Gx
open Go

/-! ### The heap -/
def hcell (h : Heap) (a : Addr) : Option Value :=
  match h[a.block]? with
  | some (.cells c _ _) => if a.spot.isSome then none else c[a.off]?
  | _ => none
theorem cell_h (w : World) (a : Addr) : w.cell? a = hcell w.heap a := rfl
def hfrozen (h : Heap) (a : Addr) : Bool :=
  match h[a.block]? with
  | some (.cells _ _ (lo, hi)) => lo ≤ a.off && a.off < hi
  | _ => false
theorem frozen_h (w : World) (a : Addr) : w.frozen? a = hfrozen w.heap a := rfl
def hset (h : Heap) (a : Addr) (v : Value) : Heap :=
  h.modify a.block fun
    | .cells c elem frozen => .cells (if a.spot.isSome then c else c.setIfInBounds a.off v) elem frozen
    | o => o
theorem set_h (w : World) (a : Addr) (v : Value) : w.setCell a v = { w with heap := hset w.heap a v } := rfl
def hsetL (h : Heap) (a : Addr) : List Value → Nat → Heap
  | [], _ => h
  | v :: r, i => hsetL (hset h (a.add i) v) a r (i + 1)
def one (v : Value) : Bool := v.oneCell'

/-! ### Typed values -/
structure Sl where
  base : Option Addr
  len : Nat
  cap : Nat
  deriving Inhabited
def Sl.v (s : Sl) : Value := .slice s.base s.len s.cap
def Sl.nil : Sl := ⟨none, 0, 0⟩

/-! ### What is read -/
def ldI (k : IntKind) (a : Addr) : M Int := .get fun h n => hcell h a = some (.int k n)
def ldB (a : Addr) : M Bool := .get fun h b => hcell h a = some (.bool b)
def ldS (a : Addr) : M ByteArray := .get fun h b => hcell h a = some (.string b)
def ldP (a : Addr) : M (Option Addr) := .get fun h p => hcell h a = some (.pointer p)
def ldL (a : Addr) : M Sl := .get fun h s => hcell h a = some s.v
def ldMp (a : Addr) : M (Option Nat) := .get fun h m => hcell h a = some (.map m)
def ldV (a : Addr) : M Value := .get fun h v => hcell h a = some v
def ldG (n : Nat) (a : Addr) : M (Array Value) := .get fun h cs => cs.size = n ∧ ∀ i, i < n → hcell h (a.add i) = cs[i]?
/-! ### What is written -/
def stV (a : Addr) (v : Value) : M Unit := ⟨fun h Q => ∃ r : Unit, ((∃ x, hcell h a = some x) ∧ hfrozen h a = false ∧ one v = true) ∧ Q r (hset h a v), fun hq ⟨r, hp, h⟩ => ⟨r, hp, hq _ _ h⟩⟩
def stG (a : Addr) (cs : Array Value) : M Unit :=
  ⟨fun h Q => ∃ r : Unit, ((∀ i, i < cs.size → (∃ x, hcell h (a.add i) = some x) ∧ hfrozen h (a.add i) = false) ∧ ∀ v ∈ cs.toList, one v = true) ∧ Q r (hsetL h a cs.toList 0), fun hq ⟨r, hp, h⟩ => ⟨r, hp, hq _ _ h⟩⟩
def mkB (t : TypeId) (cs : Array Value) : M Addr := ⟨fun h Q => ∃ r : Addr, r = ⟨h.size, 0, none⟩ ∧ Q r (h.push (.cells cs t)), fun hq ⟨r, hp, h⟩ => ⟨r, hp, hq _ _ h⟩⟩
def mkMap : M (Option Nat) := ⟨fun h Q => ∃ r : Option Nat, r = some h.size ∧ Q r (h.push (.map #[] 0)), fun hq ⟨r, hp, h⟩ => ⟨r, hp, hq _ _ h⟩⟩
/-! ### Addresses, bounds -/
def nilP (p : Option Addr) : M Addr := .get fun _ a => p = some a
def nilV (v : Value) : M Value := .get fun _ r => r = v ∧ v ≠ .nilFunc ∧ v ≠ .nilIface ∧ v ≠ .pointer none ∧ ∀ n x y, v ≠ .func (.method n) x y
def ixL (s : Sl) (i : Int) (sz : Nat) : M Addr := .get fun _ a => 0 ≤ i ∧ i < s.len ∧ ∃ b, s.base = some b ∧ a = b.add (i.toNat * sz)
def ixA (b : Addr) (n : Nat) (i : Int) (sz : Nat) : M Addr := .get fun _ a => 0 ≤ i ∧ i < n ∧ a = b.add (i.toNat * sz)
def ixG (cs : Array Value) (n : Nat) (i : Int) : M Value := .get fun _ v => 0 ≤ i ∧ i < n ∧ cs[i.toNat]? = some v
def ixS (s : ByteArray) (i : Int) : M Int := .get fun _ n => 0 ≤ i ∧ ∃ b, s[i.toNat]? = some b ∧ n = (b.toNat : Int)
def slL (s : Sl) (lo hi : Int) (sz : Nat) : M Sl := .get fun _ r => 0 ≤ lo ∧ lo ≤ hi ∧ hi ≤ s.cap ∧ r = ⟨if s.cap = lo.toNat then s.base else s.base.map (·.add (lo.toNat * sz)), hi.toNat - lo.toNat, s.cap - lo.toNat⟩
def slA (a : Addr) (n : Nat) (lo hi : Int) (sz : Nat) : M Sl := .get fun _ r => 0 ≤ lo ∧ lo ≤ hi ∧ hi ≤ n ∧ r = ⟨some (if n = lo.toNat then a else a.add (lo.toNat * sz)), hi.toNat - lo.toNat, n - lo.toNat⟩
def slS (s : ByteArray) (lo hi : Int) : M ByteArray := .get fun _ r => 0 ≤ lo ∧ lo ≤ hi ∧ hi ≤ s.size ∧ r = s.extract lo.toNat hi.toNat
/-! ### Numbers -/
def iAnd (k : IntKind) (x y : Int) : Int := k.wrap ((BitVec.ofInt k.bits x) &&& (BitVec.ofInt k.bits y)).toNat
def iOr (k : IntKind) (x y : Int) : Int := k.wrap ((BitVec.ofInt k.bits x) ||| (BitVec.ofInt k.bits y)).toNat
def iXor (k : IntKind) (x y : Int) : Int := k.wrap ((BitVec.ofInt k.bits x) ^^^ (BitVec.ofInt k.bits y)).toNat
def iAndNot (k : IntKind) (x y : Int) : Int := k.wrap ((BitVec.ofInt k.bits x) &&& ~~~(BitVec.ofInt k.bits y)).toNat
def iNot (k : IntKind) (x : Int) : Int := iXor k (if k.signed then -1 else k.max) x
def iShl (k : IntKind) (x y : Int) : Int := k.wrap (x * 2 ^ min y.toNat k.bits)
def iShr (k : IntKind) (x y : Int) : Int := x.fdiv (2 ^ min y.toNat k.bits)
def pShl (k : IntKind) (x y : Int) : M Int := .get fun _ r => 0 ≤ y ∧ r = iShl k x y
def pShr (k : IntKind) (x y : Int) : M Int := .get fun _ r => 0 ≤ y ∧ r = iShr k x y
def pQuo (k : IntKind) (x y : Int) : M Int := .get fun _ r => y ≠ 0 ∧ r = k.wrap (x.tdiv y)
def pRem (x y : Int) : M Int := .get fun _ r => y ≠ 0 ∧ r = x.tmod y

/-! ### Closed facts of a program's types -/
def scB (P : Program) (t : TypeId) : Bool := match P.underlying t with
  | some (.struct _) => false
  | some (.array _ _) => false
  | none => false
  | _ => true
def agB (P : Program) (t : TypeId) (n : Nat) : Bool := (match P.underlying t with
  | some (.struct _) => true
  | some (.array _ _) => true
  | _ => false) && (match P.info? t with | some i => Nat.beq i.size n | none => false)
def szB (P : Program) (t : TypeId) (n : Nat) : Bool := match P.info? t with | some i => Nat.beq i.size n | none => false
def fdOff (P : Program) (s f : Nat) : Option Nat := match P.underlying s with
  | some (.struct fs) => match fs[f]? with
    | some fd => match P.info? fd.type with
      | some i => bif Nat.beq i.size 0 then none else some fd.offset
      | none => none
    | none => none
  | _ => none

section runs
variable {P : Program} {w : World}
theorem scB_spec {t : TypeId} (h : scB P t = true) : (isAgg t).run P w = .ok false w := by
  unfold scB at h
  cases hu : P.underlying t with
  | none => rw [hu] at h; cases h
  | some d =>
    rw [hu] at h
    cases d <;> first | (simp at h; done) | simp [isAgg, run_underlying hu]
theorem agB_spec {t : TypeId} {n : Nat} (h : agB P t n = true) : (isAgg t).run P w = .ok true w ∧ (Go.sizeOf t).run P w = .ok n w := by
  unfold agB at h
  simp only [Bool.and_eq_true] at h
  obtain ⟨h1, h2⟩ := h
  constructor
  · cases hu : P.underlying t with
    | none => rw [hu] at h1; cases h1
    | some d =>
      rw [hu] at h1
      cases d <;> first | (simp at h1; done) | simp [isAgg, run_underlying hu]
  · cases hi : P.info? t with
    | none => rw [hi] at h2; cases h2
    | some i => rw [hi] at h2; simp [Go.sizeOf, typeInfo, hi, Nat.eq_of_beq_eq_true h2]
theorem szB_spec {t : TypeId} {n : Nat} (h : szB P t n = true) : (Go.sizeOf t).run P w = .ok n w := by
  unfold szB at h
  cases hi : P.info? t with
  | none => rw [hi] at h; cases h
  | some i => rw [hi] at h; simp [Go.sizeOf, typeInfo, hi, Nat.eq_of_beq_eq_true h]

theorem run_loadVar_sc {t : TypeId} {a : Addr} {v : Value} (ht : scB P t = true) (hc : hcell w.heap a = some v) : (loadVar t a).run P w = .ok v w := by
  unfold loadVar
  simp [scB_spec ht, cell_h, hc]
theorem run_loadVar_ag {t : TypeId} {a : Addr} {n : Nat} {cs : Array Value} (ht : agB P t n = true) (hs : cs.size = n) (hc : ∀ i, i < n → hcell w.heap (a.add i) = cs[i]?) : (loadVar t a).run P w = .ok (.agg cs) w := by
  unfold loadVar
  simp only [Sem.run_bind, agB_spec ht, Result.andThen_ok, if_true]
  have := run_loadCells_list (P := P) (w := w) a cs.toList (fun j v hj => by
    have hlt : j < n := by
      rw [← hs]
      rcases Nat.lt_or_ge j cs.size with h | h
      · exact h
      · simp [h] at hj
    rw [cell_h, hc j hlt]
    simpa using hj)
  have e : cs.toList.length = n := by simpa using hs
  rw [e] at this
  simp [this]
theorem run_store_one {a : Addr} {v x : Value} (hc : hcell w.heap a = some x) (hf : hfrozen w.heap a = false) (h1 : one v = true) : (store a v).run P w = .ok () { w with heap := hset w.heap a v } := by
  rw [run_store P w a v _ h1, cell_h, hc]
  simp only [frozen_h, hf]
  rfl
theorem hcell_hset_isSome (h : Heap) (a b : Addr) (v : Value) : (∃ x, hcell h b = some x) → ∃ x, hcell (hset h a v) b = some x := by
  rintro ⟨x, hx⟩
  exact RowKit.cell?_setCell_some (w := { (default : World) with heap := h }) (p := a) (q := b) (x := v) (v := x) hx
theorem hfrozen_hset (h : Heap) (a b : Addr) (v : Value) : hfrozen (hset h a v) b = hfrozen h b :=
  World.frozen?_setCell (w := { (default : World) with heap := h }) (a := a) (v := v) (b := b)
theorem run_storeCells_h {a : Addr} : ∀ (vs : List Value) (i : Nat) (w : World), (∀ j, j < vs.length → (∃ x, hcell w.heap (a.add (i + j)) = some x) ∧ hfrozen w.heap (a.add (i + j)) = false) → (∀ v ∈ vs, one v = true) →
    (storeCells a vs i).run P w = .ok () { w with heap := hsetL w.heap a vs i }
  | [], i, w, _, _ => rfl
  | v :: r, i, w, hc, h1 => by
    obtain ⟨⟨x, hx⟩, hf⟩ := hc 0 (by simp)
    simp only [storeCells, Sem.run_bind, hsetL]
    rw [run_store_one (a := a.add i) (v := v) hx hf (h1 v (by simp))]
    simp only [Result.andThen_ok]
    refine run_storeCells_h r (i + 1) _ (fun j hj => ?_) (fun v hv => h1 v (by simp [hv]))
    have := hc (j + 1) (by simpa using hj)
    rw [show i + (j + 1) = i + 1 + j from by omega] at this
    exact ⟨hcell_hset_isSome _ _ _ _ this.1, by rw [hfrozen_hset]; exact this.2⟩
theorem run_storeVar_sc {t : TypeId} {a : Addr} {v x : Value} (ht : szB P t 1 = true) (hc : hcell w.heap a = some x) (hf : hfrozen w.heap a = false) (h1 : one v = true) :
    (storeVar t a v).run P w = .ok () { w with heap := hset w.heap a v } := by
  have hv : v.cells = #[v] := by cases v <;> first | rfl | (simp [one, Value.oneCell'] at h1; done)
  unfold storeVar
  simp only [Sem.run_bind, szB_spec ht, Result.andThen_ok, hv]
  simp [storeCells, Addr.add, run_store_one hc hf h1]
theorem run_storeVar_ag {t : TypeId} {a : Addr} {cs : Array Value} (ht : szB P t cs.size = true) (hc : ∀ i, i < cs.size → (∃ x, hcell w.heap (a.add i) = some x) ∧ hfrozen w.heap (a.add i) = false) (h1 : ∀ v ∈ cs.toList, one v = true) :
    (storeVar t a (.agg cs)).run P w = .ok () { w with heap := hsetL w.heap a cs.toList 0 } := by
  unfold storeVar
  simp only [Sem.run_bind, szB_spec ht, Result.andThen_ok, Value.cells]
  simp only [ne_eq, not_true_eq_false, if_false]
  exact run_storeCells_h cs.toList 0 w (fun j hj => by rw [Nat.zero_add]; exact hc j (by simpa using hj)) h1
end runs

/-! ### An operation's operands -/
def opv (l : List (Nat × Value)) : Operand → Option Value
  | .tmp t => look l t
  | .const v => some v
  | .global g => some (.pointer (some ⟨g, 0, none⟩))
  | .func f => some (.func (.func f) #[] #[])
theorem Env.opv {n : Nat} {a : Act} {l : List (Nat × Value)} (hE : Env n a l) {x : Operand} {v : Value} (h : opv l x = some v) : a.eval x = v := by
  cases x with
  | tmp t => exact hE.eval h
  | const c => simp [Gx.opv] at h; exact h
  | global g => simp [Gx.opv] at h; subst h; rfl
  | func f => simp [Gx.opv] at h; subst h; rfl

/-! ### One operation's run -/
section ops
variable {P : Program} {n : Nat} {a : Act} {w : World} {l : List (Nat × Value)} {dst : Option Tmp} {ty : TypeId} {pos : String} {aft : Array Edge} {g : Option (Nat × Bool)}

theorem r_move {x : Operand} {v : Value} (hE : Env n a l) (hx : opv l x = some v) : (execOp a.eval ⟨dst, .move x, ty, pos, aft, g⟩).run P w = .ok (.value v) w := by
  simp [execOp, hE.opv hx]
theorem r_assign {x : Operand} {v : Value} (hE : Env n a l) (hx : opv l x = some v) : (execOp a.eval ⟨dst, .assign x, ty, pos, aft, g⟩).run P w = .ok (.value v) w := by
  simp [execOp, hE.opv hx]
theorem r_pick_t {c x y : Operand} {v : Value} (hE : Env n a l) (hc : opv l c = some (.bool true)) (hx : opv l x = some v) : (execOp a.eval ⟨dst, .pick c x y, ty, pos, aft, g⟩).run P w = .ok (.value v) w := by
  simp [execOp, hE.opv hc, hE.opv hx, asBool]
theorem r_pick_f {c x y : Operand} {v : Value} (hE : Env n a l) (hc : opv l c = some (.bool false)) (hy : opv l y = some v) : (execOp a.eval ⟨dst, .pick c x y, ty, pos, aft, g⟩).run P w = .ok (.value v) w := by
  simp [execOp, hE.opv hc, hE.opv hy, asBool]
theorem r_alloc {t : TypeId} {z : Value} {p : Addr} (hz : ((P.info? t).bind (·.zero)) = some z) (hp : p = ⟨w.heap.size, 0, none⟩) :
    (execOp a.eval ⟨dst, .alloc t, ty, pos, aft, g⟩).run P w = .ok (.value (.pointer (some p))) { w with heap := w.heap.push (.cells z.cells t) } := by
  subst hp
  cases hi : P.info? t with
  | none => rw [hi] at hz; cases hz
  | some i =>
    rw [hi] at hz
    simp at hz
    simp [execOp, Instr.alloc, zeroValue, typeInfo, hi, hz, newVar, newRow]
theorem r_box {t : TypeId} {x : Operand} {v : Value} {p : Addr} (hE : Env n a l) (hx : opv l x = some v) (hp : p = ⟨w.heap.size, 0, none⟩) :
    (execOp a.eval ⟨dst, .box t x, ty, pos, aft, g⟩).run P w = .ok (.value (.pointer (some p))) { w with heap := w.heap.push (.cells v.cells t) } := by
  subst hp
  simp [execOp, hE.opv hx, Instr.box, newVar, newRow]
theorem r_load {t : TypeId} {x : Operand} {p : Addr} {v : Value} (hE : Env n a l) (hx : opv l x = some (.pointer (some p))) (ht : scB P t = true) (hc : hcell w.heap p = some v) :
    (execOp a.eval ⟨dst, .load t x, ty, pos, aft, g⟩).run P w = .ok (.value v) w := by
  simp [execOp, hE.opv hx, Instr.loadAt, Instr.sureAddr, run_loadVar_sc ht hc]
theorem r_loadG {t : TypeId} {x : Operand} {p : Addr} {m : Nat} {cs : Array Value} (hE : Env n a l) (hx : opv l x = some (.pointer (some p))) (ht : agB P t m = true) (hc : cs.size = m ∧ ∀ i, i < m → hcell w.heap (p.add i) = cs[i]?) :
    (execOp a.eval ⟨dst, .load t x, ty, pos, aft, g⟩).run P w = .ok (.value (.agg cs)) w := by
  simp [execOp, hE.opv hx, Instr.loadAt, Instr.sureAddr, run_loadVar_ag ht hc.1 hc.2]
theorem r_store {t : TypeId} {x y : Operand} {p : Addr} {v : Value} (hE : Env n a l) (hx : opv l x = some (.pointer (some p))) (hy : opv l y = some v) (ht : szB P t 1 = true)
    (hc : (∃ x, hcell w.heap p = some x) ∧ hfrozen w.heap p = false ∧ one v = true) :
    (execOp a.eval ⟨dst, .store t x y, ty, pos, aft, g⟩).run P w = .ok .skip { w with heap := hset w.heap p v } := by
  obtain ⟨⟨z, hz⟩, hf, h1⟩ := hc
  simp [execOp, hE.opv hx, hE.opv hy, Instr.storeAt, Instr.sureAddr, run_storeVar_sc ht hz hf h1]
theorem r_storeG {t : TypeId} {x y : Operand} {p : Addr} {cs : Array Value} {m : Nat} (hE : Env n a l) (hx : opv l x = some (.pointer (some p))) (hy : opv l y = some (.agg cs)) (ht : szB P t m = true) (hm : cs.size = m)
    (hc : (∀ i, i < cs.size → (∃ x, hcell w.heap (p.add i) = some x) ∧ hfrozen w.heap (p.add i) = false) ∧ ∀ v ∈ cs.toList, one v = true) :
    (execOp a.eval ⟨dst, .store t x y, ty, pos, aft, g⟩).run P w = .ok .skip { w with heap := hsetL w.heap p cs.toList 0 } := by
  subst hm
  simp [execOp, hE.opv hx, hE.opv hy, Instr.storeAt, Instr.sureAddr, run_storeVar_ag ht hc.1 hc.2]
theorem r_nilCheck {x : Operand} {p : Addr} (hE : Env n a l) (hx : opv l x = some (.pointer (some p))) : (execOp a.eval ⟨dst, .nilCheck x, ty, pos, aft, g⟩).run P w = .ok (.value (.pointer (some p))) w := by
  simp [execOp, hE.opv hx]
theorem r_fieldAddr {s f off : Nat} {x : Operand} {p : Addr} (hE : Env n a l) (hx : opv l x = some (.pointer (some p))) (hf : fdOff P s f = some off) :
    (execOp a.eval ⟨dst, .fieldAddr s x f, ty, pos, aft, g⟩).run P w = .ok (.value (.pointer (some (p.add off)))) w := by
  unfold fdOff at hf
  cases hu : P.underlying s with
  | none => rw [hu] at hf; cases hf
  | some d =>
    rw [hu] at hf
    cases d with
    | struct fs =>
      simp only at hf
      cases hfd : fs[f]? with
      | none => rw [hfd] at hf; cases hf
      | some fd =>
        rw [hfd] at hf
        simp only at hf
        cases hi : P.info? fd.type with
        | none => rw [hi] at hf; cases hf
        | some i =>
          rw [hi] at hf
          simp only at hf
          cases hb : Nat.beq i.size 0 with
          | true => rw [hb] at hf; cases hf
          | false =>
            rw [hb] at hf
            simp only [cond_false, Option.some.injEq] at hf
            subst hf
            have hne : ¬ i.size = 0 := fun h => by rw [h] at hb; cases hb
            simp [execOp, hE.opv hx, Instr.fieldAt, run_underlying hu, hfd, Instr.sureAddr, fieldPlace, Go.sizeOf, typeInfo, hi, hne]
    | _ => cases hf
theorem r_indexAddrL {t e m : Nat} {x y : Operand} {s : Sl} {k : IntKind} {i : Int} {p : Addr} (hE : Env n a l) (hx : opv l x = some s.v) (hy : opv l y = some (.int k i)) (ht : P.underlying t = some (.slice e)) (he : szB P e m = true)
    (hc : 0 ≤ i ∧ i < s.len ∧ ∃ b, s.base = some b ∧ p = b.add (i.toNat * m)) : (execOp a.eval ⟨dst, .indexAddr t x y, ty, pos, aft, g⟩).run P w = .ok (.value (.pointer (some p))) w := by
  obtain ⟨h0, h1, b, hb, rfl⟩ := hc
  simp [execOp, hE.opv hx, hE.opv hy, Instr.indexAt, asIntOf, run_underlying ht, Sl.v, hb, h0, h1, szB_spec he]
theorem r_indexAddrA {t e m q : Nat} {x y : Operand} {b : Addr} {k : IntKind} {i : Int} {p : Addr} (hE : Env n a l) (hx : opv l x = some (.pointer (some b))) (hy : opv l y = some (.int k i)) (ht : P.underlying t = some (.array q e)) (he : szB P e m = true)
    (hc : 0 ≤ i ∧ i < q ∧ p = b.add (i.toNat * m)) : (execOp a.eval ⟨dst, .indexAddr t x y, ty, pos, aft, g⟩).run P w = .ok (.value (.pointer (some p))) w := by
  obtain ⟨h0, h1, rfl⟩ := hc
  simp [execOp, hE.opv hx, hE.opv hy, Instr.indexAt, asIntOf, run_underlying ht, Instr.sureAddr, h0, h1, szB_spec he]
theorem r_indexS {t : Nat} {x y : Operand} {s : ByteArray} {k : IntKind} {i r : Int} (hE : Env n a l) (hx : opv l x = some (.string s)) (hy : opv l y = some (.int k i)) (ht : P.underlying t = some .string)
    (hc : 0 ≤ i ∧ ∃ b, s[i.toNat]? = some b ∧ r = (b.toNat : Int)) : (execOp a.eval ⟨dst, .index t x y, ty, pos, aft, g⟩).run P w = .ok (.value (.int .u8 r)) w := by
  obtain ⟨h0, b, hb, rfl⟩ := hc
  simp [execOp, hE.opv hx, hE.opv hy, Instr.index, asIntOf, run_underlying ht, h0, hb]
theorem r_len {t ti : Nat} {x : Operand} {s : Sl} (hE : Env n a l) (hx : opv l x = some s.v) (e : Nat) (ht : P.underlying t = some (.slice e)) :
    (execOp a.eval ⟨dst, .call { callee := .builtin .len, args := #[x], argTypes := #[t] }, ti, pos, aft, g⟩).run P w = .ok (.value (.int .i64 s.len)) w := by
  simp [execOp, resolve, invoke, builtin, Builtin.len_, hE.opv hx, run_underlying ht, Sl.v, goInt]
theorem r_lenS {t ti : Nat} {x : Operand} {s : ByteArray} (hE : Env n a l) (hx : opv l x = some (.string s)) (ht : P.underlying t = some .string) :
    (execOp a.eval ⟨dst, .call { callee := .builtin .len, args := #[x], argTypes := #[t] }, ti, pos, aft, g⟩).run P w = .ok (.value (.int .i64 s.size)) w := by
  simp [execOp, resolve, invoke, builtin, Builtin.len_, hE.opv hx, run_underlying ht, goInt]
theorem r_convI {s d : Nat} {x : Operand} {k k' : IntKind} {i : Int} {ds : TypeDesc} (hE : Env n a l) (hx : opv l x = some (.int k i)) (hs : P.underlying s = some ds) (hd : P.underlying d = some (.int k')) :
    (execOp a.eval ⟨dst, .convert s d x, ty, pos, aft, g⟩).run P w = .ok (.value (.int k' (k'.wrap i))) w := by
  simp [execOp, hE.opv hx, convert, run_underlying hs, run_underlying hd, Conv.intToInt]
theorem r_extract {x : Operand} {vs : Array Value} {i : Nat} {v : Value} (hE : Env n a l) (hx : opv l x = some (.tuple vs)) (hv : vs[i]? = some v) : (execOp a.eval ⟨dst, .extract x i, ty, pos, aft, g⟩).run P w = .ok (.value v) w := by
  simp [execOp, hE.opv hx, Instr.extract, hv]
theorem r_bin {op : BinOp} {xt yt : Nat} {x y : Operand} {u v r : Value} (hE : Env n a l) (hx : opv l x = some u) (hy : opv l y = some v) (hg : (eqGuard op xt x y u v).run P w = .ok () w) (hr : (binOp op xt u v).run P w = .ok r w) :
    (execOp a.eval ⟨dst, .binOp op xt x y yt, ty, pos, aft, g⟩).run P w = .ok (.value r) w := by
  simp [execOp, hE.opv hx, hE.opv hy, hg, hr]
theorem g_int {op : BinOp} {xt : Nat} {x y : Operand} {k k' : IntKind} {u v : Int} : (eqGuard op xt x y (.int k u) (.int k' v)).run P w = .ok () w := by
  cases op <;> simp [eqGuard]
theorem r_un {op : UnOp} {t : Nat} {x : Operand} {u r : Value} (hE : Env n a l) (hx : opv l x = some u) (hr : (Op.unary op u).run P w = .ok r w) :
    (execOp a.eval ⟨dst, .unOp op t x, ty, pos, aft, g⟩).run P w = .ok (.value r) w := by
  simp [execOp, hE.opv hx, hr]
end ops
section bins
variable {P : Program} {w : World} {t : TypeId} {k : IntKind} {x y : Int}
theorem b_add : (binOp .add t (.int k x) (.int k y)).run P w = .ok (.int k (k.wrap (x + y))) w := by simp [binOp, Op.intArith]
theorem b_sub : (binOp .sub t (.int k x) (.int k y)).run P w = .ok (.int k (k.wrap (x - y))) w := by simp [binOp, Op.intArith]
theorem b_mul : (binOp .mul t (.int k x) (.int k y)).run P w = .ok (.int k (k.wrap (x * y))) w := by simp [binOp, Op.intArith]
theorem b_and : (binOp .and t (.int k x) (.int k y)).run P w = .ok (.int k (iAnd k x y)) w := by simp [binOp, Op.intBits, iAnd]
theorem b_or : (binOp .or t (.int k x) (.int k y)).run P w = .ok (.int k (iOr k x y)) w := by simp [binOp, Op.intBits, iOr]
theorem b_xor : (binOp .xor t (.int k x) (.int k y)).run P w = .ok (.int k (iXor k x y)) w := by simp [binOp, Op.intBits, iXor]
theorem b_andNot : (binOp .andNot t (.int k x) (.int k y)).run P w = .ok (.int k (iAndNot k x y)) w := by simp [binOp, Op.intBits, iAndNot]
theorem b_eql : (binOp .eql t (.int k x) (.int k y)).run P w = .ok (.bool (x == y)) w := by simp [binOp, Op.intCmp]
theorem b_neq : (binOp .neq t (.int k x) (.int k y)).run P w = .ok (.bool (x != y)) w := by simp [binOp, Op.intCmp]
theorem b_lss : (binOp .lss t (.int k x) (.int k y)).run P w = .ok (.bool (decide (x < y))) w := by simp [binOp, Op.intCmp]
theorem b_leq : (binOp .leq t (.int k x) (.int k y)).run P w = .ok (.bool (decide (x ≤ y))) w := by simp [binOp, Op.intCmp]
theorem b_gtr : (binOp .gtr t (.int k x) (.int k y)).run P w = .ok (.bool (decide (y < x))) w := by simp [binOp, Op.intCmp]
theorem b_geq : (binOp .geq t (.int k x) (.int k y)).run P w = .ok (.bool (decide (y ≤ x))) w := by simp [binOp, Op.intCmp]
theorem b_shl {k' : IntKind} {r : Int} (h : 0 ≤ y ∧ r = iShl k x y) : (binOp .shl t (.int k x) (.int k' y)).run P w = .ok (.int k r) w := by
  obtain ⟨h0, rfl⟩ := h
  have : ¬ y < 0 := by omega
  simp [binOp, Op.shift, this, iShl]
theorem b_shr {k' : IntKind} {r : Int} (h : 0 ≤ y ∧ r = iShr k x y) : (binOp .shr t (.int k x) (.int k' y)).run P w = .ok (.int k r) w := by
  obtain ⟨h0, rfl⟩ := h
  have : ¬ y < 0 := by omega
  simp [binOp, Op.shift, this, iShr]
theorem b_quo {r : Int} (h : y ≠ 0 ∧ r = k.wrap (x.tdiv y)) : (binOp .quo t (.int k x) (.int k y)).run P w = .ok (.int k r) w := by
  obtain ⟨h0, rfl⟩ := h
  simp [binOp, Op.intDiv, h0]
theorem b_rem {r : Int} (h : y ≠ 0 ∧ r = x.tmod y) : (binOp .rem t (.int k x) (.int k y)).run P w = .ok (.int k r) w := by
  obtain ⟨h0, rfl⟩ := h
  simp [binOp, Op.intDiv, h0]
theorem u_not {b : Bool} : (Op.unary .not (.bool b)).run P w = .ok (.bool !b) w := by simp [Op.unary]
theorem u_xor : (Op.unary .xor (.int k x)).run P w = .ok (.int k (iNot k x)) w := by simp [Op.unary, Op.intBits, iNot, iXor]
theorem u_neg : (Op.unary .neg (.int k x)).run P w = .ok (.int k (k.wrap (0 - x))) w := by simp [Op.unary, Op.intArith]
end bins
end Gx
