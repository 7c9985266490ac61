/- Own library: a small logic of Lean programs over the model's heap, with the laws that tie Go code to it. No condition. -/
import Derived.Test.YtklegajjmeajiaaGxD
namespace Gx
open Go

section ops
variable {P : Program} {n : Nat} {a : Act} {w : World} {l : List (Nat × Value)} {dst : Option Tmp} {ty : TypeId} {pos : String} {aft : Array Edge} {g : Option (Nat × Bool)}

theorem hx_eq {l : List (Nat × Value)} {x : Operand} {u v : Value} (h : opv l x = some u) (e : u = v) : opv l x = some v := e ▸ h

/-! slices -/
theorem sb_ok {x : Value} {y : Nat} {c : BoundsCode} {k : IntKind} {i : Int} (hx : x = .int k i) (h0 : 0 ≤ i) (h1 : i ≤ y) : (Instr.sliceBound x y c).run P w = .ok i.toNat w := by
  subst hx
  simp [Instr.sliceBound, asIntOf, h0, h1]
theorem sbs_lh {b : Bool} {len cap : Nat} {k k' : IntKind} {lo hi : Int} (h0 : 0 ≤ lo) (h1 : lo ≤ hi) (h2 : hi ≤ cap) : (Instr.sliceBounds b len cap (some (.int k lo)) (some (.int k' hi)) none).run P w = .ok (lo.toNat, hi.toNat, cap) w := by
  have e : lo ≤ ((hi.toNat : Nat) : Int) := by omega
  simp [Instr.sliceBounds, sb_ok rfl (by omega : 0 ≤ hi) h2, sb_ok rfl h0 e]
theorem sbs_h {b : Bool} {len cap : Nat} {k' : IntKind} {hi : Int} (h1 : 0 ≤ hi) (h2 : hi ≤ cap) : (Instr.sliceBounds b len cap none (some (.int k' hi)) none).run P w = .ok (0, hi.toNat, cap) w := by
  simp [Instr.sliceBounds, sb_ok rfl h1 h2]
theorem sbs_l {b : Bool} {len cap : Nat} {k : IntKind} {lo : Int} (h0 : 0 ≤ lo) (h1 : lo ≤ len) : (Instr.sliceBounds b len cap (some (.int k lo)) none none).run P w = .ok (lo.toNat, len, cap) w := by
  simp [Instr.sliceBounds, sb_ok rfl h0 h1]
theorem sbs_ {b : Bool} {len cap : Nat} : (Instr.sliceBounds b len cap none none none).run P w = .ok (0, len, cap) w := by
  simp [Instr.sliceBounds]

theorem add_zero (a : Addr) : a.add 0 = a := rfl

theorem r_sliceA_lh {t q e m : Nat} {x y z : Operand} {p : Addr} {k k' : IntKind} {lo hi : Int} {r : Sl} (hE : Env n a l) (hx : opv l x = some (.pointer (some p))) (hy : opv l y = some (.int k lo)) (hz : opv l z = some (.int k' hi)) (ht : P.underlying t = some (.array q e)) (hm : szB P e m = true)
    (hc : 0 ≤ lo ∧ lo ≤ hi ∧ hi ≤ q ∧ r = ⟨some (if q = lo.toNat then p else p.add (lo.toNat * m)), hi.toNat - lo.toNat, q - lo.toNat⟩) :
    (execOp a.eval ⟨dst, .slice t x (some y) (some z) none, ty, pos, aft, g⟩).run P w = .ok (.value r.v) w := by
  obtain ⟨h0, h1, h2, rfl⟩ := hc
  simp [execOp, hE.opv hx, hE.opv hy, hE.opv hz, Instr.sliceAt, run_underlying ht, Instr.sureAddr, sbs_lh h0 h1 h2, szB_spec hm, Sl.v]
theorem r_sliceA_h {t q e m : Nat} {x z : Operand} {p : Addr} {k' : IntKind} {hi : Int} {r : Sl} (hE : Env n a l) (hx : opv l x = some (.pointer (some p))) (hz : opv l z = some (.int k' hi)) (ht : P.underlying t = some (.array q e)) (hm : szB P e m = true)
    (hc : (0 : Int) ≤ 0 ∧ 0 ≤ hi ∧ hi ≤ q ∧ r = ⟨some (if q = (0 : Int).toNat then p else p.add ((0 : Int).toNat * m)), hi.toNat - (0 : Int).toNat, q - (0 : Int).toNat⟩) :
    (execOp a.eval ⟨dst, .slice t x none (some z) none, ty, pos, aft, g⟩).run P w = .ok (.value r.v) w := by
  obtain ⟨h0, h1, h2, rfl⟩ := hc
  simp [execOp, hE.opv hx, hE.opv hz, Instr.sliceAt, run_underlying ht, Instr.sureAddr, sbs_h h1 h2, szB_spec hm, Sl.v]
theorem r_sliceA_l {t q e m : Nat} {x y : Operand} {p : Addr} {k : IntKind} {lo : Int} {r : Sl} (hE : Env n a l) (hx : opv l x = some (.pointer (some p))) (hy : opv l y = some (.int k lo)) (ht : P.underlying t = some (.array q e)) (hm : szB P e m = true)
    (hc : 0 ≤ lo ∧ lo ≤ (q : Int) ∧ (q : Int) ≤ q ∧ r = ⟨some (if q = lo.toNat then p else p.add (lo.toNat * m)), (q : Int).toNat - lo.toNat, q - lo.toNat⟩) :
    (execOp a.eval ⟨dst, .slice t x (some y) none none, ty, pos, aft, g⟩).run P w = .ok (.value r.v) w := by
  obtain ⟨h0, h1, h2, rfl⟩ := hc
  simp [execOp, hE.opv hx, hE.opv hy, Instr.sliceAt, run_underlying ht, Instr.sureAddr, sbs_l h0 h1, szB_spec hm, Sl.v]
theorem r_sliceA_ {t q e m : Nat} {x : Operand} {p : Addr} {r : Sl} (hE : Env n a l) (hx : opv l x = some (.pointer (some p))) (ht : P.underlying t = some (.array q e)) (hm : szB P e m = true)
    (hc : (0 : Int) ≤ 0 ∧ (0 : Int) ≤ (q : Int) ∧ (q : Int) ≤ q ∧ r = ⟨some (if q = (0 : Int).toNat then p else p.add ((0 : Int).toNat * m)), (q : Int).toNat - (0 : Int).toNat, q - (0 : Int).toNat⟩) :
    (execOp a.eval ⟨dst, .slice t x none none none, ty, pos, aft, g⟩).run P w = .ok (.value r.v) w := by
  obtain ⟨h0, h1, h2, rfl⟩ := hc
  simp [execOp, hE.opv hx, Instr.sliceAt, run_underlying ht, Instr.sureAddr, sbs_, szB_spec hm, Sl.v]
theorem r_sliceL_lh {t e m : Nat} {x y z : Operand} {s : Sl} {k k' : IntKind} {lo hi : Int} {r : Sl} (hE : Env n a l) (hx : opv l x = some s.v) (hy : opv l y = some (.int k lo)) (hz : opv l z = some (.int k' hi)) (ht : P.underlying t = some (.slice e)) (hm : szB P e m = true)
    (hc : 0 ≤ lo ∧ lo ≤ hi ∧ hi ≤ s.cap ∧ r = ⟨if s.cap = lo.toNat then s.base else s.base.map (·.add (lo.toNat * m)), hi.toNat - lo.toNat, s.cap - lo.toNat⟩) :
    (execOp a.eval ⟨dst, .slice t x (some y) (some z) none, ty, pos, aft, g⟩).run P w = .ok (.value r.v) w := by
  obtain ⟨h0, h1, h2, rfl⟩ := hc
  simp [execOp, hE.opv hx, hE.opv hy, hE.opv hz, Instr.sliceAt, Instr.slice, run_underlying ht, sbs_lh h0 h1 h2, szB_spec hm, Sl.v]
theorem r_sliceL_h {t e m : Nat} {x z : Operand} {s : Sl} {k' : IntKind} {hi : Int} {r : Sl} (hE : Env n a l) (hx : opv l x = some s.v) (hz : opv l z = some (.int k' hi)) (ht : P.underlying t = some (.slice e)) (hm : szB P e m = true)
    (hc : (0 : Int) ≤ 0 ∧ 0 ≤ hi ∧ hi ≤ s.cap ∧ r = ⟨if s.cap = (0 : Int).toNat then s.base else s.base.map (·.add ((0 : Int).toNat * m)), hi.toNat - (0 : Int).toNat, s.cap - (0 : Int).toNat⟩) :
    (execOp a.eval ⟨dst, .slice t x none (some z) none, ty, pos, aft, g⟩).run P w = .ok (.value r.v) w := by
  obtain ⟨h0, h1, h2, rfl⟩ := hc
  simp [execOp, hE.opv hx, hE.opv hz, Instr.sliceAt, Instr.slice, run_underlying ht, sbs_h h1 h2, szB_spec hm, Sl.v]
theorem r_sliceL_l {t e m : Nat} {x y : Operand} {s : Sl} {k : IntKind} {lo : Int} {r : Sl} (hE : Env n a l) (hx : opv l x = some s.v) (hy : opv l y = some (.int k lo)) (ht : P.underlying t = some (.slice e)) (hm : szB P e m = true)
    (hc : 0 ≤ lo ∧ lo ≤ (s.len : Int) ∧ (s.len : Int) ≤ s.cap ∧ r = ⟨if s.cap = lo.toNat then s.base else s.base.map (·.add (lo.toNat * m)), (s.len : Int).toNat - lo.toNat, s.cap - lo.toNat⟩) :
    (execOp a.eval ⟨dst, .slice t x (some y) none none, ty, pos, aft, g⟩).run P w = .ok (.value r.v) w := by
  obtain ⟨h0, h1, h2, rfl⟩ := hc
  simp [execOp, hE.opv hx, hE.opv hy, Instr.sliceAt, Instr.slice, run_underlying ht, sbs_l h0 h1, szB_spec hm, Sl.v]
theorem r_sliceL_ {t e m : Nat} {x : Operand} {s : Sl} {r : Sl} (hE : Env n a l) (hx : opv l x = some s.v) (ht : P.underlying t = some (.slice e)) (hm : szB P e m = true)
    (hc : (0 : Int) ≤ 0 ∧ (0 : Int) ≤ (s.len : Int) ∧ (s.len : Int) ≤ s.cap ∧ r = ⟨if s.cap = (0 : Int).toNat then s.base else s.base.map (·.add ((0 : Int).toNat * m)), (s.len : Int).toNat - (0 : Int).toNat, s.cap - (0 : Int).toNat⟩) :
    (execOp a.eval ⟨dst, .slice t x none none none, ty, pos, aft, g⟩).run P w = .ok (.value r.v) w := by
  obtain ⟨h0, h1, h2, rfl⟩ := hc
  simp [execOp, hE.opv hx, Instr.sliceAt, Instr.slice, run_underlying ht, sbs_, szB_spec hm, Sl.v]
theorem r_sliceS_lh {t : Nat} {x y z : Operand} {s : ByteArray} {k k' : IntKind} {lo hi : Int} {r : ByteArray} (hE : Env n a l) (hx : opv l x = some (.string s)) (hy : opv l y = some (.int k lo)) (hz : opv l z = some (.int k' hi)) (ht : P.underlying t = some .string)
    (hc : 0 ≤ lo ∧ lo ≤ hi ∧ hi ≤ s.size ∧ r = s.extract lo.toNat hi.toNat) :
    (execOp a.eval ⟨dst, .slice t x (some y) (some z) none, ty, pos, aft, g⟩).run P w = .ok (.value (.string r)) w := by
  obtain ⟨h0, h1, h2, rfl⟩ := hc
  simp [execOp, hE.opv hx, hE.opv hy, hE.opv hz, Instr.sliceAt, Instr.slice, run_underlying ht, sbs_lh h0 h1 h2]
theorem r_sliceS_h {t : Nat} {x z : Operand} {s : ByteArray} {k' : IntKind} {hi : Int} {r : ByteArray} (hE : Env n a l) (hx : opv l x = some (.string s)) (hz : opv l z = some (.int k' hi)) (ht : P.underlying t = some .string)
    (hc : (0 : Int) ≤ 0 ∧ 0 ≤ hi ∧ hi ≤ s.size ∧ r = s.extract (0 : Int).toNat hi.toNat) :
    (execOp a.eval ⟨dst, .slice t x none (some z) none, ty, pos, aft, g⟩).run P w = .ok (.value (.string r)) w := by
  obtain ⟨h0, h1, h2, rfl⟩ := hc
  simp [execOp, hE.opv hx, hE.opv hz, Instr.sliceAt, Instr.slice, run_underlying ht, sbs_h h1 h2]
theorem r_sliceS_l {t : Nat} {x y : Operand} {s : ByteArray} {k : IntKind} {lo : Int} {r : ByteArray} (hE : Env n a l) (hx : opv l x = some (.string s)) (hy : opv l y = some (.int k lo)) (ht : P.underlying t = some .string)
    (hc : 0 ≤ lo ∧ lo ≤ (s.size : Int) ∧ (s.size : Int) ≤ s.size ∧ r = s.extract lo.toNat (s.size : Int).toNat) :
    (execOp a.eval ⟨dst, .slice t x (some y) none none, ty, pos, aft, g⟩).run P w = .ok (.value (.string r)) w := by
  obtain ⟨h0, h1, h2, rfl⟩ := hc
  simp [execOp, hE.opv hx, hE.opv hy, Instr.sliceAt, Instr.slice, run_underlying ht, sbs_l h0 h1]

/-! comparisons with nil; of bools; of strings -/
theorem g_ptr {op : BinOp} {xt : Nat} {x y : Operand} {u v : Option Addr} : (eqGuard op xt x y (.pointer u) (.pointer v)).run P w = .ok () w := by cases op <;> simp [eqGuard]
theorem g_sl {op : BinOp} {xt : Nat} {x y : Operand} {u v : Sl} : (eqGuard op xt x y u.v v.v).run P w = .ok () w := by cases op <;> simp [eqGuard, Sl.v]
theorem g_mp {op : BinOp} {xt : Nat} {x y : Operand} {u v : Option Nat} : (eqGuard op xt x y (.map u) (.map v)).run P w = .ok () w := by cases op <;> simp [eqGuard]
theorem g_bool {op : BinOp} {xt : Nat} {x y : Operand} {u v : Bool} : (eqGuard op xt x y (.bool u) (.bool v)).run P w = .ok () w := by cases op <;> simp [eqGuard]
theorem g_str {op : BinOp} {xt : Nat} {x y : Operand} {u v : ByteArray} : (eqGuard op xt x y (.string u) (.string v)).run P w = .ok () w := by cases op <;> simp [eqGuard]
theorem eqd {t : Nat} {x y : Value} {b : Bool} (h : ∀ d, (Op.equalIn (d + 1) t x y).run P w = .ok b w) : (Op.equal t x y).run P w = .ok b w := h 9999
theorem bin_eql {t : Nat} {x y : Value} {b : Bool} (he : binOp .eql t x y = (do pure (.bool (← Op.equal t x y)))) (h : ∀ d, (Op.equalIn (d + 1) t x y).run P w = .ok b w) : (binOp .eql t x y).run P w = .ok (.bool b) w := by
  rw [he, Sem.run_bind, eqd h]
  rfl
theorem bin_neq {t : Nat} {x y : Value} {b : Bool} (he : binOp .neq t x y = (do pure (.bool (!(← Op.equal t x y))))) (h : ∀ d, (Op.equalIn (d + 1) t x y).run P w = .ok b w) : (binOp .neq t x y).run P w = .ok (.bool !b) w := by
  rw [he, Sem.run_bind, eqd h]
  rfl
theorem e_ptr {t e : Nat} {p : Option Addr} (ht : P.underlying t = some (.pointer e)) (d : Nat) : (Op.equalIn (d + 1) t (.pointer p) (.pointer none)).run P w = .ok p.isNone w := by
  cases p <;> simp [Op.equalIn, run_underlying ht]
theorem b_eqlP {t e : Nat} {p : Option Addr} (ht : P.underlying t = some (.pointer e)) : (binOp .eql t (.pointer p) (.pointer none)).run P w = .ok (.bool p.isNone) w := bin_eql rfl (e_ptr ht)
theorem b_neqP {t e : Nat} {p : Option Addr} (ht : P.underlying t = some (.pointer e)) : (binOp .neq t (.pointer p) (.pointer none)).run P w = .ok (.bool !p.isNone) w := bin_neq rfl (e_ptr ht)
theorem e_sl {t e : Nat} {s : Sl} (ht : P.underlying t = some (.slice e)) (d : Nat) : (Op.equalIn (d + 1) t s.v Sl.nil.v).run P w = .ok s.base.isNone w := by
  obtain ⟨b, n, c⟩ := s
  cases b <;> simp [Op.equalIn, run_underlying ht, Sl.v, Sl.nil]
theorem b_eqlL {t e : Nat} {s : Sl} (ht : P.underlying t = some (.slice e)) : (binOp .eql t s.v Sl.nil.v).run P w = .ok (.bool s.base.isNone) w := bin_eql rfl (e_sl ht)
theorem b_neqL {t e : Nat} {s : Sl} (ht : P.underlying t = some (.slice e)) : (binOp .neq t s.v Sl.nil.v).run P w = .ok (.bool !s.base.isNone) w := bin_neq rfl (e_sl ht)
theorem e_mp {t k e : Nat} {m : Option Nat} (ht : P.underlying t = some (.map k e)) (d : Nat) : (Op.equalIn (d + 1) t (.map m) (.map none)).run P w = .ok m.isNone w := by
  cases m <;> simp [Op.equalIn, run_underlying ht]
theorem b_eqlM {t k e : Nat} {m : Option Nat} (ht : P.underlying t = some (.map k e)) : (binOp .eql t (.map m) (.map none)).run P w = .ok (.bool m.isNone) w := bin_eql rfl (e_mp ht)
theorem b_neqM {t k e : Nat} {m : Option Nat} (ht : P.underlying t = some (.map k e)) : (binOp .neq t (.map m) (.map none)).run P w = .ok (.bool !m.isNone) w := bin_neq rfl (e_mp ht)
theorem e_bool {t : Nat} {x y : Bool} (ht : P.underlying t = some .bool) (d : Nat) : (Op.equalIn (d + 1) t (.bool x) (.bool y)).run P w = .ok (x == y) w := by
  simp [Op.equalIn, run_underlying ht]
theorem b_eqlB {t : Nat} {x y : Bool} (ht : P.underlying t = some .bool) : (binOp .eql t (.bool x) (.bool y)).run P w = .ok (.bool (x == y)) w := bin_eql rfl (e_bool ht)
theorem b_neqB {t : Nat} {x y : Bool} (ht : P.underlying t = some .bool) : (binOp .neq t (.bool x) (.bool y)).run P w = .ok (.bool (x != y)) w := bin_neq rfl (e_bool ht)
def sEq (x y : ByteArray) : Bool := x.toList == y.toList
def sLt (x y : ByteArray) : Bool := Op.bytesLess x.toList y.toList
theorem b_eqlS {t : Nat} {x y : ByteArray} : (binOp .eql t (.string x) (.string y)).run P w = .ok (.bool (sEq x y)) w := by simp [binOp, Op.stringOp, sEq]
theorem b_neqS {t : Nat} {x y : ByteArray} : (binOp .neq t (.string x) (.string y)).run P w = .ok (.bool !(sEq x y)) w := by simp [binOp, Op.stringOp, sEq]
theorem b_lssS {t : Nat} {x y : ByteArray} : (binOp .lss t (.string x) (.string y)).run P w = .ok (.bool (sLt x y)) w := by simp [binOp, Op.stringOp, sLt]
theorem b_leqS {t : Nat} {x y : ByteArray} : (binOp .leq t (.string x) (.string y)).run P w = .ok (.bool (sLt x y || sEq x y)) w := by simp [binOp, Op.stringOp, sLt, sEq]
theorem b_gtrS {t : Nat} {x y : ByteArray} : (binOp .gtr t (.string x) (.string y)).run P w = .ok (.bool !(sLt x y || sEq x y)) w := by simp [binOp, Op.stringOp, sLt, sEq]
theorem b_geqS {t : Nat} {x y : ByteArray} : (binOp .geq t (.string x) (.string y)).run P w = .ok (.bool !(sLt x y)) w := by simp [binOp, Op.stringOp, sLt]
def sCat (x y : ByteArray) : M ByteArray := .get fun _ r => (x.size + y.size : Int) ≤ 9223372036854775807 ∧ r = x ++ y
theorem b_addS {t : Nat} {x y r : ByteArray} (h : (x.size + y.size : Int) ≤ 9223372036854775807 ∧ r = x ++ y) : (binOp .add t (.string x) (.string y)).run P w = .ok (.string r) w := by
  obtain ⟨h0, rfl⟩ := h
  have : ¬ (((x.size + y.size : Nat) : Int) > IntKind.i64.max) := by
    have e : IntKind.i64.max = 9223372036854775807 := rfl
    rw [e]; omega
  simp only [binOp, Op.stringOp]
  rw [if_neg this]
  rfl
def iMin (x y : Int) : Int := if y < x then y else x
def iMax (x y : Int) : Int := if x < y then y else x
theorem r_min {x y : Operand} {k k' : IntKind} {u v : Int} {ts : Array TypeId} (hE : Env n a l) (hx : opv l x = some (.int k u)) (hy : opv l y = some (.int k' v)) :
    (execOp a.eval ⟨dst, .call { callee := .builtin .min, args := #[x, y], argTypes := ts }, ty, pos, aft, g⟩).run P w = .ok (.value (.int k (iMin u v))) w := by
  simp [execOp, resolve, invoke, builtin, Builtin.min_, Builtin.min2, hE.opv hx, hE.opv hy, iMin, List.foldlM]
theorem r_cap {t ti : Nat} {x : Operand} {s : Sl} (hE : Env n a l) (hx : opv l x = some s.v) (e : Nat) (ht : P.underlying t = some (.slice e)) :
    (execOp a.eval ⟨dst, .call { callee := .builtin .cap, args := #[x], argTypes := #[t] }, ti, pos, aft, g⟩).run P w = .ok (.value (.int .i64 s.cap)) w := by
  simp [execOp, resolve, invoke, builtin, Builtin.cap_, hE.opv hx, run_underlying ht, Sl.v, goInt]
end ops
end Gx
