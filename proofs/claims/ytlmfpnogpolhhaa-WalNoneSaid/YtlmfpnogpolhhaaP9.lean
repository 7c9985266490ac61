/- Own proofs: what those Lean programs compute. No condition. -/
import Derived.Test.YtlmfpnogpolhhaaP0
import Derived.Test.YtlmfpnogpolhhaaP1
import Derived.Test.YtlmfpnogpolhhaaP2
import Derived.Test.YtlmfpnogpolhhaaP3
import Derived.Test.YtlmfpnogpolhhaaP4
import Derived.Test.YtlmfpnogpolhhaaP5
import Derived.Test.YtlmfpnogpolhhaaP6
import Derived.Test.YtlmfpnogpolhhaaP7
import Derived.Test.YtlmfpnogpolhhaaP8
set_option linter.unusedVariables false
set_option linter.unusedSimpArgs false
namespace Gx
open Go
set_option linter.unusedVariables false
set_option linter.unusedSimpArgs false
set_option maxRecDepth 20000
def hep : Hd → Nat
  | none => 0
  | some (e, _, _) => e
theorem hc_ep (p : Nat) (o : Hd) (ns : Sl) : (hc p o ns)[3]? = some (.int .i64 (hep o : Int)) := by
  cases o with
  | none => rfl
  | some x => rfl
theorem appL {A B : List Value} {i : Nat} (hA : A.length = 7) (hi : i < 7) : (A ++ B).toArray[i]? = A[i]? := by
  rw [List.getElem?_toArray, List.getElem?_append_left (by omega)]
theorem appR {A B : List Value} {i : Nat} (hA : A.length = 7) : (A ++ B).toArray[7 + i]? = B[i]? := by
  rw [List.getElem?_toArray, List.getElem?_append_right (by omega), hA, show 7 + i - 7 = i by omega]
section
variable {h : Heap} {F : Fp} {D : Dk}
theorem lopen_spec {Q : Option Addr × Sl × Sl × Int → Heap → Prop} {ob : Nat → Hd} {c e k : Nat} {note : List UInt8} {css : List (List (List UInt8))} (H : DkAt h F D) (ha : D.away = false) (hn1 : 1 ≤ D.n) (hnn : D.n ≤ 16384) (h0 : HeadAt D 0 (ob 0)) (h1 : HeadAt D 1 (ob 1))
    (hch : (c = 0 ∧ hep (ob 1) ≤ e) ∨ (c = 1 ∧ hep (ob 0) < e)) (ho : ob c = some (e, k, note)) (hT : Tells D e k css 0)
    (hq : ∀ h' b o ns s x, Ext h h' → h.size ≤ b → WalAt h' F D b o ns ⟨k, note, e, uEnd css 0, true, false⟩ → Bys h' s note → Css h.size h' x css → Q (some ⟨b, o, none⟩, s, x, 0) h') : (wal_Open (some ⟨F.p, 0, none⟩)).wp h Q := by
  unfold wal_Open
  refine bind_w (dsectors_spec H (iteF (by simp; omega) ?_))
  refine bind_w (ddown_spec H ?_)
  rw [ha]
  refine iteF rfl (bind_w (heads_spec (ob := ob) H h0 h1 hnn (fun h2 n0 n1 e2 hn0 hn1' => ?_)))
  have z14 : (#[.pointer none, .int .i64 0, .slice none 0 0, .int .i64 0, .int .i64 0, .bool false, .bool false, .pointer none, .int .i64 0, .slice none 0 0, .int .i64 0, .int .i64 0, .bool false, .bool false] : Array Value) = (hz ++ hz).toArray := rfl
  rw [z14]
  refine mkB_b ?_
  have e3 := Ext.push h2 (.cells (hz ++ hz).toArray ty_2_wal_Log)
  have b3 : (h2.push (.cells (hz ++ hz).toArray ty_2_wal_Log))[h2.size]? = some (.cells (hz ++ hz).toArray ty_2_wal_Log (0, 0)) := get_push_eq
  have s3 : (h2.push (.cells (hz ++ hz).toArray ty_2_wal_Log)).size = h2.size + 1 := by simp
  generalize h2.push (.cells (hz ++ hz).toArray ty_2_wal_Log) = h3 at e3 b3 s3 ⊢
  have hsz : (hc F.p (ob 0) n0 ++ hc F.p (ob 1) n1).toArray.size = 14 := by simp [hc_len]
  have s2 := e2.size
  refine need_b hsz ?_
  refine stR b3 (by rw [hsz]; decide) (fun v hv => ?_) (fun h4 u4 b4 => ?_)
  · rw [List.toList_toArray] at hv
    rcases List.mem_append.1 hv with h | h
    · exact hc_one _ _ _ v h
    · exact hc_one _ _ _ v h
  rw [lay_full (by rw [Array.length_toList, hsz]; rfl), List.toList_toArray] at b4
  have E4 : Ext h h4 := (e2.trans e3).upd u4 s2
  have hN : ∀ {o ns}, HN h.size h2 o ns → HN h.size h4 o ns := fun hh e' k' n' he' => ⟨(hh e' k' n' he').1.keep (fun i hi hl => by rw [u4.ne i (by omega), e3.same i hl]), (hh e' k' n' he').2⟩
  have hHc : HeadAt D c (some (e, k, note)) := by
    rcases hch with ⟨rfl, _⟩ | ⟨rfl, _⟩
    · rw [← ho]; exact h0
    · rw [← ho]; exact h1
  obtain ⟨_, he1, he2, _, hk1, hk2, _, hpl⟩ := hHc
  have hnl : note.length ≤ 112 := by rw [hpay, List.length_append] at hpl; omega
  have hok : Lg.ok ⟨k, note, e, 0, true, false⟩ := ⟨hk2, hnl, he2, Nat.zero_le _⟩
  have d4 := H.ext E4
  have cellR : ∀ i, hcell h4 ((⟨h2.size, 7, none⟩ : Addr).add i) = (hc F.p (ob 1) n1)[i]? := fun i => by
    rw [add_mk, hcell_blk b4, appR (hc_len _ _ _)]
  have cellL : ∀ i, i < 7 → hcell h4 ((⟨h2.size, 0, none⟩ : Addr).add i) = (hc F.p (ob 0) n0)[i]? := fun i hi => by
    rw [add_mk, Nat.zero_add, hcell_blk b4, appL (hc_len _ _ _) hi]
  refine ixA_b (by omega) (by omega) (ixA_b (by omega) (by omega) (nilP_b ?_))
  rw [show (⟨h2.size, 0, none⟩ : Addr).add ((1 : Int).toNat * 7) = ⟨h2.size, 7, none⟩ from rfl, show (⟨h2.size, 0, none⟩ : Addr).add ((0 : Int).toNat * 7) = ⟨h2.size, 0, none⟩ from rfl]
  refine ldI_b (n := (hep (ob 1) : Int)) (by rw [cellR, hc_ep]) (ldI_b (n := (hep (ob 0) : Int)) (by rw [cellL 3 (by omega), hc_ep]) ?_)
  have fin : ∀ (o : Nat) (ns : Sl), WalAt h4 F D h2.size o ns ⟨k, note, e, 0, true, false⟩ → (wal_Open_j1 (some ⟨h2.size, o, none⟩)).wp h4 Q := by
    intro o ns W
    refine open_j1 W he1 hT (fun h5 s x K5 W5 b5 c5 => ?_)
    have s4 := E4.size
    refine hq h5 h2.size o ns s x ⟨Nat.le_trans s4 K5.size, fun i hi => by rw [K5.same i (by omega) (by omega), E4.same i hi]⟩ s2 W5 b5 (c5.weak s4)
  have walat : ∀ (o : Nat) (ns : Sl), (∀ i, i < 7 → (hc F.p (ob 0) n0 ++ hc F.p (ob 1) n1).toArray[o + i]? = (hc F.p (some (e, k, note)) ns)[i]?) → HN h.size h2 (some (e, k, note)) ns → WalAt h4 F D h2.size o ns ⟨k, note, e, 0, true, false⟩ := by
    intro o ns hcs hh
    obtain ⟨bn2, on⟩ := hh e k note rfl
    obtain ⟨bn, _⟩ := hN hh e k note rfl
    refine ⟨d4, ⟨_, _, b4, fun i hi => by rw [hcs i hi, ← List.getElem?_toArray]; rfl⟩, bn, fun hne i hi => ⟨by have := bn2.ltN hne hi; omega, fun hf => by have := H.lt hf; have := on i hi; omega⟩, fun hf => by have := H.lt hf; omega, hok⟩
  rcases hch with ⟨rfl, hle⟩ | ⟨rfl, hlt⟩
  · have h9 : hep (ob 0) = e := by rw [ho]; rfl
    refine iteF (by simp; omega) (fin 0 n0 (walat 0 n0 (fun i hi => ?_) (ho ▸ hn0)))
    rw [Nat.zero_add, appL (hc_len _ _ _) hi, ho]
  · have h9 : hep (ob 1) = e := by rw [ho]; rfl
    refine iteT (by simp; omega) (ixA_b (by omega) (by omega) ?_)
    rw [show (⟨h2.size, 0, none⟩ : Addr).add ((1 : Int).toNat * 7) = ⟨h2.size, 7, none⟩ from rfl]
    refine fin 7 n1 (walat 7 n1 (fun i hi => ?_) (ho ▸ hn1'))
    rw [appR (hc_len _ _ _), ho]
end
end Gx
namespace Gx
open Go
set_option linter.unusedVariables false
set_option linter.unusedSimpArgs false
set_option maxRecDepth 20000
abbrev Vs := Nat → Option (List UInt8)
def Dk.eff (D : Dk) (k : Nat) : Option (List UInt8) := match mlk (k : Int) D.c with
  | some v => some v
  | none => if D.t k then none else some (D.s k)
/-- what a running disk shows -/
structure Vw (D : Dk) (n : Nat) (v : Vs) : Prop where
  away : D.away = false
  fuse : D.fuse = 0
  n : D.n = n
  eff : ∀ j, D.eff j = v j
section
variable {D : Dk} {n : Nat} {v : Vs}
theorem Vw.read (V : Vw D n v) {k : Nat} (hk : k < n) : D.read (k : Int) = match v k with | some x => (x, 0) | none => (zeros, 40) := by
  have h1 := V.eff k
  have h2 := V.n
  unfold Dk.read
  rw [if_neg (by rw [V.away]; simp), if_neg (by omega)]
  rw [← h1]
  unfold Dk.eff
  cases mlk (k : Int) D.c with
  | some x => rfl
  | none =>
    show (if D.t (k : Int).toNat then _ else _) = _
    rw [show (k : Int).toNat = k by omega]
    cases D.t k <;> rfl
theorem Vw.new (n : Nat) : Vw (Dk.new n) n (fun _ => some zeros) := ⟨rfl, rfl, rfl, fun j => rfl⟩
theorem Vw.write (V : Vw D n v) {k : Nat} (hk : k < n) (x : List UInt8) : (D.write (k : Int) x).2 = 0 ∧ Vw (D.write (k : Int) x).1 n (put v k (some x)) := by
  have h2 := V.n
  have hc : D.call = ({ D with calls := IntKind.wrap .i64 (D.calls + 1) }, 0) := by rw [Dk.call, if_neg (by rw [V.fuse]; decide)]
  have e : D.write (k : Int) x = ({ D with calls := IntKind.wrap .i64 (D.calls + 1), c := mput (k : Int) x D.c }, 0) := by
    rw [Dk.write, if_neg (by rw [V.away]; simp), if_neg (by omega), hc]
    rfl
  rw [e]
  refine ⟨rfl, V.away, V.fuse, V.n, fun j => ?_⟩
  have h1 := V.eff j
  unfold Dk.eff at h1 ⊢
  dsimp only
  rw [mlk_put]
  unfold Gx.put
  by_cases hj : j = k
  · subst hj; simp
  · rw [if_neg (by omega), if_neg hj]; exact h1
theorem Vw.flush (V : Vw D n v) : D.flush.2 = 0 ∧ Vw D.flush.1 n v := by
  have hc : D.call = ({ D with calls := IntKind.wrap .i64 (D.calls + 1) }, 0) := by rw [Dk.call, if_neg (by rw [V.fuse]; decide)]
  have e : D.flush = (Dk.kept { D with calls := IntKind.wrap .i64 (D.calls + 1) }, 0) := by
    rw [Dk.flush, if_neg (by rw [V.away]; simp), hc]
    rfl
  rw [e]
  refine ⟨rfl, V.away, V.fuse, V.n, fun j => ?_⟩
  rw [← V.eff j]
  have key : ∀ m : Option (List UInt8), (if (if m.isSome then false else D.t j) = true then none else some (m.getD (D.s j))) = (match m with | some v => some v | none => if D.t j then none else some (D.s j)) := by
    intro m; cases m <;> rfl
  exact key _
theorem Vw.put (V : Vw D n v) {k : Nat} (hk : k < n) {kd nn : Int} {p : List UInt8} (hb : badF kd nn p = false) : (D.put (k : Int) kd nn p).2 = 0 ∧ Vw (D.put (k : Int) kd nn p).1 n (put v k (some (sealed kd nn p))) := by
  have e : D.put (k : Int) kd nn p = D.write (k : Int) (sealed kd nn p) := by rw [Dk.put, hb]; rfl
  rw [e]
  exact V.write hk _
theorem put_at {α : Type} {f : Nat → α} {k : Nat} {x : α} : put f k x k = x := by unfold put; rw [if_pos rfl]
theorem put_ne {α : Type} {f : Nat → α} {k j : Nat} {x : α} (h : j ≠ k) : put f k x j = f j := by unfold put; rw [if_neg h]
/-- what a view shows where nothing of the log ep stands -/
def Old (v : Vs) (ep j : Nat) : Prop := ∀ x, v (2 + j) = some x → openOk x = false ∨ n0 x ≠ atN ep j
/-- no number but an epoch's own -/
def Only (v : Vs) (ep slots : Nat) : Prop := ∀ j, j < slots → ∀ x, v (2 + j) = some x → openOk x = false ∨ n0 x = atN ep j
/-- a commit's frames -/
def ComV (v : Vs) (ep u : Nat) (rs : List (List UInt8)) : Prop :=
  ∀ j (hj : j < (cuts (cbytes rs)).length), v (2 + u + j) = some (sealed (if j + 1 = (cuts (cbytes rs)).length then 3 else 2) (atN ep (u + j)) (cuts (cbytes rs))[j])
def Laid (v : Vs) (ep : Nat) : List (List (List UInt8)) → Nat → Prop
  | [], _ => True
  | rs :: css, u => ComV v ep u rs ∧ Laid v ep css (u + (cuts (cbytes rs)).length)
theorem uEnd_le (css : List (List (List UInt8))) : ∀ u, u ≤ uEnd css u := by
  induction css with
  | nil => intro u; exact Nat.le_refl u
  | cons rs css ih => intro u; have := ih (u + (cuts (cbytes rs)).length); unfold uEnd; omega
theorem uEnd_app (a b : List (List (List UInt8))) : ∀ u, uEnd (a ++ b) u = uEnd b (uEnd a u) := by
  induction a with
  | nil => intro u; rfl
  | cons rs css ih => intro u; exact ih _
theorem Laid.app {v : Vs} {ep : Nat} {b : List (List (List UInt8))} : ∀ {a : List (List (List UInt8))} {u : Nat}, Laid v ep a u → Laid v ep b (uEnd a u) → Laid v ep (a ++ b) u
  | [], _, _, h2 => h2
  | _ :: _, _, h1, h2 => ⟨h1.1, Laid.app h1.2 h2⟩
theorem Laid.same {v v' : Vs} {ep : Nat} : ∀ {a : List (List (List UInt8))} {u : Nat}, Laid v ep a u → (∀ j, u ≤ j → j < uEnd a u → v' (2 + j) = v (2 + j)) → Laid v' ep a u
  | [], _, _, _ => trivial
  | rs :: a, u, h, e => by
    refine ⟨fun j hj => ?_, h.2.same (fun j hj hj2 => e j (by omega) hj2)⟩
    rw [← h.1 j hj, show 2 + u + j = 2 + (u + j) by omega]
    refine e (u + j) (by omega) ?_
    have := uEnd_le a (u + (cuts (cbytes rs)).length)
    show u + j < uEnd a (u + (cuts (cbytes rs)).length)
    omega
theorem tells {slots ep : Nat} (V : Vw D n v) (hn : 2 + slots ≤ n) : ∀ (css : List (List (List UInt8))) (u : Nat), Laid v ep css u → uEnd css u ≤ slots → (uEnd css u < slots → Old v ep (uEnd css u)) → Tells D ep slots css u
  | [], u, _, hle, ho => by
    show NoneAt D ep slots u
    rcases Nat.lt_or_ge u slots with hu | hu
    · right
      have h1 := V.read (k := 2 + u) (by omega)
      have h2 : Old v ep u := ho hu
      rw [h1]
      cases hx : v (2 + u) with
      | none => left; simp
      | some x => right; exact h2 x hx
    · exact .inl hu
  | rs :: css, u, hl, hle, ho => by
    have h1 := uEnd_le css (u + (cuts (cbytes rs)).length)
    have hle' : uEnd css (u + (cuts (cbytes rs)).length) ≤ slots := hle
    refine ⟨⟨by omega, fun j hj => ?_⟩, tells V hn css _ hl.2 hle' ho⟩
    rw [V.read (k := 2 + u + j) (by omega), hl.1 j hj]
/-- the frames of a commit are put -/
theorem wputs_vw {ep used tot : Nat} (hu : 2 + used + tot ≤ n) : ∀ (ps : List (List UInt8)) (i : Nat) (D : Dk) (v : Vs), Vw D n v → i + ps.length = tot → (∀ p ∈ ps, p.length ≤ 112) →
    (wputs ep used tot ps i D).2 = 0 ∧ ∃ v', Vw (wputs ep used tot ps i D).1 n v' ∧ (∀ j (hj : j < ps.length), v' (2 + used + (i + j)) = some (sealed (if i + j + 1 = tot then 3 else 2) (atN ep (used + (i + j))) ps[j])) ∧ ∀ j, (j < 2 + used + i ∨ 2 + used + tot ≤ j) → v' j = v j
  | [], i, D, v, V, hi, hp => ⟨rfl, v, V, fun j hj => (by cases hj), fun j _ => rfl⟩
  | p :: ps, i, D, v, V, hi, hp => by
    simp only [List.length_cons] at hi
    have hb : badF (if i + 1 = tot then 3 else 2) ((ep * 65536 + (used + i) : Nat) : Int) p = false := badF_ok (by split <;> omega) (by split <;> omega) (by omega) (hp p (by simp))
    obtain ⟨h1, h2⟩ := V.put (k := 2 + used + i) (by omega) hb
    obtain ⟨h3, v', h4, h5, h6⟩ := wputs_vw hu ps (i + 1) _ _ h2 (by omega) (fun q hq => hp q (by simp [hq]))
    have e : wputs ep used tot (p :: ps) i D = wputs ep used tot ps (i + 1) (D.put ((2 + used + i : Nat) : Int) (if i + 1 = tot then 3 else 2) ((ep * 65536 + (used + i) : Nat) : Int) p).1 := by
      rw [wputs, if_neg (by rw [h1]; simp)]
    rw [e]
    refine ⟨h3, v', h4, fun j hj => ?_, fun j hj => ?_⟩
    · rcases j with _ | j
      · rw [Nat.add_zero, h6 _ (.inl (by omega)), put_at]
        rfl
      · simp only [List.length_cons] at hj
        have := h5 j (by omega)
        rw [show i + 1 + j = i + (j + 1) by omega] at this
        simpa using this
    · rw [h6 j (by omega), put_ne (by omega)]
end
end Gx
namespace Gx
open Go
set_option linter.unusedVariables false
set_option linter.unusedSimpArgs false
set_option maxRecDepth 20000
section
variable {D : Dk} {n : Nat} {v : Vs} {L : Lg}
theorem append_full {rs : List (List UInt8)} (hb : L.broken = false) (hs : L.stale = false) (hf : L.slots - L.used < (cuts (cbytes rs)).length) : L.append D rs = (D, L, 6) := by
  rw [Lg.append, if_neg (by simp [hb]), if_neg (by simp [hs]), if_pos hf]
theorem append_stale {rs : List (List UInt8)} (hb : L.broken = false) (hs : L.stale = true) : L.append D rs = (D, L, 61) := by
  rw [Lg.append, if_neg (by simp [hb]), if_pos hs]
theorem append_vw {rs : List (List UInt8)} (V : Vw D n v) (hb : L.broken = false) (hs : L.stale = false) (hf : ¬ L.slots - L.used < (cuts (cbytes rs)).length) (hu : L.used ≤ L.slots) (hn : 2 + L.slots ≤ n) :
    (L.append D rs).2.2 = 0 ∧ (L.append D rs).2.1 = { L with used := L.used + (cuts (cbytes rs)).length } ∧ ∃ v', Vw (L.append D rs).1 n v' ∧ ComV v' L.epoch L.used rs ∧ ∀ j, (j < 2 + L.used ∨ 2 + L.used + (cuts (cbytes rs)).length ≤ j) → v' j = v j := by
  have hple := cuts_le (cbytes rs)
  obtain ⟨h1, v', h2, h3, h4⟩ := wputs_vw (ep := L.epoch) (used := L.used) (tot := (cuts (cbytes rs)).length) (n := n) (by omega) (cuts (cbytes rs)) 0 D v V (by omega) hple
  obtain ⟨f1, f2⟩ := h2.flush
  have e : L.append D rs = ((wputs L.epoch L.used (cuts (cbytes rs)).length (cuts (cbytes rs)) 0 D).1.flush.1, { L with used := L.used + (cuts (cbytes rs)).length }, 0) := by
    rw [Lg.append, if_neg (by simp [hb]), if_neg (by simp [hs]), if_neg hf]
    dsimp only
    rw [if_neg (by rw [h1]; simp), if_neg (by rw [f1]; simp)]
  rw [e]
  refine ⟨rfl, rfl, v', f2, fun j hj => ?_, fun j hj => h4 j (by omega)⟩
  have := h3 j hj
  simpa using this
theorem head_vw (V : Vw D n v) (hn : 2 ≤ n) {e : Nat} (hp : (hpay L.slots L.note).length ≤ 112) : (D.head L e).2 = 0 ∧ Vw (D.head L e).1 n (put v (e % 2) (some (sealed 1 (e : Int) (hpay L.slots L.note)))) :=
  V.put (by omega) (badF_ok (by omega) (by omega) (by omega) hp)
theorem reset_vw (V : Vw D n v) (hn : 2 ≤ n) (hb : L.broken = false) (he : L.epoch < 1099511627776) (hp : (hpay L.slots L.note).length ≤ 112) :
    (L.reset D).2.2 = 0 ∧ (L.reset D).2.1 = { L with epoch := L.epoch + 1, used := 0, stale := false } ∧ Vw (L.reset D).1 n (put v ((L.epoch + 1) % 2) (some (sealed 1 ((L.epoch + 1 : Nat) : Int) (hpay L.slots L.note)))) := by
  obtain ⟨h1, h2⟩ := head_vw (L := L) V hn (e := L.epoch + 1) hp
  obtain ⟨f1, f2⟩ := h2.flush
  have e : L.reset D = ((D.head L (L.epoch + 1)).1.flush.1, { L with epoch := L.epoch + 1, used := 0, stale := false }, 0) := by
    rw [Lg.reset, if_neg (by simp [hb]), if_neg (by omega)]
    dsimp only
    rw [if_neg (by rw [h1]; simp), if_neg (by rw [f1]; simp)]
  rw [e]
  exact ⟨rfl, rfl, f2⟩
theorem format_vw (V : Vw D n v) (hn : 2 ≤ n) (hp : (hpay L.slots L.note).length ≤ 112) : (D.format L).2 = 0 ∧ Vw (D.format L).1 n (put (put v 0 (some zeros)) 1 (some (sealed 1 1 (hpay L.slots L.note)))) := by
  obtain ⟨w1, w2⟩ := V.write (k := 0) (by omega) zeros
  obtain ⟨h1, h2⟩ := head_vw (L := L) w2 hn (e := 1) hp
  obtain ⟨f1, f2⟩ := h2.flush
  have e : D.format L = ((D.write 0 zeros).1.head L 1).1.flush := by
    rw [Dk.format]
    dsimp only
    rw [if_neg (by have : (D.write 0 zeros).2 = 0 := w1
                   rw [this]; simp), if_neg (by have : ((D.write 0 zeros).1.head L 1).2 = 0 := h1
                                                rw [this]; simp)]
  rw [e]
  exact ⟨f1, f2⟩
end
end Gx
namespace Gx
open Go
set_option linter.unusedVariables false
set_option linter.unusedSimpArgs false
set_option maxRecDepth 20000
theorem mrk_b {β : Type} {h : Heap} {Q : β → Heap → Prop} {l : List UInt8} {b t n : Nat} {f : Sl → M β} (g1 : h[b]? = some (.cells (bcells l) t (0, 0))) (hn : n = l.length)
    (H : ∀ h2, Upd b h h2 → Bys h2 ⟨some ⟨b, 0, none⟩, n, n⟩ l → (f ⟨some ⟨b, 0, none⟩, n, n⟩).wp h2 Q) : (mrk ⟨some ⟨b, 0, none⟩, n, n⟩ >>= f).wp h Q := by
  have hm : hmrk ⟨some ⟨b, 0, none⟩, n, n⟩ h = h.modify b fun
      | .cells c' t (lo, hi) => .cells c' t (if lo = hi then ((bcells l).size, (bcells l).size + 1) else (min lo (bcells l).size, max hi ((bcells l).size + 1)))
      | o => o := by
    unfold hmrk
    simp only [g1]
    rfl
  refine ⟨_, ⟨rfl, _, _, _, _, rfl, g1⟩, ?_⟩
  have E : Upd b h (hmrk ⟨some ⟨b, 0, none⟩, n, n⟩ h) := ⟨by rw [hm, Array.size_modify], fun i hi => by rw [hm, Array.getElem?_modify, if_neg (fun h => hi h.symm)]⟩
  have G : (hmrk ⟨some ⟨b, 0, none⟩, n, n⟩ h)[b]? = some (.cells (bcells l) t ((bcells l).size, (bcells l).size + 1)) := by
    rw [hm, Array.getElem?_modify, if_pos rfl, g1]
    rfl
  refine H _ E ⟨hn, ?_⟩
  refine .inr ⟨_, rfl, fun j v hj => ?_⟩
  rw [add_mk, Nat.zero_add, hcell_blk G, ← hj]
  simp [bcells, bv]
/-- a slice of two slices of bytes -/
theorem bss2 {h : Heap} {b : Nat} {t : TypeId} {s1 s2 : Sl} {l1 l2 : List UInt8} (hb : h[b]? = some (.cells #[s1.v, s2.v] t (0, 0))) (h1 : Bys h s1 l1) (h2 : Bys h s2 l2) : Bss h ⟨some ⟨b, 0, none⟩, 2, 2⟩ [l1, l2] :=
  ⟨rfl, .inr ⟨_, rfl, fun i l hi => by
    rcases i with _ | _ | i
    · simp at hi; subst hi; exact ⟨s1, by rw [add_mk, hcell_blk hb]; rfl, h1⟩
    · simp at hi; subst hi; exact ⟨s2, by rw [add_mk, hcell_blk hb]; rfl, h2⟩
    · simp at hi⟩⟩
theorem bss1 {h : Heap} {b : Nat} {t : TypeId} {s1 : Sl} {l1 : List UInt8} (hb : h[b]? = some (.cells #[s1.v] t (0, 0))) (h1 : Bys h s1 l1) : Bss h ⟨some ⟨b, 0, none⟩, 1, 1⟩ [l1] :=
  ⟨rfl, .inr ⟨_, rfl, fun i l hi => by
    rcases i with _ | i
    · simp at hi; subst hi; exact ⟨s1, by rw [add_mk, hcell_blk hb]; rfl, h1⟩
    · simp at hi⟩⟩
theorem cb2 : cbytes [[97], [98, 99]] = [2, 1, 97, 2, 98, 99] := by
  simp [cbytes, rbytes, venc_small]
theorem ct2 : cuts (cbytes [[97], [98, 99]]) = [[2, 1, 97, 2, 98, 99]] := by rw [cb2]; rfl
theorem Ext.wk {F : Fp} {b : Nat} {h h' h'' : Heap} (e : Ext h h') (k : Km (wK F b) h' h'') (hF : ∀ i, F.on i → h.size ≤ i) (hb : h.size ≤ b) : Ext h h'' :=
  e.km k (fun i hi => by rcases hi with h1 | rfl; exact hF i h1; exact hb)
theorem open_zerosD : openOk zeros = false := by
  have h : badF (k0 zeros) (n0 zeros) (p0 zeros) = true := by
    have : k0 zeros = 0 := by simp [k0, zeros]
    rw [this]
    unfold badF
    simp
  unfold openOk
  rw [h]
  exact Bool.false_and _
theorem old_zero {ep j : Nat} : Old (fun _ => some zeros) ep j := fun x hx => by
  cases hx
  exact .inl open_zerosD
theorem Css.len {lo : Nat} {h : Heap} {x : Sl} {css : List (List (List UInt8))} (H : Css lo h x css) : x.len = css.length := by
  obtain ⟨ss, h1, h2, _⟩ := H
  rw [h1.len, h2]
theorem Css.get {lo : Nat} {h : Heap} {x : Sl} {css : List (List (List UInt8))} (H : Css lo h x css) {i : Nat} (hi : i < css.length) : ∃ b s, x.base = some ⟨b, 0, none⟩ ∧ hcell h ⟨b, i, none⟩ = some s.v ∧ BssP (fun i => lo ≤ i ∧ i < h.size ∧ ¬ Sl.on x i) h s css[i] := by
  obtain ⟨ss, h1, h2, h3⟩ := H
  obtain ⟨b, hb, hc⟩ := h1.gw.cell (j := i) (v := (ss[i]'(by omega)).v) (by rw [List.getElem?_map, List.getElem?_eq_getElem (by omega)]; rfl)
  exact ⟨b, _, hb, hc, h3 i _ _ (List.getElem?_eq_getElem (by omega)) (List.getElem?_eq_getElem hi)⟩
theorem begun06_spec {h : Heap} {Q : Bool → Heap → Prop} (hq : ∀ h', Ext h h' → Q true h') : ramblelaw06_begun.wp h Q := by
  unfold ramblelaw06_begun
  refine bind_w (dnew_spec (fun hh => by omega) (fun m hm _ _ h1 F e1 H1 hF => ?_))
  have hm12 : m = 12 := by omega
  subst hm12
  refine bdL_bys (l := [5]) e1 rfl rfl (fun h2 _ e2 s2 g2 b2 => ?_)
  have e12 : Ext h1 h2 := by assumption
  have hl5 : (hpay 8 [5]).length ≤ 112 := by simp [hpay, venc_small]
  obtain ⟨f1, f2⟩ := format_vw (L := lg0 8 [5]) (Vw.new 12) (by omega) hl5
  refine bind_w (lformat_spec (k := 8) (note := [5]) (H1.ext e12) (by omega) (by omega) (by decide) (by decide) b2 (by decide) (fun hne => absurd f1 hne) (fun _ h3 b ns k3 hb3 W3 => ?_))
  refine iteF_b rfl (pure_b (iteF_b rfl (pure_b (iteF_b rfl ?_))))
  have E3 : Ext h h3 := e2.kp k3 hF
  have hb : h.size ≤ b := Nat.le_trans e2.size hb3
  refine assoc_b (bdL_bys (l := [97]) (Ext.refl h3) rfl rfl (fun h4 _ e4 s4 g4 b4 => assoc_b (mrk_b g4 rfl (fun h5 u5 b5 => ?_))))
  have E5 : Ext h3 h5 := e4.upd u5 (Nat.le_refl _)
  refine assoc_b (bdL_bys (l := [98, 99]) E5 rfl rfl (fun h6 d6 e6 s6 g6 b6 => assoc_b (mrk_b g6 rfl (fun h7 u7 b7 => ?_))))
  have E57 : Ext h5 h7 := d6.upd u7 (Nat.le_refl _)
  have E7 : Ext h3 h7 := E5.trans E57
  refine assoc_b (bdL_b ?_)
  have e8 := Ext.push h7 (.cells #[(⟨some ⟨h3.size, 0, none⟩, 1, 1⟩ : Sl).v, (⟨some ⟨h5.size, 0, none⟩, 2, 2⟩ : Sl).v] ty_sl_uint8)
  have g8 : (h7.push (.cells #[(⟨some ⟨h3.size, 0, none⟩, 1, 1⟩ : Sl).v, (⟨some ⟨h5.size, 0, none⟩, 2, 2⟩ : Sl).v] ty_sl_uint8))[h7.size]? = some (.cells #[(⟨some ⟨h3.size, 0, none⟩, 1, 1⟩ : Sl).v, (⟨some ⟨h5.size, 0, none⟩, 2, 2⟩ : Sl).v] ty_sl_uint8 (0, 0)) := get_push_eq
  generalize h7.push (.cells #[(⟨some ⟨h3.size, 0, none⟩, 1, 1⟩ : Sl).v, (⟨some ⟨h5.size, 0, none⟩, 2, 2⟩ : Sl).v] ty_sl_uint8) = h8 at e8 g8 ⊢
  have E8 := E7.trans e8
  have hbs := bss2 g8 ((b5.ext E57).ext e8) (b7.ext e8)
  obtain ⟨a1, a2, v2, V2, C2, S2⟩ := append_vw (L := lg0 8 [5]) (rs := [[97], [98, 99]]) f2 rfl rfl (by rw [ct2]; decide) (by decide) (by decide)
  have hcl : (cuts (cbytes [[97], [98, 99]])).length = 1 := by rw [ct2]; rfl
  refine assoc_b (bind_w (lappend_spec (W3.ext E8) hbs (by rw [cb2]; decide) (by decide) (fun h9 k9 W9 => ?_)))
  rw [a1]
  rw [a2] at W9
  generalize (Lg.append (lg0 8 [5]) (Dk.format (Dk.new 12) (lg0 8 [5])).1 [[97], [98, 99]]).1 = D2 at V2 W9
  have E9 : Ext h h9 := (E3.trans E8).wk k9 hF hb
  refine pure_b (iteF rfl ?_)
  have r0 := V2.read (k := 0) (by omega)
  have r1 := V2.read (k := 1) (by omega)
  rw [S2 0 (.inl (by decide))] at r0
  rw [S2 1 (.inl (by decide))] at r1
  have hO : Old v2 1 1 := fun x hx => by
    rw [S2 3 (.inr (by rw [hcl]; decide))] at hx
    cases hx
    exact .inl open_zerosD
  refine bind_w (lopen_spec (ob := fun i => if i = 0 then none else some (1, 8, [5])) (c := 1) (e := 1) (k := 8) (note := [5]) (css := [[[97], [98, 99]]]) W9.dk V2.away (by rw [V2.n]; decide) (by rw [V2.n]; decide) (.inr ?_) ?_ (.inr ⟨rfl, by decide⟩) rfl
    (tells V2 (by decide) _ 0 ⟨C2, trivial⟩ (by show 0 + (cuts (cbytes [[97], [98, 99]])).length ≤ 8; omega) (fun _ => by
      show Old v2 1 (0 + (cuts (cbytes [[97], [98, 99]])).length)
      rw [hcl]; exact hO)) (fun h10 b' o ns' s x e10 hb' W10 bs cx => ?_))
  · show openOk (Dk.read D2 ((0 : Nat) : Int)).1 = false
    rw [r0]
    exact open_zerosD
  · exact ⟨r1, by decide, by decide, rfl, by decide, by decide, by rw [V2.n]; decide, hl5⟩
  have hU : uEnd [[[97], [98, 99]]] 0 = 1 := by show 0 + (cuts (cbytes [[97], [98, 99]])).length = 1; omega
  rw [hU] at W10
  have E10 := E9.trans e10
  refine iteT_b rfl (pure_b (iteT_b rfl ?_))
  refine assoc_b (bdL_bys (l := [5]) (Ext.refl h10) rfl rfl (fun h11 _ e11 s11 g11 b11 => ?_))
  refine assoc_b (bind_w (bytes_eq_spec (bs.ext e11) b11 (pure_b ?_)))
  refine iteT_b rfl (pure_b ?_)
  have cx11 := cx.keep e11.size (fun i _ hl => e11.same i hl)
  have hxl := cx11.len
  rw [hxl]
  obtain ⟨xb, s0, hxb, hxc, hs0⟩ := cx11.get (i := 0) (by decide)
  have hs0 : Bss h11 s0 [[97], [98, 99]] := hs0.bss
  have hix : ∀ {β : Type} {Q : β → Heap → Prop} {f : Sl → M β}, (f s0).wp h11 Q → ((ixL x 0 1 >>= fun a => ldL a >>= f)).wp h11 Q := fun {β Q f} hf => by
    refine ixL_b (by omega) (by rw [hxl]; decide) hxb (ldL_b (n := s0) ?_ hf)
    rw [add_mk]; exact hxc
  refine iteT_b rfl (assoc_b (ixL_b (by omega) (by rw [hxl]; decide) hxb (assoc_b (ldL_b (n := s0) (by rw [add_mk]; exact hxc) (pure_b ?_)))))
  rw [hs0.len]
  obtain ⟨sb, s1, hsb, hsc, hs1⟩ := hs0.get' (i := 1) (by decide)
  have hs1 : Bys h11 s1 [98, 99] := hs1
  refine iteT_b rfl (assoc_b (ixL_b (by omega) (by rw [hxl]; decide) hxb (assoc_b (ldL_b (n := s0) (by rw [add_mk]; exact hxc) (assoc_b (ixL_b (by omega) (by rw [hs0.len]; decide) hsb (assoc_b (ldL_b (n := s1) hsc ?_))))))))
  refine assoc_b (b2s_b (ns := [98, 99]) hs1.len.symm hs1.reads (pure_b ?_))
  have E11 := E10.trans e11
  have W11 := W10.ext e11
  refine iteT_b (by rw [show (⟨#[98, 99]⟩ : ByteArray) = ⟨([98, 99] : List UInt8).toArray⟩ from rfl, sEq_mk]; decide) ?_
  refine assoc_b (bdL_b ?_)
  have e12 := Ext.push h11 (.cells #[(Sl.nil : Sl).v] ty_sl_uint8)
  have g12 : (h11.push (.cells #[(Sl.nil : Sl).v] ty_sl_uint8))[h11.size]? = some (.cells #[(Sl.nil : Sl).v] ty_sl_uint8 (0, 0)) := get_push_eq
  generalize h11.push (.cells #[(Sl.nil : Sl).v] ty_sl_uint8) = h12 at e12 g12 ⊢
  have hst := append_stale (L := ⟨8, [5], 1, 1, true, false⟩) (D := D2) (rs := [[]]) rfl rfl
  have hFb : ∀ {hh h' : Heap}, Ext h hh → Km (wK F b') hh h' → Ext h h' := fun e k => e.wk k hF (Nat.le_trans E9.size hb')
  refine assoc_b (bind_w (lappend_spec (W11.ext e12) (bss1 g12 (Bys.nil _)) (by simp [cbytes, rbytes, venc_small]) (by decide) (fun h13 k13 W13 => ?_)))
  rw [hst] at W13 ⊢
  have E13 := hFb (E11.trans e12) k13
  refine pure_b (iteT_b rfl ?_)
  obtain ⟨q1, q2, q3⟩ := reset_vw (L := ⟨8, [5], 1, 1, true, false⟩) V2 (by decide) rfl (by decide) hl5
  refine assoc_b (bind_w (lreset_spec W13 (fun h14 k14 W14 => ?_)))
  rw [q1]
  rw [q2] at W14
  have E14 := hFb E13 k14
  refine pure_b (iteT_b rfl ?_)
  refine assoc_b (bind_w (lepoch_spec W14 (pure_b (iteT_b rfl ?_))))
  refine assoc_b (bind_w (lused_spec W14 (pure_b (pure_w ?_))))
  exact hq _ E14
end Gx
namespace Gx
open Go
set_option linter.unusedVariables false
set_option linter.unusedSimpArgs false
/-- a log that no call made -/
def Nl (h : Heap) (p : Option Addr) : Prop := p = none ∨ ∃ b, p = some ⟨b, 0, none⟩ ∧ h[b]? = some (.cells hz.toArray ty_wal_Log (0, 0))
section
variable {h : Heap} {p : Option Addr}
theorem nl_can {Q : Int → Heap → Prop} (H : Nl h p) (hq : Q 2 h) : (wal_Log_can p).wp h Q := by
  unfold wal_Log_can
  rcases H with rfl | ⟨b, rfl, hb⟩
  · exact iteT_b rfl (pure_b (iteT rfl (pure_w hq)))
  · exact iteF_b rfl (assoc_b (nilP_b (assoc_b (ldP_b (n := none) (by rw [add_mk, hcell_blk hb]; rfl) (pure_b (iteT rfl (pure_w hq)))))))
theorem nl_append {Q : Int → Heap → Prop} {x : Sl} (H : Nl h p) (hq : Q 2 h) : (wal_Log_Append p x).wp h Q := by
  unfold wal_Log_Append
  exact bind_w (nl_can H (iteT rfl (pure_w hq)))
theorem nl_reset {Q : Int → Heap → Prop} (H : Nl h p) (hq : Q 2 h) : (wal_Log_Reset p).wp h Q := by
  unfold wal_Log_Reset
  exact bind_w (nl_can H (iteT rfl (pure_w hq)))
theorem nl_slots {Q : Int → Heap → Prop} (H : Nl h p) (hq : Q 0 h) : (wal_Log_Slots p).wp h Q := by
  unfold wal_Log_Slots
  rcases H with rfl | ⟨b, rfl, hb⟩
  · exact iteT rfl (pure_w hq)
  · exact iteF rfl (nilP_b (ldI_b (n := 0) (by rw [add_mk, hcell_blk hb]; rfl) (pure_w hq)))
theorem nl_used {Q : Int → Heap → Prop} (H : Nl h p) (hq : Q 0 h) : (wal_Log_Used p).wp h Q := by
  unfold wal_Log_Used
  rcases H with rfl | ⟨b, rfl, hb⟩
  · exact iteT rfl (pure_w hq)
  · exact iteF rfl (nilP_b (ldI_b (n := 0) (by rw [add_mk, hcell_blk hb]; rfl) (pure_w hq)))
theorem nl_epoch {Q : Int → Heap → Prop} (H : Nl h p) (hq : Q 0 h) : (wal_Log_Epoch p).wp h Q := by
  unfold wal_Log_Epoch
  rcases H with rfl | ⟨b, rfl, hb⟩
  · exact iteT rfl (pure_w hq)
  · exact iteF rfl (nilP_b (ldI_b (n := 0) (by rw [add_mk, hcell_blk hb]; rfl) (pure_w hq)))
theorem nl_broken {Q : Bool → Heap → Prop} (H : Nl h p) (hq : Q false h) : (wal_Log_Broken p).wp h Q := by
  unfold wal_Log_Broken
  rcases H with rfl | ⟨b, rfl, hb⟩
  · exact iteF_b rfl (pure_b (pure_w hq))
  · exact iteT_b rfl (assoc_b (nilP_b (assoc_b (ldB_b (n := false) (by rw [add_mk, hcell_blk hb]; rfl) (pure_b (pure_w hq))))))
end
theorem wnone_spec {h : Heap} {r : Sl} : (ramblelaw06_WalNone r).wp h (fun r h' => r = true ∧ Ext h h') := by
  unfold ramblelaw06_WalNone
  refine bind_w (begun06_spec (fun h1 e1 => iteF rfl ?_))
  refine mkB_b ?_
  have e2 := Ext.push h1 (.cells hz.toArray ty_wal_Log)
  have g2 : (h1.push (.cells hz.toArray ty_wal_Log))[h1.size]? = some (.cells hz.toArray ty_wal_Log (0, 0)) := get_push_eq
  show (bdL _ _ _ >>= _).wp (h1.push (.cells hz.toArray ty_wal_Log)) _
  generalize h1.push (.cells hz.toArray ty_wal_Log) = h2 at e2 g2 ⊢
  refine bdL_b ?_
  have e3 := Ext.push h2 (.cells #[.pointer (none : Option Addr), .pointer (some ⟨h1.size, 0, none⟩)] ty_p_wal_Log)
  have g3 : (h2.push (.cells #[.pointer (none : Option Addr), .pointer (some ⟨h1.size, 0, none⟩)] ty_p_wal_Log))[h2.size]? = some (.cells #[.pointer (none : Option Addr), .pointer (some ⟨h1.size, 0, none⟩)] ty_p_wal_Log (0, 0)) := get_push_eq
  generalize h2.push (.cells #[.pointer (none : Option Addr), .pointer (some ⟨h1.size, 0, none⟩)] ty_p_wal_Log) = h3 at e3 g3 ⊢
  have EE := (e1.trans e2).trans e3
  have G2 := e3.blk g2
  refine M.loop_inv (fun (t : Int) h' => h' = h3 ∧ (t = 0 ∨ t = 1 ∨ t = 2)) (fun t _ => (3 - t).toNat) ?_ ⟨rfl, .inl rfl⟩
  rintro t h' ⟨rfl, ht⟩ self hself
  unfold ramblelaw06_WalNone_l1
  refine ite_w (fun hlt => ?_) (fun hge => ?_)
  · have hlt : t < 2 := of_decide_eq_true hlt
    obtain ⟨p, hp, hn⟩ : ∃ p, hcell h' ⟨h2.size, t.toNat, none⟩ = some (.pointer p) ∧ Nl h' p := by
      rw [hcell_blk g3]
      rcases ht with rfl | rfl | rfl
      · exact ⟨none, rfl, .inl rfl⟩
      · exact ⟨_, rfl, .inr ⟨_, rfl, G2⟩⟩
      · omega
    refine ixL_b (by omega) hlt rfl ?_
    refine ldP_b (n := p) (by rw [add_mk, show 0 + t.toNat * 1 = t.toNat by omega]; exact hp) ?_
    refine bind_w (nl_append hn ?_)
    refine iteF_b rfl (assoc_b (bind_w (nl_reset hn (pure_b ?_))))
    refine iteF_b rfl (assoc_b (bind_w (nl_slots hn (assoc_b (bind_w (nl_used hn (pure_b ?_)))))))
    refine iteF_b rfl (assoc_b (bind_w (nl_epoch hn (pure_b ?_))))
    refine iteF_b rfl (assoc_b (bind_w (nl_broken hn (pure_b ?_))))
    refine iteF rfl ?_
    rw [w64 (by omega) (by omega)]
    exact hself _ _ ⟨rfl, by omega⟩ (by omega)
  · have nd : Nd h' none := .inl rfl
    have hf : ∀ (Q : Option Addr × Int → Heap → Prop), Q (none, 2) h' → (wal_Format (none : Option Addr) 3 Sl.nil).wp h' Q := fun Q hq => by
      unfold wal_Format
      exact bind_w (nd_sectors nd (iteT rfl (pure_w hq)))
    have ho : ∀ (Q : Option Addr × Sl × Sl × Int → Heap → Prop), Q (none, Sl.nil, Sl.nil, 2) h' → (wal_Open (none : Option Addr)).wp h' Q := fun Q hq => by
      unfold wal_Open
      exact bind_w (nd_sectors nd (iteT rfl (pure_w hq)))
    refine bind_w (hf _ (bind_w (ho _ ?_)))
    refine iteT_b rfl (pure_b (iteT_b rfl (pure_b (iteT_b rfl (pure_b (iteT_b rfl (pure_b ?_)))))))
    exact pure_w ⟨rfl, EE⟩
end Gx
