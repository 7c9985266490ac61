/- Own proofs: what those Lean programs compute. No condition. -/
import Derived.Test.YtlmfpnogpolhhaaP0
import Derived.Test.YtlmfpnogpolhhaaP1
import Derived.Test.YtlmfpnogpolhhaaP2
import Derived.Test.YtlmfpnogpolhhaaP3
import Derived.Test.YtlmfpnogpolhhaaP4
import Derived.Test.YtlmfpnogpolhhaaP5
import Derived.Test.YtlmfpnogpolhhaaP6
set_option linter.unusedVariables false
set_option linter.unusedSimpArgs false
namespace Gx
open Go
set_option linter.unusedVariables false
set_option linter.unusedSimpArgs false
set_option maxRecDepth 20000
/-- a number's bytes -/
def venc (u : Nat) : List UInt8 := if h : u > 127 then UInt8.ofNat (u % 128 + 128) :: venc (u / 128) else [UInt8.ofNat u]
termination_by u
decreasing_by omega
theorem venc_big {u : Nat} (h : 127 < u) : venc u = UInt8.ofNat (u % 128 + 128) :: venc (u / 128) := by rw [venc, dif_pos h]
theorem venc_small {u : Nat} (h : u ≤ 127) : venc u = [UInt8.ofNat u] := by rw [venc, dif_neg (by omega)]
theorem venc_len : ∀ (n u : Nat), u < 128 ^ n → 1 ≤ n → (venc u).length ≤ n
  | 0, u, _, h => by omega
  | n + 1, u, h, _ => by
    by_cases hu : 127 < u
    · rw [venc_big hu, List.length_cons]
      have hn : 1 ≤ n := by
        rcases Nat.eq_zero_or_pos n with h0 | h0
        · subst h0; simp at h; omega
        · exact h0
      have : u / 128 < 128 ^ n := by
        rw [Nat.pow_succ] at h
        omega
      have := venc_len n (u / 128) this hn
      omega
    · rw [venc_small (by omega)]
      simp
theorem venc_pos (u : Nat) : 0 < (venc u).length := by
  by_cases hu : 127 < u
  · rw [venc_big hu]; simp
  · rw [venc_small (by omega)]; simp
theorem or128 {u : Nat} : iOr .u8 (IntKind.wrap .u8 (u : Int)) 128 = ((UInt8.ofNat (u % 128 + 128)).toNat : Int) := by
  have hw : IntKind.wrap .u8 (u : Int) = ((u % 256 : Nat) : Int) := by simp [IntKind.wrap, IntKind.signed, IntKind.bits]
  rw [hw]
  show IntKind.wrap .u8 (((BitVec.ofInt 8 ((u % 256 : Nat) : Int)) ||| (BitVec.ofInt 8 ((128 : Nat) : Int))).toNat : Int) = _
  rw [BitVec.ofInt_natCast, BitVec.ofInt_natCast, BitVec.toNat_or, BitVec.toNat_ofNat, BitVec.toNat_ofNat]
  have h1 : u % 256 % 2 ^ 8 = u % 256 := by omega
  have h2 : (128 : Nat) % 2 ^ 8 = 128 := rfl
  rw [h1, h2]
  have h3 : u % 256 ||| 128 = u % 128 + 128 := by
    have : ∀ x : Fin 256, x.val ||| 128 = x.val % 128 + 128 := by decide
    have h := this ⟨u % 256, by omega⟩
    simp only at h
    rw [h]
    omega
  rw [h3]
  have h4 : (UInt8.ofNat (u % 128 + 128)).toNat = u % 128 + 128 := by
    rw [UInt8.toNat_ofNat']
    omega
  rw [h4]
  simp [IntKind.wrap, IntKind.signed, IntKind.bits]
  omega
/-- one byte appended -/
theorem ap1B_b {β : Type} {lo : Nat} {h : Heap} {Q : β → Heap → Prop} {r : Sl} {l : List UInt8} {b : UInt8} {n : Int} {f : Sl → M β} (hn : n = (b.toNat : Int)) (H : Gw lo h r 1 (l.map bv)) (hb : l.length + 1 ≤ 140737488355328) (hlo : lo ≤ h.size)
    (hq : ∀ h' r', Gw lo h' r' 1 ((l ++ [b]).map bv) → Km (Sl.on r) h h' → (∀ i, Sl.on r' i → Sl.on r i ∨ h.size ≤ i) → (f r').wp h' Q) :
    (bdL ty_uint8 1 #[.int .u8 n] >>= fun x => apL ty_uint8 1 1 (#[.int .u8 0] : Array Value) r x >>= f).wp h Q := by
  subst hn
  refine bdL_b ?_
  have hl := H.bys.len
  have e1 := Ext.push h (.cells #[.int .u8 (b.toNat : Int)] ty_uint8)
  have g1 : (h.push (.cells #[.int .u8 (b.toNat : Int)] ty_uint8))[h.size]? = some (.cells #[.int .u8 (b.toNat : Int)] ty_uint8 (0, 0)) := get_push_eq
  have s1 : (h.push (.cells #[.int .u8 (b.toNat : Int)] ty_uint8)).size = h.size + 1 := by simp
  generalize h.push (.cells #[.int .u8 (b.toNat : Int)] ty_uint8) = h1 at e1 g1 s1 ⊢
  refine bind_w (ap_grow (lo := lo) (news := [bv b]) rfl (H.ext e1) (by simp) (.inr ⟨_, rfl, fun j x hj => ?_⟩) (by simp; rfl) (by simp; omega) (by simp; omega) (by omega) (fun h2 r2 g2 hl2 hs2 hk2 ho2 => ?_))
  · rcases j with _ | j
    · simp at hj; subst hj
      rw [add_mk, hcell_blk g1]; rfl
    · simp at hj
  · refine hq h2 r2 (by rw [List.map_append]; exact g2) ⟨by omega, fun i hi hn => ?_⟩ (fun i hi => ?_)
    · rw [hk2 i (by omega) hn, e1.same i hi]
    · rcases ho2 i hi with h3 | h3
      · exact .inl h3
      · right; omega
/-- bytes appended to a slice of one's own -/
theorem apB_b {β : Type} {lo : Nat} {h : Heap} {Q : β → Heap → Prop} {r s : Sl} {l m : List UInt8} {f : Sl → M β} (H : Gw lo h r 1 (l.map bv)) (hs : Bys h s m) (hb : l.length + m.length ≤ 140737488355328) (hlo : lo ≤ h.size)
    (hq : ∀ h' r', Gw lo h' r' 1 ((l ++ m).map bv) → Km (Sl.on r) h h' → (∀ i, Sl.on r' i → Sl.on r i ∨ h.size ≤ i) → (f r').wp h' Q) :
    (apL ty_uint8 1 1 (#[.int .u8 0] : Array Value) r s >>= f).wp h Q := by
  have hl := H.bys.len
  have hm := hs.len
  refine bind_w (ap_grow (lo := lo) (news := m.map bv) rfl H (by rw [List.length_map]; omega) hs.at_ (fun v hv => ?_) (by omega) (by omega) hlo (fun h2 r2 g2 hl2 hs2 hk2 ho2 => ?_))
  · obtain ⟨b, _, rfl⟩ := List.mem_map.1 hv
    rfl
  · exact hq h2 r2 (by rw [List.map_append]; exact g2) ⟨hs2, fun i hi hn => hk2 i hi hn⟩ ho2
theorem put_spec {h : Heap} {Q : Sl → Heap → Prop} {s : Sl} {l : List UInt8} {u : Nat} (hb : Bys h s l) (hu : u < 9223372036854775808) (hl : l.length ≤ 100000000000) (hq : ∀ h' r, Ext h h' → Gw h.size h' r 1 ((l ++ venc u).map bv) → Q r h') : (num_Put s (u : Int)).wp h Q := by
  unfold num_Put
  refine bind_w (clone_own hb (by omega) (fun h1 r1 e1 g1 => ?_))
  refine M.loop_inv (fun (t : Int × Sl) h' => ∃ (v : Nat) (d : List UInt8), t.1 = (v : Int) ∧ d ++ venc v = venc u ∧ v < 9223372036854775808 ∧ Ext h h' ∧ Gw h.size h' t.2 1 ((l ++ d).map bv)) (fun t _ => t.1.toNat) ?_ ⟨u, [], rfl, rfl, hu, e1, by simpa using g1⟩
  have hvl : (venc u).length ≤ 9 := venc_len 9 u (by omega) (by omega)
  rintro ⟨t, r⟩ h' ⟨v, d, ht, hd, hv, E, g⟩ self hself
  dsimp only at ht g
  subst ht
  have hdl : d.length + (venc v).length = (venc u).length := by rw [← hd, List.length_append]
  have hvp := venc_pos v
  unfold num_Put_l1
  refine ite_w (fun hc => ?_) (fun hc => ?_)
  · have hc : 127 < v := by have := of_decide_eq_true hc; omega
    refine ap1B_b or128 g (by rw [List.length_append]; omega) E.size (fun h2 r2 g2 k2 _ => ?_)
    have hs : iShr .u64 (v : Int) 7 = ((v / 128 : Nat) : Int) := (iShr_nn (k := .u64) (x := (v : Int)) (m := 7) (by omega) (by decide)).trans (by omega)
    rw [hs]
    refine hself _ _ ⟨v / 128, d ++ [UInt8.ofNat (v % 128 + 128)], rfl, ?_, by omega, E.km k2 (fun i hi => (g.lt hi).2), by rw [← List.append_assoc]; exact g2⟩ (by dsimp only; omega)
    rw [← hd, venc_big hc]
    simp
  · have hc : v ≤ 127 := by have := of_decide_eq_false hc; omega
    have hw : IntKind.wrap .u8 (v : Int) = ((UInt8.ofNat v).toNat : Int) := by
      have h4 : (UInt8.ofNat v).toNat = v := by rw [UInt8.toNat_ofNat']; omega
      rw [h4]
      simp [IntKind.wrap, IntKind.signed, IntKind.bits]
      omega
    refine ap1B_b hw g (by rw [List.length_append]; omega) E.size (fun h2 r2 g2 k2 _ => pure_w (hq _ _ (E.km k2 (fun i hi => (g.lt hi).2)) ?_))
    rw [← hd, venc_small hc, ← List.append_assoc]
    exact g2
theorem take_spec {h : Heap} {Q : Int × Int × Int → Heap → Prop} {s : Sl} {u : Nat} {rest : List UInt8} (hb : Bys h s (venc u ++ rest)) (hu : u < 9223372036854775808) (hq : Q ((u : Int), ((venc u).length : Int), 0) h) : (num_Take s).wp h Q := by
  unfold num_Take
  refine M.loop_inv (fun (t : Int × Int) h' => h' = h ∧ ∃ (i v : Nat) (d : List UInt8), t.2 = (i : Int) ∧ d ++ venc v = venc u ∧ d.length = i ∧ t.1 = ((u % 128 ^ i : Nat) : Int) ∧ v = u / 128 ^ i ∧ (i = 0 ∨ 0 < v)) (fun t _ => (10 - t.2).toNat) ?_ ⟨rfl, 0, u, [], rfl, rfl, rfl, by simp [Nat.mod_one], by simp, .inl rfl⟩
  have hvl : (venc u).length ≤ 9 := venc_len 9 u (by omega) (by omega)
  rintro ⟨a, t⟩ h' ⟨rfl, i, v, d, ht, hd, hdi, ha, hv, hiv⟩ self hself
  dsimp only at ht ha
  subst ht; subst ha
  have hdl : d.length + (venc v).length = (venc u).length := by rw [← hd, List.length_append]
  have hvp := venc_pos v
  have hi9 : i < 9 := by omega
  unfold num_Take_l1
  have hlen := hb.len
  rw [List.length_append] at hlen
  refine iteT (by simp; omega) ?_
  have hne : ((i : Int) == (s.len : Int)) = false := by simp; omega
  refine iteF hne ?_
  -- the byte
  obtain ⟨b, tl, hbt⟩ : ∃ b tl, venc v = b :: tl := by
    cases h' : venc v with
    | nil => rw [h'] at hvp; simp at hvp
    | cons b tl => exact ⟨b, tl, rfl⟩
  have hget : (venc u ++ rest)[i]? = some b := by
    rw [← hd, hbt, List.append_assoc, List.getElem?_append_right (by omega), hdi, Nat.sub_self]
    rfl
  have hilt : i < (venc u ++ rest).length := by rw [List.length_append]; omega
  obtain ⟨ad, hbase, hcell⟩ := hb.get hilt
  rw [List.getElem?_eq_getElem hilt] at hget
  have hbv : (venc u ++ rest)[i] = b := by simpa using hget
  rw [hbv] at hcell
  have rd : ∀ {γ : Type} {f : Int → M γ} {R : γ → Heap → Prop}, (f (b.toNat : Int)).wp h' R → (ixL s (i : Int) 1 >>= fun x => ldI .u8 x >>= f).wp h' R := fun hf =>
    ixL_b (by omega) (by omega) hbase (ldI_b (n := (b.toNat : Int)) (by rw [show (i : Int).toNat * 1 = i by omega]; exact hcell) hf)
  refine rd ?_
  have hblt := b.toNat_lt
  have hand : iAnd .u8 (b.toNat : Int) 127 = ((b.toNat % 128 : Nat) : Int) := by
    show IntKind.wrap .u8 (((BitVec.ofInt 8 ((b.toNat : Nat) : Int)) &&& (BitVec.ofInt 8 ((127 : Nat) : Int))).toNat : Int) = _
    rw [BitVec.ofInt_natCast, BitVec.ofInt_natCast, BitVec.toNat_and, BitVec.toNat_ofNat, BitVec.toNat_ofNat]
    have h1 : b.toNat % 2 ^ 8 = b.toNat := by omega
    have h2 : (127 : Nat) % 2 ^ 8 = 2 ^ 7 - 1 := rfl
    rw [h1, h2, Nat.and_two_pow_sub_one_eq_mod]
    simp [IntKind.wrap, IntKind.signed, IntKind.bits]
    omega
  have hpos : 0 < 128 ^ i := Nat.pow_pos (by decide)
  have hple : 128 ^ i ≤ 128 ^ 8 := Nat.pow_le_pow_right (by decide) (by omega)
  have hpe : 2 ^ (7 * i) = 128 ^ i := by rw [Nat.pow_mul]
  have hmlt : u % 128 ^ i < 128 ^ i := Nat.mod_lt _ hpos
  have hnext : u % 128 ^ (i + 1) = v % 128 * 128 ^ i + u % 128 ^ i := by
    rw [Nat.pow_succ, Nat.mod_mul, hv]
    rw [Nat.mul_comm (128 ^ i)]
    omega
  have hshl : iShl .u64 (IntKind.wrap .u64 ((b.toNat % 128 : Nat) : Int)) (IntKind.wrap .i64 (7 * (i : Int))) = ((b.toNat % 128 * 128 ^ i : Nat) : Int) := by
    have w : ∀ n, IntKind.wrap .u64 n = n % 18446744073709551616 := fun n => by simp [IntKind.wrap, IntKind.signed, IntKind.bits]
    rw [w64 (by omega) (by omega), w]
    have e0 : (((b.toNat % 128 : Nat) : Int) % 18446744073709551616) = ((b.toNat % 128 : Nat) : Int) := by omega
    rw [e0]
    have : iShl .u64 ((b.toNat % 128 : Nat) : Int) (7 * (i : Int)) = IntKind.wrap .u64 (((b.toNat % 128 : Nat) : Int) * 2 ^ min (7 * (i : Int)).toNat 64) := rfl
    rw [this, w, show min (7 * (i : Int)).toNat 64 = 7 * i by omega]
    have e1 : ((2 : Int) ^ (7 * i)) = ((128 ^ i : Nat) : Int) := by rw [← hpe]; norm_cast
    rw [e1]
    have e2 : b.toNat % 128 * 128 ^ i ≤ 127 * 128 ^ 8 := Nat.mul_le_mul (by omega) hple
    have e3 : (((b.toNat % 128 : Nat) : Int) * ((128 ^ i : Nat) : Int)) = ((b.toNat % 128 * 128 ^ i : Nat) : Int) := by norm_cast
    rw [e3]
    omega
  rw [hand]
  refine pShl_b (by rw [w64 (by omega) (by omega)]; omega) ?_
  rw [hshl]
  refine rd ?_
  have hor : iOr .u64 ((u % 128 ^ i : Nat) : Int) ((b.toNat % 128 * 128 ^ i : Nat) : Int) = ((b.toNat % 128 * 128 ^ i + u % 128 ^ i : Nat) : Int) := by
    have e2 : b.toNat % 128 * 128 ^ i ≤ 127 * 128 ^ 8 := Nat.mul_le_mul (by omega) hple
    show IntKind.wrap .u64 (((BitVec.ofInt 64 ((u % 128 ^ i : Nat) : Int)) ||| (BitVec.ofInt 64 ((b.toNat % 128 * 128 ^ i : Nat) : Int))).toNat : Int) = _
    rw [BitVec.ofInt_natCast, BitVec.ofInt_natCast, BitVec.toNat_or, BitVec.toNat_ofNat, BitVec.toNat_ofNat]
    have h1 : u % 128 ^ i % 2 ^ 64 = u % 128 ^ i := Nat.mod_eq_of_lt (by omega)
    have h2 : b.toNat % 128 * 128 ^ i % 2 ^ 64 = (b.toNat % 128) <<< (7 * i) := by
      rw [Nat.shiftLeft_eq, hpe]
      exact Nat.mod_eq_of_lt (by omega)
    rw [h1, h2, Nat.or_comm, ← Nat.shiftLeft_add_eq_or_of_lt (by rw [hpe]; exact hmlt), Nat.shiftLeft_eq, hpe]
    have w : ∀ n, IntKind.wrap .u64 n = n % 18446744073709551616 := fun n => by simp [IntKind.wrap, IntKind.signed, IntKind.bits]
    rw [w]
    omega
  rw [hor]
  have hwi : IntKind.wrap .i64 ((i : Int) + 1) = ((i + 1 : Nat) : Int) := by rw [w64 (by omega) (by omega)]; rfl
  rw [hwi]
  by_cases hbig : 127 < v
  · rw [venc_big hbig] at hbt
    have hb1 : b = UInt8.ofNat (v % 128 + 128) := ((List.cons.inj hbt).1).symm
    have htl : tl = venc (v / 128) := ((List.cons.inj hbt).2).symm
    have hbn : b.toNat = v % 128 + 128 := by rw [hb1, UInt8.toNat_ofNat']; omega
    refine iteT (by simp; omega) (hself _ _ ⟨rfl, i + 1, v / 128, d ++ [b], rfl, ?_, by simp [hdi], ?_, ?_, .inr (by omega)⟩ (by dsimp only; omega))
    · rw [← hd, venc_big hbig, hb1]
      simp
    · have e6 : b.toNat % 128 = v % 128 := by omega
      rw [hnext, e6]
    · rw [hv, Nat.div_div_eq_div_mul, ← Nat.pow_succ]
  · rw [venc_small (by omega)] at hbt
    have hb1 : b = UInt8.ofNat v := ((List.cons.inj hbt).1).symm
    have hbn : b.toNat = v := by rw [hb1, UInt8.toNat_ofNat']; omega
    have hvl1 : (venc v).length = 1 := by rw [venc_small (by omega)]; rfl
    refine iteF (by simp; omega) ?_
    have last : ∀ {R : Int × Int × Int → Heap → Prop}, R ((u : Int), ((venc u).length : Int), 0) h' → (M.pure ((((b.toNat % 128 * 128 ^ i + u % 128 ^ i : Nat) : Int)), ((i + 1 : Nat) : Int), (0 : Int)) : M (Int × Int × Int)).wp h' R := fun hR => by
      have e1 : b.toNat % 128 * 128 ^ i + u % 128 ^ i = u := by
        rw [hbn, Nat.mod_eq_of_lt (by omega : v < 128), hv]
        exact Nat.div_add_mod' u (128 ^ i)
      have e2 : i + 1 = (venc u).length := by omega
      rw [e1, e2]
      exact pure_w hR
    by_cases hi0 : i = 0
    · subst hi0
      refine iteF_b (by simp) (pure_b (iteF_b rfl (assoc_b (iteF_b (by simp) (pure_b (pure_b (iteF rfl (last hq))))))))
    · have hv0 : 0 < v := by rcases hiv with h' | h' <;> omega
      refine iteT_b (by simp; omega) (assoc_b (ixL_b (by omega) (by omega) hbase (assoc_b (ldI_b (n := (b.toNat : Int)) (by rw [show (i : Int).toNat * 1 = i by omega]; exact hcell) (pure_b ?_)))))
      refine iteF_b (by simp; omega) (assoc_b (iteF_b (by simp; omega) (pure_b (pure_b (iteF rfl (last hq))))))
end Gx
namespace Gx
open Go
set_option linter.unusedVariables false
set_option linter.unusedSimpArgs false
set_option maxRecDepth 20000
/-- a commit's bytes -/
def rbytes (r : List UInt8) : List UInt8 := venc r.length ++ r
def cbytes (rs : List (List UInt8)) : List UInt8 := venc rs.length ++ (rs.map rbytes).flatten
theorem flat_take' (L : List (List UInt8)) {k : Nat} (h : k < L.length) : (L.take (k + 1)).flatten = (L.take k).flatten ++ L[k] := by
  rw [List.take_add_one, List.getElem?_eq_getElem h, List.flatten_append]
  show _ ++ [L[k]].flatten = _
  rw [List.flatten_cons, List.flatten_nil, List.append_nil]
theorem flat_take_le' (L : List (List UInt8)) (k : Nat) : (L.take k).flatten.length ≤ L.flatten.length := by
  have : L.flatten = (L.take k).flatten ++ (L.drop k).flatten := by rw [← List.flatten_append, List.take_append_drop]
  rw [this, List.length_append]
  omega
theorem part_le' (L : List (List UInt8)) {k : Nat} (h : k < L.length) : L[k].length ≤ L.flatten.length := by
  have h1 := flat_take' L h
  have h2 := flat_take_le' L (k + 1)
  rw [h1, List.length_append] at h2
  omega
theorem Bss.get' {h : Heap} {x : Sl} {L : List (List UInt8)} (H : Bss h x L) {i : Nat} (hi : i < L.length) : ∃ (a : Addr) (s : Sl), x.base = some a ∧ hcell h (a.add i) = some s.v ∧ Bys h s L[i] := by
  rcases H.at_ with h1 | ⟨a, ha, h1⟩
  · subst h1; simp at hi
  · obtain ⟨s, hs, hb⟩ := h1 i _ (List.getElem?_eq_getElem hi)
    exact ⟨a, s, ha, hs, hb⟩
theorem wrapu64 {n : Nat} (h : n < 18446744073709551616) : IntKind.wrap .u64 (n : Int) = (n : Int) := by
  simp [IntKind.wrap, IntKind.signed, IntKind.bits]
  omega
theorem cput_spec {h : Heap} {Q : Sl → Heap → Prop} {x : Sl} {L : List (List UInt8)} (hx : Bss h x L) (hL : (cbytes L).length ≤ 1000000000) (hl : L.length ≤ 1000000000) (hq : ∀ h' r, Ext h h' → Gw h.size h' r 1 ((cbytes L).map bv) → Q r h') : (wal_put x).wp h Q := by
  unfold wal_put
  rw [hx.len, wrapu64 (by omega)]
  have hcl : (cbytes L).length = (venc L.length).length + (L.map rbytes).flatten.length := by rw [cbytes, List.length_append]
  refine bind_w (put_spec (Bys.nil h) (by omega) (by simp) (fun h1 r1 e1 g1 => ?_))
  rw [List.nil_append] at g1
  refine M.loop_inv (fun (t : Sl × Int) h2 => Ext h h2 ∧ ∃ k : Nat, t.2 = (k : Int) ∧ k ≤ L.length ∧ Gw h.size h2 t.1 1 ((venc L.length ++ ((L.map rbytes).take k).flatten).map bv)) (fun t _ => ((L.length : Int) - t.2).toNat) ?_ ⟨e1, 0, rfl, Nat.zero_le _, by simpa using g1⟩
  rintro ⟨r, t⟩ h2 ⟨E, k, hkk, hk, hg⟩ self hself
  dsimp only at hkk hg
  subst hkk
  unfold wal_put_l1
  refine ite_w (fun hlt => ?_) (fun hge => ?_)
  · have hlt : k < L.length := by have := of_decide_eq_true hlt; omega
    obtain ⟨a, s, ha, hs, hb⟩ := (hx.ext E).get' hlt
    refine ixL_b (by omega) (by rw [hx.len]; omega) ha ?_
    refine ldL_b (n := s) (by rw [show (k : Int).toNat * 1 = k by omega]; exact hs) ?_
    have hbl := hb.len
    have hlm : k < (L.map rbytes).length := by rw [List.length_map]; exact hlt
    have h3 := flat_take_le' (L.map rbytes) k
    have h4 := part_le' (L.map rbytes) hlm
    have hrb : (L.map rbytes)[k] = rbytes L[k] := by simp
    rw [hrb, rbytes, List.length_append] at h4
    rw [hbl, wrapu64 (by omega)]
    refine bind_w (put_spec hg.bys (by omega) (by rw [List.length_append]; omega) (fun h3 r3 e3 g3 => ?_))
    refine apB_b (g3.weak E.size) (hb.ext e3) (by simp only [List.length_append]; omega) (E.trans e3).size (fun h4 r4 g4 k4 _ => ?_)
    rw [w64 (by omega) (by omega)]
    refine hself _ _ ⟨(E.trans e3).km k4 (fun i hi => Nat.le_trans E.size (g3.lt hi).2), k + 1, by simp, by omega, ?_⟩ (by dsimp only; omega)
    rw [flat_take' _ hlm, hrb, rbytes]
    simpa using g4
  · have hge : k = L.length := by have := of_decide_eq_false hge; omega
    subst hge
    have : (L.map rbytes).take L.length = L.map rbytes := List.take_of_length_le (by simp)
    rw [this] at hg
    exact pure_w (hq _ _ E hg)
theorem sum_ge (rs : List (List UInt8)) : rs.length ≤ (rs.map rbytes).flatten.length := by
  induction rs with
  | nil => simp
  | cons r rs ih =>
    rw [List.map_cons, List.flatten_cons, List.length_append, List.length_cons, rbytes, List.length_append]
    have := venc_pos r.length
    omega
/-- a part of a slice, behind a number of bytes -/
theorem tail_slice {s : Sl} {h : Heap} {l : List UInt8} {k : Nat} (hb : Bys h s l) (hc : s.len ≤ s.cap) (hk : k ≤ l.length) :
    Bys h ⟨if s.cap = (k : Int).toNat then s.base else s.base.map (·.add ((k : Int).toNat * 1)), (s.len : Int).toNat - (k : Int).toNat, s.cap - (k : Int).toNat⟩ (l.drop k) ∧ (s.len : Int).toNat - (k : Int).toNat ≤ s.cap - (k : Int).toNat := by
  have hl := hb.len
  refine ⟨?_, by omega⟩
  have e : l.drop k = (l.drop k).take (l.length - k) := by rw [List.take_of_length_le (by simp)]
  rw [e, show (s.len : Int).toNat - (k : Int).toNat = l.length - k by omega]
  refine bys_part hb (by omega) (c := 0) ?_
  split
  · right; omega
  · left; rw [show (k : Int).toNat * 1 = k by omega]
theorem records_spec {h : Heap} {Q : Sl × Bool → Heap → Prop} {s : Sl} {rs : List (List UInt8)} (hb : Bys h s (cbytes rs)) (hc : s.len ≤ s.cap) (hl : (cbytes rs).length ≤ 1000000000)
    (hq : ∀ h' r ss, Ext h h' → Gws h.size h' r ss → Bsl h' ss rs → (∀ s ∈ ss, ∀ i, Sl.on s i → h.size ≤ i) → Q (r, true) h') : (wal_records s).wp h Q := by
  unfold wal_records
  have hcl : (cbytes rs).length = (venc rs.length).length + (rs.map rbytes).flatten.length := by rw [cbytes, List.length_append]
  have hsg := sum_ge rs
  have hlen := hb.len
  refine bind_w (take_spec (u := rs.length) (rest := (rs.map rbytes).flatten) hb (by omega) ?_)
  refine iteF_b rfl (pure_b (iteF ?_ ?_))
  · rw [wrapu64 (by omega)]
    simp; omega
  dsimp only
  obtain ⟨hb2, hc2⟩ := tail_slice hb hc (k := (venc rs.length).length) (by omega)
  refine slL_b (by omega) (by omega) (by omega) ?_
  have hd : (cbytes rs).drop (venc rs.length).length = (rs.map rbytes).flatten := by rw [cbytes, List.drop_left]
  rw [hd] at hb2
  refine M.loop_inv (fun (t : Sl × Sl × Int) h' => Ext h h' ∧ t.1.len ≤ t.1.cap ∧ ∃ (k : Nat) (ss : List Sl), t.2.2 = (k : Int) ∧ k ≤ rs.length ∧ Bys h' t.1 ((rs.drop k).map rbytes).flatten ∧ (∀ i, Sl.on t.1 i → 0 < t.1.len → i < h.size) ∧ Gws h.size h' t.2.1 ss ∧ Bsl h' ss (rs.take k) ∧ (∀ s ∈ ss, ∀ i, Sl.on s i → h.size ≤ i)) (fun t _ => ((rs.length : Int) - t.2.2).toNat) ?_
    ⟨Ext.refl h, hc2, 0, [], rfl, Nat.zero_le _, hb2, fun i hi h0 => ?_, Gws.nil _ _, by simpa using Bsl.nil h, fun s hs => (by cases hs)⟩
  · rintro ⟨y, r, t⟩ h' ⟨E, hyc, k, ss, hkk, hk, hy, hon, hg, hss, hlo⟩ self hself
    dsimp only at hyc hkk hy hon hg
    subst hkk
    have hyl := hy.len
    have hskl : ss.length = k := by rw [hss.1, List.length_take]; omega
    unfold wal_records_l1
    refine ite_w (fun hlt => ?_) (fun hge => ?_)
    · have hlt : k < rs.length := by have := of_decide_eq_true hlt; omega
      have hdk : rs.drop k = rs[k] :: rs.drop (k + 1) := List.drop_eq_getElem_cons hlt
      rw [hdk, List.map_cons, List.flatten_cons, rbytes] at hy hyl
      simp only [List.length_append] at hyl
      have hsub : ((rs.drop k).map rbytes).flatten.length ≤ (rs.map rbytes).flatten.length := by
        have e : rs.map rbytes = (rs.take k).map rbytes ++ (rs.drop k).map rbytes := by rw [← List.map_append, List.take_append_drop]
        rw [e, List.flatten_append, List.length_append]; omega
      rw [hdk, List.map_cons, List.flatten_cons, rbytes] at hsub
      simp only [List.length_append] at hsub
      have hy' : Bys h' y (venc rs[k].length ++ (rs[k] ++ ((rs.drop (k + 1)).map rbytes).flatten)) := by rw [← List.append_assoc]; exact hy
      refine bind_w (take_spec (u := rs[k].length) (rest := rs[k] ++ ((rs.drop (k + 1)).map rbytes).flatten) hy' (by omega) ?_)
      refine iteF_b rfl (pure_b (iteF ?_ ?_))
      · dsimp only
        rw [w64 (by omega) (by omega)]
        have e : ((y.len : Int) - ((venc rs[k].length).length : Int)) = ((y.len - (venc rs[k].length).length : Nat) : Int) := by omega
        rw [e, wrapu64 (by omega)]
        simp; omega
      dsimp only
      have ew : IntKind.wrap .i64 (((venc rs[k].length).length : Int) + IntKind.wrap .i64 (rs[k].length : Int)) = (((venc rs[k].length).length + rs[k].length : Nat) : Int) := by
        rw [w64 (n := (rs[k].length : Int)) (by omega) (by omega), w64 (by omega) (by omega)]
        omega
      rw [ew]
      generalize hv : (venc rs[k].length).length = v at *
      have hvp : 0 < v := by rw [← hv]; exact venc_pos _
      refine slL_b (by omega) (by omega) (by omega) ?_
      have hp : ∀ c, Bys h' ⟨if y.cap = (v : Int).toNat then y.base else y.base.map (·.add ((v : Int).toNat * 1)), ((v + rs[k].length : Nat) : Int).toNat - (v : Int).toNat, c⟩ rs[k] := fun c => by
        have e1 : rs[k] = (((venc rs[k].length ++ (rs[k] ++ ((rs.drop (k + 1)).map rbytes).flatten)).drop v).take rs[k].length) := by
          rw [← hv, List.drop_left, List.take_left]
        rw [show ((v + rs[k].length : Nat) : Int).toNat - (v : Int).toNat = rs[k].length by omega]
        have h5 := bys_part hy' (lo := v) (n := rs[k].length) (by simp only [List.length_append]; omega) (c := 0) (cap := c) (b := if y.cap = (v : Int).toNat then y.base else y.base.map (·.add ((v : Int).toNat * 1))) (by
          split
          · right; omega
          · left; rw [show (v : Int).toNat * 1 = v by omega])
        rw [← e1] at h5
        exact h5
      refine bind_w (clone_own (hp _) (by omega) (fun h2 q e2 g2 => ?_))
      refine ap1_b (s := q) (hg.ext e2) (fun i hi => ⟨fun ho => ?_, (g2.lt hi).1⟩) (by omega) (by have := E.size; have := e2.size; omega) (fun h3 r3 g3 k3 o3 => ?_)
      · have := (g2.lt hi).2
        have := (hg.gw.lt ho).1
        omega
      have E3 := (E.trans e2).km k3 (fun i hi => (hg.gw.lt hi).2)
      have hy3 : Bys h3 y (venc rs[k].length ++ (rs[k] ++ ((rs.drop (k + 1)).map rbytes).flatten)) := hy'.same (fun i hi => by
        have := hon i hi (by omega)
        rw [k3.same i (by have := E.size; have := e2.size; omega) (fun ho => by have := (hg.gw.lt ho).2; omega), e2.same i (by have := E.size; omega)])
      obtain ⟨hb4, hc4⟩ := tail_slice hy3 hyc (k := v + rs[k].length) (by simp only [List.length_append]; omega)
      have hd4 : (venc rs[k].length ++ (rs[k] ++ ((rs.drop (k + 1)).map rbytes).flatten)).drop (v + rs[k].length) = ((rs.drop (k + 1)).map rbytes).flatten := by
        rw [← List.drop_drop, ← hv, List.drop_left, List.drop_left]
      rw [hd4] at hb4
      try simp only [ew]
      refine slL_b (by omega) (by omega) (by omega) ?_
      have ek : IntKind.wrap .u64 ((k : Int) + 1) = ((k + 1 : Nat) : Int) := by
        rw [show ((k : Int) + 1) = ((k + 1 : Nat) : Int) by omega, wrapu64 (by omega)]
      rw [ek]
      refine hself _ _ ⟨E3, hc4, k + 1, ss ++ [q], rfl, by omega, hb4, fun i hi h0 => ?_, g3, ?_, ?_⟩ (by dsimp only; omega)
      · obtain ⟨a, ha, rfl⟩ := hi
        dsimp only at ha h0
        have : 0 < y.len := by omega
        split at ha
        · exact hon _ ⟨a, ha, rfl⟩ this
        · rw [Option.map_eq_some_iff] at ha
          obtain ⟨c, hc', rfl⟩ := ha
          exact hon _ ⟨c, hc', (add_block _ _).symm⟩ this
      · rw [List.take_add_one, List.getElem?_eq_getElem hlt]
        refine Bsl.push ?_ ?_
        · refine hss.same (fun s hs i hi => ?_)
          have := hg.off s hs i hi
          rw [k3.same i (by have := e2.size; omega) this.1, e2.same i this.2]
        · refine g2.bys.same (fun i hi => k3.same i (g2.lt hi).1 (fun ho => ?_))
          have := (g2.lt hi).2
          have := (hg.gw.lt ho).1
          omega
      · intro s' hs' i hi
        rcases List.mem_append.1 hs' with h' | h'
        · exact hlo s' h' i hi
        · have hsq : s' = q := by simpa using h'
          subst hsq
          have := (g2.lt hi).2
          have := E.size
          omega
    · have hge : k = rs.length := by have := of_decide_eq_false hge; omega
      subst hge
      rw [List.drop_length] at hy hyl
      have h0 : y.len = 0 := by rw [hyl]; rfl
      rw [List.take_length] at hss
      have e : ((y.len : Int) == 0) = true := by rw [h0]; rfl
      rw [e]
      exact pure_w (hq _ _ ss E hg hss hlo)
  · have hpos : 0 < (cbytes rs).length := by
      have := venc_pos rs.length
      omega
    obtain ⟨a', ha', hc'⟩ := hb.get hpos
    obtain ⟨a, ha, rfl⟩ := hi
    dsimp only at ha
    have hbl : a.block = a'.block := by
      split at ha
      · rw [ha] at ha'; cases ha'; rfl
      · rw [ha'] at ha
        simp at ha
        rw [← ha, add_block]
    unfold hcell at hc'
    rw [add_block] at hc'
    rcases Nat.lt_or_ge a'.block h.size with h' | h'
    · omega
    · rw [Array.getElem?_eq_none h'] at hc'
      cases hc'
end Gx
namespace Gx
open Go
set_option linter.unusedVariables false
set_option linter.unusedSimpArgs false
set_option maxRecDepth 20000
theorem ofIntN (k n : Nat) : BitVec.ofInt k (n : Int) = BitVec.ofNat k n := by
  apply BitVec.eq_of_toNat_eq; simp [BitVec.toNat_ofInt]
theorem at_eq {e x : Nat} (he : e < 2199023255552) (hx : x < 65536) : iOr .i64 (iShl .i64 (e : Int) 16) (x : Int) = ((e * 65536 + x : Nat) : Int) := by
  have h1 : iShl .i64 (e : Int) 16 = ((e * 65536 : Nat) : Int) := by
    unfold iShl
    rw [show (2 : Int) ^ min (16 : Int).toNat (IntKind.bits .i64) = 65536 from rfl, w64 (by omega) (by omega)]
    omega
  rw [h1, iOr, ofIntN, ofIntN, BitVec.toNat_or, BitVec.toNat_ofNat, BitVec.toNat_ofNat]
  show IntKind.wrap .i64 (((e * 65536) % 2 ^ 64 ||| x % 2 ^ 64 : Nat) : Int) = _
  rw [Nat.mod_eq_of_lt (by omega), Nat.mod_eq_of_lt (by omega)]
  have := Nat.shiftLeft_add_eq_or_of_lt (b := x) (i := 16) (by omega) e
  have h2 : e * 65536 + x = e * 65536 ||| x := by simpa [Nat.shiftLeft_eq] using this
  rw [← h2, w64n (by omega)]
theorem and1_eq {e : Nat} (he : e < 9223372036854775808) : iAnd .i64 (e : Int) 1 = ((e % 2 : Nat) : Int) := by
  rw [iAnd, show (1 : Int) = ((1 : Nat) : Int) from rfl, ofIntN, ofIntN, BitVec.toNat_and, BitVec.toNat_ofNat, BitVec.toNat_ofNat]
  show IntKind.wrap .i64 (((e % 2 ^ 64) &&& (1 % 2 ^ 64) : Nat) : Int) = _
  rw [Nat.mod_eq_of_lt (by omega), show (1 % 2 ^ 64) = 1 from rfl, Nat.and_one_is_mod, w64n (by omega)]
theorem Bys.keep {h h' : Heap} {s : Sl} {l : List UInt8} (hb : Bys h s l) (e : ∀ i, Sl.on s i → i < h.size → h'[i]? = h[i]?) : Bys h' s l := by
  refine ⟨hb.len, ?_⟩
  rcases hb.at_ with h1 | ⟨a, ha, h1⟩
  · exact .inl h1
  · refine .inr ⟨a, ha, fun j v hj => ?_⟩
    have h2 := h1 j v hj
    unfold hcell at h2 ⊢
    rw [add_block] at h2 ⊢
    have hlt : a.block < h.size := by
      rcases Nat.lt_or_ge a.block h.size with h' | h'
      · exact h'
      · rw [Array.getElem?_eq_none h'] at h2; cases h2
    rw [e a.block ⟨a, ha, rfl⟩ hlt]
    exact h2
theorem Bys.keepN {h h' : Heap} {s : Sl} {l : List UInt8} (hb : Bys h s l) (e : l ≠ [] → ∀ i, Sl.on s i → i < h.size → h'[i]? = h[i]?) : Bys h' s l := by
  by_cases hl : l = []
  · subst hl
    exact ⟨hb.len, .inl rfl⟩
  · exact hb.keep (e hl)
theorem Bys.ltN {h : Heap} {s : Sl} {l : List UInt8} (hb : Bys h s l) (hl : l ≠ []) {i : Nat} (hi : Sl.on s i) : i < h.size := by
  obtain ⟨a, ha, hc⟩ := hb.get (i := 0) (List.length_pos_iff.2 hl)
  obtain ⟨a', ha', rfl⟩ := hi
  rw [ha] at ha'
  cases ha'
  unfold hcell at hc
  rw [add_block] at hc
  rcases Nat.lt_or_ge a.block h.size with h' | h'
  · exact h'
  · rw [Array.getElem?_eq_none h'] at hc; cases hc
/-- a log -/
structure Lg where
  slots : Nat
  note : List UInt8
  epoch : Nat
  used : Nat
  stale : Bool
  broken : Bool
structure Lg.ok (L : Lg) : Prop where
  slots : L.slots ≤ 4096
  note : L.note.length ≤ 112
  epoch : L.epoch ≤ 1099511627776
  used : L.used ≤ L.slots
def lgc (p : Nat) (ns : Sl) (L : Lg) : Array Value := #[.pointer (some ⟨p, 0, none⟩), .int .i64 (L.slots : Int), ns.v, .int .i64 (L.epoch : Int), .int .i64 (L.used : Int), .bool L.stale, .bool L.broken]
/-- a log, and its disk -/
structure WalAt (h : Heap) (F : Fp) (D : Dk) (b o : Nat) (ns : Sl) (L : Lg) : Prop where
  dk : DkAt h F D
  blk : ∃ cs ty, h[b]? = some (.cells cs ty (0, 0)) ∧ ∀ i, i < 7 → cs[o + i]? = (lgc F.p ns L)[i]?
  note : Bys h ns L.note
  off : L.note ≠ [] → ∀ i, Sl.on ns i → i ≠ b ∧ ¬ F.on i
  nb : ¬ F.on b
  ok : L.ok
theorem cut_specO {h : Heap} {Q : Sl → Heap → Prop} {x : Sl} {l : List UInt8} (hb : Bys h x l) (hl : l.length ≤ 1000000000)
    (hq : ∀ h' r (ss : List Sl), Ext h h' → Gw h.size h' r 1 (ss.map Sl.v) → r.len = ss.length → Bsl h' ss (cuts l) → (∀ s ∈ ss, ∀ i, Sl.on s i → h.size ≤ i ∧ i < h'.size) → Q r h') : (sector_Cut x).wp h Q := by
  unfold sector_Cut
  refine bind_w (clone_own hb (by omega) (fun h1 s e1 g1 => ?_))
  have b1 := g1.bys
  have hlen := b1.len
  have hs1 := e1.size
  unfold slices_Chunk_slbyte_byte
  refine bind_w (mkB_b (mkB_b ?_))
  have e2 := Ext.push h1 (.cells #[s.v] ty_sl_uint8)
  have g2 : (h1.push (.cells #[s.v] ty_sl_uint8))[h1.size]? = some (.cells #[s.v] ty_sl_uint8 (0, 0)) := get_push_eq
  generalize h1.push (.cells #[s.v] ty_sl_uint8) = h2 at e2 g2 ⊢
  have e3 := Ext.push h2 (.cells #[.int .i64 112] ty_int)
  have g3 : (h2.push (.cells #[.int .i64 112] ty_int))[h2.size]? = some (.cells #[.int .i64 112] ty_int (0, 0)) := get_push_eq
  generalize h2.push (.cells #[.int .i64 112] ty_int) = h3 at e3 g3 ⊢
  refine ldI_b (n := 112) (by rw [hcell_blk g3]; rfl) (iteF rfl (pure_w ?_))
  refine bind_w (collect_byte_spec (N := (s.len + 111) / 112) (chunk_gives (e3.blk g2) g3 g1.capR (by omega)) (Ext.refl _) (by omega) (fun pre h => h) (fun h4 r xs e4 hxs g4 hl4 => pure_w ?_))
  subst hxs
  have E4 := ((e2.trans e3).trans e4)
  have hs4 := E4.size
  refine hq h4 r ((List.range ((s.len + 111) / 112)).map (pc s)) (e1.trans E4) (g4.weak (by have := e2.size; have := e3.size; omega)) (by rw [hl4]) ⟨by simp [cuts, hlen], fun i s' p hs' hi => ?_⟩ (fun s' hs' i hi => ?_)
  · have hi' : i < (l.length + 111) / 112 ∧ p = (l.drop (112 * i)).take 112 := by
      unfold cuts at hi
      rw [List.getElem?_map, Option.map_eq_some_iff] at hi
      obtain ⟨j, hj, rfl⟩ := hi
      obtain ⟨hlt, hv⟩ := List.getElem?_eq_some_iff.1 hj
      simp at hlt hv
      subst hv
      exact ⟨by omega, rfl⟩
    obtain ⟨hi1, rfl⟩ := hi'
    have hsp : s' = pc s i := by
      rw [List.getElem?_map, hlen, List.getElem?_range hi1] at hs'
      simpa using hs'.symm
    subst hsp
    have e : (l.drop (112 * i)).take 112 = (l.drop (112 * i)).take (min 112 (s.len - 112 * i)) := by
      rw [hlen]
      rcases Nat.le_total 112 (l.length - 112 * i) with h' | h'
      · rw [Nat.min_eq_left h']
      · rw [Nat.min_eq_right h', List.take_of_length_le (by simp; omega), List.take_of_length_le (by simp)]
    rw [e]
    refine (bys_part b1 (lo := 112 * i) (n := min 112 (s.len - 112 * i)) (by omega) (c := 0) (cap := min 112 (s.len - 112 * i)) ?_).ext E4
    by_cases h' : 112 * i + min 112 (s.len - 112 * i) = 112 * i
    · right; omega
    · left; rw [if_neg h', Nat.mul_one]
  · obtain ⟨k, hk, rfl⟩ := List.mem_map.1 hs'
    have : Sl.on s i := by
      obtain ⟨a, ha, rfl⟩ := hi
      unfold pc at ha
      dsimp only at ha
      split at ha
      · exact ⟨a, ha, rfl⟩
      · rw [Option.map_eq_some_iff] at ha
        obtain ⟨c, hc', rfl⟩ := ha
        exact ⟨c, hc', (add_block _ _).symm⟩
    have := g1.lt this
    omega
section
variable {h : Heap} {F : Fp} {D : Dk} {b o : Nat} {ns : Sl} {L : Lg}
theorem WalAt.ext {h' : Heap} (H : WalAt h F D b o ns L) (e : Ext h h') : WalAt h' F D b o ns L := by
  obtain ⟨cs, ty, h1, h2⟩ := H.blk
  exact ⟨H.dk.ext e, ⟨cs, ty, e.blk h1, h2⟩, H.note.ext e, H.off, H.nb, H.ok⟩
theorem WalAt.disk {h' : Heap} {D' : Dk} (H : WalAt h F D b o ns L) (k : Kp F h h') (d : DkAt h' F D') : WalAt h' F D' b o ns L := by
  obtain ⟨cs, ty, h1, h2⟩ := H.blk
  exact ⟨d, ⟨cs, ty, k.blk h1 H.nb, h2⟩, H.note.keepN (fun hN i hi hl => k.same i hl (H.off hN i hi).2), H.off, H.nb, H.ok⟩
theorem WalAt.cell (H : WalAt h F D b o ns L) {i : Nat} (hi : i < 7) : hcell h ((⟨b, o, none⟩ : Addr).add i) = (lgc F.p ns L)[i]? := by
  obtain ⟨cs, ty, h1, h2⟩ := H.blk
  rw [add_mk, hcell_blk h1, h2 i hi]
theorem WalAt.st {β : Type} {f : Unit → M β} {Q : β → Heap → Prop} {k : Nat} {v : Value} {L' : Lg} (H : WalAt h F D b o ns L) (hk : k < 7) (hk2 : k ≠ 2) (hv : one v = true) (hL : lgc F.p ns L' = (lgc F.p ns L).setIfInBounds k v) (hn : L'.note = L.note) (hok : L'.ok)
    (hq : ∀ h', Upd b h h' → WalAt h' F D b o ns L' → (f ()).wp h' Q) : (stV ((⟨b, o, none⟩ : Addr).add k) v >>= f).wp h Q := by
  obtain ⟨cs, ty, h1, h2⟩ := H.blk
  have hc : ∃ x, cs[o + k]? = some x := by rw [h2 k hk]; exact ⟨_, Array.getElem?_eq_getElem (show k < (lgc F.p ns L).size from hk)⟩
  obtain ⟨x, hx⟩ := hc
  rw [add_mk]
  have hlt : o + k < cs.size := by
    rcases Nat.lt_or_ge (o + k) cs.size with h' | h'
    · exact h'
    · rw [Array.getElem?_eq_none h'] at hx; cases hx
  refine stV_b (x := x) (by rw [hcell_blk h1]; exact hx) (hfrozen_blk h1) hv (hq _ (Upd.hset _ _ _ _) ⟨H.dk.upd (Upd.hset _ _ _ _) H.nb, ⟨_, ty, hset_at h1, fun i hi => ?_⟩, ?_, by rw [hn]; exact H.off, H.nb, hok⟩)
  · rw [hL]
    by_cases hik : i = k
    · subst hik
      rw [Array.getElem?_setIfInBounds_self_of_lt hlt, Array.getElem?_setIfInBounds_self_of_lt (show i < (lgc F.p ns L).size from hi)]
    · rw [Array.getElem?_setIfInBounds_ne (by omega), Array.getElem?_setIfInBounds_ne (by omega), h2 i hi]
  · rw [hn]
    exact H.note.keepN (fun hN i hi _ => hset_ne (H.off hN i hi).1)
theorem lcan_spec {Q : Int → Heap → Prop} (H : WalAt h F D b o ns L) (hq : Q (if L.broken then 62 else 0) h) : (wal_Log_can (some ⟨b, o, none⟩)).wp h Q := by
  unfold wal_Log_can
  refine iteF_b rfl (assoc_b (nilP_b ?_))
  refine assoc_b (ldP_b (n := some ⟨F.p, 0, none⟩) (by rw [H.cell (by omega)]; rfl) (pure_b ?_))
  refine iteF rfl (nilP_b (ldB_b (n := L.broken) (by rw [H.cell (by omega)]; rfl) ?_))
  cases hb : L.broken with
  | true => rw [hb] at hq; exact iteT rfl (pure_w hq)
  | false => rw [hb] at hq; exact iteF rfl (pure_w hq)
def Lg.told (L : Lg) (e : Int) : Lg := { L with broken := L.broken || (e != 0) }
theorem ltold_spec {Q : Int → Heap → Prop} {e : Int} (H : WalAt h F D b o ns L) (hq : ∀ h', Upd b h h' → WalAt h' F D b o ns (L.told e) → Q e h') : (wal_Log_told (some ⟨b, o, none⟩) e).wp h Q := by
  unfold wal_Log_told
  refine nilP_b (ldB_b (n := L.broken) (by rw [H.cell (by omega)]; rfl) ?_)
  have key : (M.ite L.broken (M.pure true) (M.pure (e != 0)) : M Bool) = M.pure (L.broken || (e != 0)) := by cases L.broken <;> rfl
  rw [key]
  refine pure_b (nilP_b (H.st (L' := L.told e) (k := 6) (by omega) (by omega) rfl rfl rfl ⟨H.ok.slots, H.ok.note, H.ok.epoch, H.ok.used⟩ (fun h' u W => pure_w (hq h' u W))))
theorem lat_spec {Q : Int → Heap → Prop} {x : Nat} (H : WalAt h F D b o ns L) (hx : x < 65536) (hq : Q ((L.epoch * 65536 + x : Nat) : Int) h) : (wal_Log_at (some ⟨b, o, none⟩) (x : Int)).wp h Q := by
  unfold wal_Log_at
  refine nilP_b (ldI_b (n := (L.epoch : Int)) (by rw [H.cell (by omega)]; rfl) (pure_w ?_))
  rw [at_eq (by have := H.ok.epoch; omega) hx]
  exact hq
def hpay (slots : Nat) (note : List UInt8) : List UInt8 := venc slots ++ note
def Dk.head (D : Dk) (L : Lg) (e : Nat) : Dk × Int := D.put ((e % 2 : Nat) : Int) 1 (e : Int) (hpay L.slots L.note)
theorem lhead_spec {Q : Int → Heap → Prop} {e : Nat} (H : WalAt h F D b o ns L) (he : e < 9223372036854775808)
    (hq : ∀ h', Kp F h h' → WalAt h' F (D.head L e).1 b o ns L → Q (D.head L e).2 h') : (wal_Log_head (some ⟨b, o, none⟩) (e : Int)).wp h Q := by
  unfold wal_Log_head
  have hs := H.ok.slots
  have hn := H.ok.note
  refine nilP_b (nilP_b (ldI_b (n := (L.slots : Int)) (by rw [H.cell (by omega)]; rfl) (ldL_b (n := ns) (by rw [H.cell (by omega)]; rfl) ?_)))
  rw [wrapu64 (by omega)]
  refine bind_w (put_spec (Bys.nil h) (by omega) (by simp) (fun h1 r1 e1 g1 => ?_))
  have H1 := H.ext e1
  refine chk_b ⟨by rw [H1.cell (by omega)]; rfl, by rw [H1.cell (by omega)]; rfl⟩ ?_
  have hvl := venc_len 2 L.slots (by omega) (by omega)
  refine apB_b (g1.weak (Nat.le_refl _)) H1.note (by simp only [List.nil_append]; omega) e1.size (fun h2 r2 g2 k2 _ => ?_)
  have E2 : Ext h h2 := e1.km k2 (fun i hi => (g1.lt hi).2)
  have H2 := H.ext E2
  refine nilP_b (ldP_b (n := some ⟨F.p, 0, none⟩) (by rw [H2.cell (by omega)]; rfl) ?_)
  rw [and1_eq he]
  have hp : Bys h2 r2 (hpay L.slots L.note) := by have := g2.bys; simpa [hpay] using this
  refine bind_w (dput_spec H2.dk (k := 1) (n := (e : Int)) (s := r2) rfl hp (by simp only [hpay, List.length_append]; omega) (by omega) (fun h3 k3 d3 => pure_w (hq h3 ((Kp.ext E2).trans k3) (H2.disk k3 d3))))
end
end Gx
namespace Gx
open Go
set_option linter.unusedVariables false
set_option linter.unusedSimpArgs false
set_option maxRecDepth 20000
def wputs (ep used tot : Nat) : List (List UInt8) → Nat → Dk → Dk × Int
  | [], _, D => (D, 0)
  | p :: ps, i, D =>
    let r := D.put ((2 + used + i : Nat) : Int) (if i + 1 = tot then 3 else 2) ((ep * 65536 + (used + i) : Nat) : Int) p
    if r.2 ≠ 0 then r else wputs ep used tot ps (i + 1) r.1
def Lg.append (L : Lg) (D : Dk) (rs : List (List UInt8)) : Dk × Lg × Int :=
  if L.broken then (D, L, 62) else if L.stale then (D, L, 61) else
  let ps := cuts (cbytes rs)
  if L.slots - L.used < ps.length then (D, L, 6) else
  let r := wputs L.epoch L.used ps.length ps 0 D
  if r.2 ≠ 0 then (r.1, L.told r.2, r.2) else
  if r.1.flush.2 ≠ 0 then (r.1.flush.1, L.told r.1.flush.2, r.1.flush.2) else
  (r.1.flush.1, { L with used := L.used + ps.length }, 0)
/-- the blocks of a log and its disk -/
def wK (F : Fp) (b : Nat) : Nat → Prop := fun i => F.on i ∨ i = b
theorem Kp.wk {F : Fp} {h h' : Heap} (k : Kp F h h') (b : Nat) : Km (wK F b) h h' := ⟨k.size, fun i hi hn => k.same i hi (fun ho => hn (.inl ho))⟩
theorem Upd.wk {b : Nat} {h h' : Heap} (u : Upd b h h') (F : Fp) : Km (wK F b) h h' := Km.upd u (.inr rfl)
theorem told0 {L : Lg} (hb : L.broken = false) : L.told 0 = L := by
  cases L; dsimp only at hb; subst hb; rfl
section
variable {h : Heap} {F : Fp} {D : Dk} {b o : Nat} {ns : Sl} {L : Lg}
theorem WalAt.lt (H : WalAt h F D b o ns L) : b < h.size := by
  obtain ⟨cs, ty, h1, _⟩ := H.blk
  exact blk_lt h1
theorem WalAt.wlt (H : WalAt h F D b o ns L) {i : Nat} (hi : wK F b i) : i < h.size := by
  rcases hi with h1 | rfl
  · exact H.dk.lt h1
  · exact H.lt
theorem append_j1 {Q : Int → Heap → Prop} {self : Int → M Int} {k : Nat} {c kd at' : Int} {s : Sl} {p : List UInt8} {fb : Nat} (H : WalAt h F D b o ns L) (hbr : L.broken = false) (f1 : FB h fb kd at' s) (hs : Bys h s p) (hp : p.length ≤ 1000000000) (ha : at' ≤ 9223372036854775807) (hk : k ≤ 4096) (hc : c = (k : Int))
    (hbad : (D.put ((2 + L.used + k : Nat) : Int) kd at' p).2 ≠ 0 → ∀ h', Km (wK F b) h h' → WalAt h' F (D.put ((2 + L.used + k : Nat) : Int) kd at' p).1 b o ns (L.told (D.put ((2 + L.used + k : Nat) : Int) kd at' p).2) → Q (D.put ((2 + L.used + k : Nat) : Int) kd at' p).2 h')
    (hgo : (D.put ((2 + L.used + k : Nat) : Int) kd at' p).2 = 0 → ∀ h', Km (wK F b) h h' → WalAt h' F (D.put ((2 + L.used + k : Nat) : Int) kd at' p).1 b o ns L → (self ((k + 1 : Nat) : Int)).wp h' Q) :
    (wal_Log_Append_j1 self (some ⟨b, o, none⟩) (k : Int) ⟨fb, 0, none⟩ c).wp h Q := by
  subst hc
  unfold wal_Log_Append_j1
  have hu := H.ok.used
  have hsl := H.ok.slots
  refine nilP_b (nilP_b (ldP_b (n := some ⟨F.p, 0, none⟩) (by rw [H.cell (by omega)]; rfl) (ldI_b (n := (L.used : Int)) (by rw [H.cell (by omega)]; rfl) ?_)))
  refine ldF f1 ?_
  have ew : IntKind.wrap .i64 (IntKind.wrap .i64 (2 + (L.used : Int)) + (k : Int)) = ((2 + L.used + k : Nat) : Int) := by
    rw [w64 (n := 2 + (L.used : Int)) (by omega) (by omega), w64 (by omega) (by omega)]; omega
  rw [ew]
  refine bind_w (dput_spec H.dk rfl hs (by omega) ha (fun h1 k1 d1 => ?_))
  have H1 := H.disk k1 d1
  refine bind_w (ltold_spec H1 (fun h2 u2 H2 => ?_))
  have K := (k1.wk b).trans (u2.wk F)
  refine ite_w (fun hc => ?_) (fun hc => ?_)
  · exact pure_w (hbad (by simpa using hc) _ K H2)
  · have h0 : (D.put ((2 + L.used + k : Nat) : Int) kd at' p).2 = 0 := by simpa using hc
    rw [h0, told0 hbr] at H2
    rw [show IntKind.wrap .i64 ((k : Int) + 1) = ((k + 1 : Nat) : Int) by rw [w64 (by omega) (by omega)]; omega]
    exact hgo h0 _ K H2
theorem cuts_le (l : List UInt8) : ∀ p ∈ cuts l, p.length ≤ 112 := by
  intro p hp
  unfold cuts at hp
  obtain ⟨k, _, rfl⟩ := List.mem_map.1 hp
  simp; omega
theorem lappend_spec {Q : Int → Heap → Prop} {x : Sl} {rs : List (List UInt8)} (H : WalAt h F D b o ns L) (hx : Bss h x rs) (hL : (cbytes rs).length ≤ 1000000000) (hl : rs.length ≤ 1000000000)
    (hq : ∀ h', Km (wK F b) h h' → WalAt h' F (L.append D rs).1 b o ns (L.append D rs).2.1 → Q (L.append D rs).2.2 h') : (wal_Log_Append (some ⟨b, o, none⟩) x).wp h Q := by
  unfold wal_Log_Append
  have hu := H.ok.used
  have hsl := H.ok.slots
  have hep := H.ok.epoch
  refine bind_w (lcan_spec H ?_)
  cases hb : L.broken with
  | true =>
    have e : L.append D rs = (D, L, 62) := by rw [Lg.append, if_pos hb]
    rw [e] at hq
    exact iteT rfl (pure_w (hq h (Km.refl _ _) H))
  | false =>
  refine iteF rfl (nilP_b (ldB_b (n := L.stale) (by rw [H.cell (by omega)]; rfl) ?_))
  cases hst : L.stale with
  | true =>
    have e : L.append D rs = (D, L, 61) := by rw [Lg.append, if_neg (by simp [hb]), if_pos hst]
    rw [e] at hq
    exact iteT rfl (pure_w (hq h (Km.refl _ _) H))
  | false =>
  refine iteF rfl (bind_w (cput_spec hx hL hl (fun h1 r1 e1 g1 => ?_)))
  refine bind_w (cut_specO g1.bys hL (fun h2 r ss e2 gr hrl hss hon => ?_))
  have E2 := e1.trans e2
  have H2 := H.ext E2
  refine nilP_b (nilP_b (ldI_b (n := (L.slots : Int)) (by rw [H2.cell (by omega)]; rfl) (ldI_b (n := (L.used : Int)) (by rw [H2.cell (by omega)]; rfl) ?_)))
  rw [w64 (n := (L.slots : Int) - (L.used : Int)) (by omega) (by omega), hrl, hss.1]
  generalize hps : cuts (cbytes rs) = ps at *
  refine ite_w (fun hc => ?_) (fun hc => ?_)
  · have hgt : L.slots - L.used < ps.length := by have := of_decide_eq_true hc; omega
    have e : L.append D rs = (D, L, 6) := by rw [Lg.append, if_neg (by simp [hb]), if_neg (by simp [hst])]; dsimp only; rw [hps, if_pos hgt]
    rw [e] at hq
    exact pure_w (hq h2 (Km.ext E2) H2)
  have hle : ¬ L.slots - L.used < ps.length := by have := of_decide_eq_false hc; omega
  have e : L.append D rs = (let r := wputs L.epoch L.used ps.length ps 0 D
    if r.2 ≠ 0 then (r.1, L.told r.2, r.2) else
    if r.1.flush.2 ≠ 0 then (r.1.flush.1, L.told r.1.flush.2, r.1.flush.2) else
    (r.1.flush.1, { L with used := L.used + ps.length }, 0)) := by
    rw [Lg.append, if_neg (by simp [hb]), if_neg (by simp [hst])]; dsimp only; rw [hps, if_neg hle]
  dsimp only at e
  generalize hA : L.append D rs = A at hq e
  refine M.loop_inv (fun (t : Int) h' => Km (wK F b) h2 h' ∧ ∃ (k : Nat) (D' : Dk), t = (k : Int) ∧ k ≤ ps.length ∧ WalAt h' F D' b o ns L ∧ wputs L.epoch L.used ps.length ps 0 D = wputs L.epoch L.used ps.length (ps.drop k) k D') (fun t _ => ((ps.length : Int) - t).toNat) ?_
    ⟨Km.refl _ _, 0, D, rfl, Nat.zero_le _, H2, by rw [List.drop_zero]⟩
  rintro t h' ⟨K, k, D', rfl, hk, W, hw⟩ self hself
  have KK := (Km.ext (S := wK F b) E2).trans K
  unfold wal_Log_Append_l1
  refine ite_w (fun hlt => ?_) (fun hge => ?_)
  · have hlt : k < ps.length := by have := of_decide_eq_true hlt; omega
    have hks : k < ss.length := by rw [hss.1]; exact hlt
    -- the piece
    have hfr : ∀ i, h.size ≤ i → i < h2.size → h'[i]? = h2[i]? := fun i h1 h3 => K.same i h3 (fun ho => by have := H.wlt ho; omega)
    obtain ⟨rb, hrb, hrc⟩ := gr.cell (j := k) (v := ss[k].v) (by rw [List.getElem?_map, List.getElem?_eq_getElem hks]; rfl)
    have hrbb := gr.lt ⟨_, hrb, rfl⟩
    have hcell : hcell h' ⟨rb, k, none⟩ = some ss[k].v := by
      rw [← hrc]
      unfold hcell
      rw [hfr _ (by have := e1.size; have h9 : h1.size ≤ rb := hrbb.2; show h.size ≤ rb; omega) hrbb.1]
    have hsb : Bys h' ss[k] ps[k] := (hss.2 k _ _ (List.getElem?_eq_getElem hks) (List.getElem?_eq_getElem hlt)).same (fun i hi => by
      have := hon _ (List.getElem_mem hks) i hi
      exact hfr i (by have := e1.size; omega) this.2)
    have hpl : ps[k].length ≤ 112 := by
      have := cuts_le (cbytes rs)
      rw [hps] at this
      exact this _ (List.getElem_mem hlt)
    refine ixL_b (by omega) (by rw [hrl, hss.1]; omega) hrb ?_
    refine ldL_b (n := ss[k]) (by rw [add_mk, show 0 + (k : Int).toNat * 1 = k by omega]; exact hcell) ?_
    refine nilP_b (ldI_b (n := (L.used : Int)) (by rw [W.cell (by omega)]; rfl) ?_)
    rw [show IntKind.wrap .i64 ((L.used : Int) + (k : Int)) = ((L.used + k : Nat) : Int) by rw [w64 (by omega) (by omega)]; omega]
    refine bind_w (lat_spec W (by omega) ?_)
    refine mkF (k := 0) (n := 0) (s := Sl.nil) (Ext.refl h') (fun h3 _ e3 s3 f3 => ?_)
    refine need_b rfl ?_
    refine stF (k' := 2) (n' := ((L.epoch * 65536 + (L.used + k) : Nat) : Int)) (s' := ss[k]) f3 (fun h4 u4 f4 => ?_)
    have E4 : Ext h' h4 := e3.upd u4 (Nat.le_refl _)
    have W4 := W.ext E4
    have hwk : wputs L.epoch L.used ps.length (ps.drop k) k D' = (let r := D'.put ((2 + L.used + k : Nat) : Int) (if k + 1 = ps.length then 3 else 2) ((L.epoch * 65536 + (L.used + k) : Nat) : Int) ps[k]
        if r.2 ≠ 0 then r else wputs L.epoch L.used ps.length (ps.drop (k + 1)) (k + 1) r.1) := by
      rw [List.drop_eq_getElem_cons hlt]; rfl
    rw [hwk] at hw
    dsimp only at hw
    -- what comes behind the frame
    have tail : ∀ (kd : Int) (h5 : Heap), kd = (if k + 1 = ps.length then 3 else 2) → Ext h' h5 → FB h5 h'.size kd ((L.epoch * 65536 + (L.used + k) : Nat) : Int) ss[k] →
        (wal_Log_Append_j1 self (some ⟨b, o, none⟩) (k : Int) ⟨h'.size, 0, none⟩ (k : Int)).wp h5 Q := by
      intro kd h5 hkd e5 f5
      rw [← hkd] at hw
      refine append_j1 (W.ext e5) hb f5 (hsb.ext e5) (by omega) (by omega) (by omega) rfl (fun hne h6 k6 W6 => ?_) (fun h0 h6 k6 W6 => ?_)
      · rw [if_pos hne] at hw
        rw [hw, if_pos hne] at e
        rw [e] at hq
        exact hq h6 ((KK.trans (Km.ext e5)).trans k6) W6
      · rw [if_neg (by rw [h0]; simp)] at hw
        exact hself _ _ ⟨(K.trans (Km.ext e5)).trans k6, k + 1, _, rfl, by omega, W6, hw⟩ (by omega)
    rw [hrl, hss.1, show IntKind.wrap .i64 ((ps.length : Int) - 1) = (ps.length : Int) - 1 by rw [w64 (by omega) (by omega)]]
    refine ite_w (fun hc => ?_) (fun hc => ?_)
    · have hc : k + 1 = ps.length := by have : (k : Int) = (ps.length : Int) - 1 := by simpa using hc
                                        omega
      rw [add_mk, Nat.zero_add]
      refine stV_b (x := .int .i64 2) (by rw [f4.cell]; rfl) (hfrozen_blk f4) rfl ?_
      have u5 := Upd.hset h4 h'.size 0 (.int .i64 3)
      refine tail 3 _ (by rw [if_pos hc]) (E4.upd u5 (Nat.le_refl _)) ?_
      unfold FB
      rw [hset_at f4]
      rfl
    · have hc : ¬ k + 1 = ps.length := by
        have : ¬ (k : Int) = (ps.length : Int) - 1 := by simpa using hc
        omega
      exact tail 2 _ (by rw [if_neg hc]) E4 f4
  · have hge : k = ps.length := by have := of_decide_eq_false hge; omega
    subst hge
    rw [List.drop_length] at hw
    have hw' : wputs L.epoch L.used ps.length ps 0 D = (D', 0) := hw
    rw [hw', if_neg (by simp)] at e
    dsimp only at e
    refine nilP_b (ldP_b (n := some ⟨F.p, 0, none⟩) (by rw [W.cell (by omega)]; rfl) ?_)
    refine bind_w (dflush_spec W.dk (fun h3 k3 d3 => ?_))
    have W3 := W.disk k3 d3
    refine bind_w (ltold_spec W3 (fun h4 u4 W4 => ?_))
    have K4 := (KK.trans (k3.wk b)).trans (u4.wk F)
    refine ite_w (fun hc => ?_) (fun hc => ?_)
    · rw [if_pos (by simpa using hc)] at e
      rw [e] at hq
      exact pure_w (hq h4 K4 W4)
    · have h0 : D'.flush.2 = 0 := by simpa using hc
      rw [h0, if_neg (by simp)] at e
      rw [h0, told0 hb] at W4
      refine nilP_b (ldI_b (n := (L.used : Int)) (by rw [W4.cell (by omega)]; rfl) (nilP_b ?_))
      rw [hrl, hss.1, show IntKind.wrap .i64 ((L.used : Int) + (ps.length : Int)) = ((L.used + ps.length : Nat) : Int) by rw [w64 (by omega) (by omega)]; omega]
      refine W4.st (L' := { L with used := L.used + ps.length }) (k := 4) (by omega) (by omega) rfl rfl rfl ⟨H.ok.slots, H.ok.note, H.ok.epoch, by dsimp only; omega⟩ (fun h5 u5 W5 => pure_w ?_)
      rw [e] at hq
      exact hq h5 (K4.trans (u5.wk F)) W5
end
end Gx
namespace Gx
open Go
set_option linter.unusedVariables false
set_option linter.unusedSimpArgs false
set_option maxRecDepth 20000
def Lg.reset (L : Lg) (D : Dk) : Dk × Lg × Int :=
  if L.broken then (D, L, 62) else if 1099511627776 ≤ L.epoch then (D, L, 6) else
  let r := D.head L (L.epoch + 1)
  if r.2 ≠ 0 then (r.1, L.told r.2, r.2) else
  if r.1.flush.2 ≠ 0 then (r.1.flush.1, L.told r.1.flush.2, r.1.flush.2) else
  (r.1.flush.1, { L with epoch := L.epoch + 1, used := 0, stale := false }, 0)
section
variable {h : Heap} {F : Fp} {D : Dk} {b o : Nat} {ns : Sl} {L : Lg}
theorem lreset_spec {Q : Int → Heap → Prop} (H : WalAt h F D b o ns L)
    (hq : ∀ h', Km (wK F b) h h' → WalAt h' F (L.reset D).1 b o ns (L.reset D).2.1 → Q (L.reset D).2.2 h') : (wal_Log_Reset (some ⟨b, o, none⟩)).wp h Q := by
  unfold wal_Log_Reset
  have hep := H.ok.epoch
  refine bind_w (lcan_spec H ?_)
  cases hb : L.broken with
  | true =>
    have e : L.reset D = (D, L, 62) := by rw [Lg.reset, if_pos hb]
    rw [e] at hq
    exact iteT rfl (pure_w (hq h (Km.refl _ _) H))
  | false =>
  refine iteF rfl (nilP_b (ldI_b (n := (L.epoch : Int)) (by rw [H.cell (by omega)]; rfl) ?_))
  refine ite_w (fun hc => ?_) (fun hc => ?_)
  · have e : L.reset D = (D, L, 6) := by rw [Lg.reset, if_neg (by simp [hb]), if_pos (by have := of_decide_eq_true hc; omega)]
    rw [e] at hq
    exact pure_w (hq h (Km.refl _ _) H)
  have hlt : ¬ 1099511627776 ≤ L.epoch := by have := of_decide_eq_false hc; omega
  have e : L.reset D = (let r := D.head L (L.epoch + 1)
      if r.2 ≠ 0 then (r.1, L.told r.2, r.2) else
      if r.1.flush.2 ≠ 0 then (r.1.flush.1, L.told r.1.flush.2, r.1.flush.2) else
      (r.1.flush.1, { L with epoch := L.epoch + 1, used := 0, stale := false }, 0)) := by
    rw [Lg.reset, if_neg (by simp [hb]), if_neg hlt]
  dsimp only at e
  generalize hA : L.reset D = A at hq e
  refine nilP_b (ldI_b (n := (L.epoch : Int)) (by rw [H.cell (by omega)]; rfl) ?_)
  rw [show IntKind.wrap .i64 ((L.epoch : Int) + 1) = ((L.epoch + 1 : Nat) : Int) by rw [w64 (by omega) (by omega)]; omega]
  refine bind_w (lhead_spec H (by omega) (fun h1 k1 H1 => ?_))
  refine bind_w (ltold_spec H1 (fun h2 u2 H2 => ?_))
  have K2 := (k1.wk b).trans (u2.wk F)
  refine ite_w (fun hc => ?_) (fun hc => ?_)
  · rw [if_pos (by simpa using hc)] at e
    rw [e] at hq
    exact pure_w (hq h2 K2 H2)
  have h0 : (D.head L (L.epoch + 1)).2 = 0 := by simpa using hc
  rw [if_neg (by rw [h0]; simp)] at e
  rw [h0, told0 hb] at H2
  refine nilP_b (ldP_b (n := some ⟨F.p, 0, none⟩) (by rw [H2.cell (by omega)]; rfl) ?_)
  refine bind_w (dflush_spec H2.dk (fun h3 k3 d3 => ?_))
  refine bind_w (ltold_spec (H2.disk k3 d3) (fun h4 u4 H4 => ?_))
  have K4 := (K2.trans (k3.wk b)).trans (u4.wk F)
  refine ite_w (fun hc => ?_) (fun hc => ?_)
  · rw [if_pos (by simpa using hc)] at e
    rw [e] at hq
    exact pure_w (hq h4 K4 H4)
  have h1' : (D.head L (L.epoch + 1)).1.flush.2 = 0 := by simpa using hc
  rw [if_neg (by rw [h1']; simp)] at e
  rw [h1', told0 hb] at H4
  refine nilP_b (ldI_b (n := (L.epoch : Int)) (by rw [H4.cell (by omega)]; rfl) (nilP_b ?_))
  rw [show IntKind.wrap .i64 ((L.epoch : Int) + 1) = ((L.epoch + 1 : Nat) : Int) by rw [w64 (by omega) (by omega)]; omega]
  refine H4.st (L' := { L with epoch := L.epoch + 1 }) (k := 3) (by omega) (by omega) rfl rfl rfl ⟨H.ok.slots, H.ok.note, by dsimp only; omega, H.ok.used⟩ (fun h5 u5 H5 => nilP_b ?_)
  refine H5.st (L' := { L with epoch := L.epoch + 1, used := 0 }) (k := 4) (by omega) (by omega) rfl rfl rfl ⟨H.ok.slots, H.ok.note, by dsimp only; omega, Nat.zero_le _⟩ (fun h6 u6 H6 => nilP_b ?_)
  refine H6.st (L' := { L with epoch := L.epoch + 1, used := 0, stale := false }) (k := 5) (by omega) (by omega) rfl rfl rfl ⟨H.ok.slots, H.ok.note, by dsimp only; omega, Nat.zero_le _⟩ (fun h7 u7 H7 => pure_w ?_)
  rw [e] at hq
  exact hq h7 (((K4.trans (u5.wk F)).trans (u6.wk F)).trans (u7.wk F)) H7
theorem lepoch_spec {Q : Int → Heap → Prop} (H : WalAt h F D b o ns L) (hq : Q (L.epoch : Int) h) : (wal_Log_Epoch (some ⟨b, o, none⟩)).wp h Q := by
  unfold wal_Log_Epoch
  exact iteF rfl (nilP_b (ldI_b (n := (L.epoch : Int)) (by rw [H.cell (by omega)]; rfl) (pure_w hq)))
theorem lused_spec {Q : Int → Heap → Prop} (H : WalAt h F D b o ns L) (hq : Q (L.used : Int) h) : (wal_Log_Used (some ⟨b, o, none⟩)).wp h Q := by
  unfold wal_Log_Used
  exact iteF rfl (nilP_b (ldI_b (n := (L.used : Int)) (by rw [H.cell (by omega)]; rfl) (pure_w hq)))
theorem dsectors_spec {Q : Int → Heap → Prop} (H : DkAt h F D) (hq : Q (D.n : Int) h) : (disk_Disk_Sectors (some ⟨F.p, 0, none⟩)).wp h Q := by
  unfold disk_Disk_Sectors
  refine bind_w (dnone_spec H (iteF rfl ?_))
  obtain ⟨cs, ct, hb⟩ := H.blk
  exact nilP_b (ldL_b (n := ⟨some ⟨F.bs, 0, none⟩, D.n, cs⟩) (by rw [DkAt.cell hb]; rfl) (pure_w hq))
def lg0 (k : Nat) (note : List UInt8) : Lg := ⟨k, note, 1, 0, false, false⟩
def Dk.format (D : Dk) (L : Lg) : Dk × Int :=
  let r0 := D.write 0 zeros
  if r0.2 ≠ 0 then r0 else
  let r1 := r0.1.head L 1
  if r1.2 ≠ 0 then r1 else r1.1.flush
theorem lformat_spec {Q : Option Addr × Int → Heap → Prop} {k : Nat} {s : Sl} {note : List UInt8} (H : DkAt h F D) (hk : 1 ≤ k) (hk2 : k ≤ 4096) (hkn : 2 + k ≤ D.n) (hnn : D.n ≤ 16384) (hs : Bys h s note) (hn : note.length ≤ 64)
    (hq0 : (D.format (lg0 k note)).2 ≠ 0 → ∀ h', Kp F h h' → DkAt h' F (D.format (lg0 k note)).1 → Q (none, (D.format (lg0 k note)).2) h')
    (hq1 : (D.format (lg0 k note)).2 = 0 → ∀ h' b ns, Kp F h h' → h.size ≤ b → WalAt h' F (D.format (lg0 k note)).1 b 0 ns (lg0 k note) → Q (some ⟨b, 0, none⟩, 0) h') :
    (wal_Format (some ⟨F.p, 0, none⟩) (k : Int) s).wp h Q := by
  unfold wal_Format
  refine bind_w (dsectors_spec H ?_)
  refine iteF (by simp; omega) ?_
  refine iteF_b (by simp; omega) (pure_b ?_)
  refine iteF_b (by simp; omega) (assoc_b (bind_w (dsectors_spec H (pure_b ?_))))
  rw [w64 (n := 2 + (k : Int)) (by omega) (by omega)]
  refine iteF_b (by simp; omega) (pure_b ?_)
  refine iteF (by have := hs.len; simp; omega) ?_
  refine bind_w (clone_own hs (by omega) (fun h1 ns e1 g1 => ?_))
  refine mkB_b ?_
  have E := Ext.push h1 (.cells (lgc F.p ns (lg0 k note)) ty_wal_Log)
  have G : (h1.push (.cells (lgc F.p ns (lg0 k note)) ty_wal_Log))[h1.size]? = some (.cells (lgc F.p ns (lg0 k note)) ty_wal_Log (0, 0)) := get_push_eq
  change M.wp _ (h1.push (.cells (lgc F.p ns (lg0 k note)) ty_wal_Log)) Q
  generalize h1.push (.cells (lgc F.p ns (lg0 k note)) ty_wal_Log) = h2 at E G ⊢
  have E2 := e1.trans E
  have s1 := e1.size
  have W : WalAt h2 F D h1.size 0 ns (lg0 k note) := ⟨H.ext E2, ⟨_, _, G, fun i hi => by rw [Nat.zero_add]⟩, g1.bys.ext E, fun _ i hi => by
    have := g1.lt hi
    have := E.size
    exact ⟨by omega, fun ho => by have := H.lt ho; omega⟩, fun ho => (by have := H.lt ho; omega), ⟨hk2, by show note.length ≤ 112; omega, (by show (1 : Nat) ≤ 1099511627776; omega), Nat.zero_le _⟩⟩
  have e : D.format (lg0 k note) = (let r0 := D.write 0 zeros
      if r0.2 ≠ 0 then r0 else
      let r1 := r0.1.head (lg0 k note) 1
      if r1.2 ≠ 0 then r1 else r1.1.flush) := rfl
  dsimp only at e
  generalize hA : D.format (lg0 k note) = A at hq0 hq1 e
  refine bind_w (dwrite_spec W.dk zeros_cells rfl (fun h3 k3 d3 => ?_))
  have W3 := W.disk k3 d3
  have K3 := (Kp.ext (F := F) E2).trans k3
  refine ite_w (fun hc => ?_) (fun hc => ?_)
  · rw [if_pos (by simpa using hc)] at e
    subst e
    exact pure_w (hq0 (by simpa using hc) h3 K3 d3)
  rw [if_neg (by simpa using hc)] at e
  refine bind_w (lhead_spec (e := 1) W3 (by decide) (fun h4 k4 W4 => ?_))
  have K4 := K3.trans k4
  refine ite_w (fun hc => ?_) (fun hc => ?_)
  · rw [if_pos (by simpa using hc)] at e
    subst e
    exact pure_w (hq0 (by simpa using hc) h4 K4 W4.dk)
  rw [if_neg (by simpa using hc)] at e
  refine bind_w (dflush_spec W4.dk (fun h5 k5 d5 => ?_))
  have K5 := K4.trans k5
  subst e
  refine ite_w (fun hc => ?_) (fun hc => ?_)
  · exact pure_w (hq0 (by simpa using hc) h5 K5 d5)
  · exact pure_w (hq1 (by simpa using hc) h5 _ ns K5 s1 (W4.disk k5 d5))
end
end Gx
namespace Gx
open Go
set_option linter.unusedVariables false
set_option linter.unusedSimpArgs false
set_option maxRecDepth 20000
theorem wcuts_aux (l : List UInt8) : ∀ n, ((List.range n).map fun k => (l.drop (112 * k)).take 112).flatten = l.take (112 * n)
  | 0 => by simp
  | n + 1 => by
    rw [List.range_succ, List.map_append, List.flatten_append, wcuts_aux l n]
    simp only [List.map_cons, List.map_nil, List.flatten_cons, List.flatten_nil, List.append_nil]
    rw [show 112 * (n + 1) = 112 * n + 112 from rfl, List.take_add]
theorem wcuts_flat (l : List UInt8) : (cuts l).flatten = l := by
  rw [cuts, wcuts_aux, List.take_of_length_le (by omega)]
theorem wcuts_len (l : List UInt8) : (cuts l).length = (l.length + 111) / 112 := by simp [cuts]
theorem cbytes_pos (rs : List (List UInt8)) : 0 < (cbytes rs).length := by
  rw [cbytes, List.length_append]
  have := venc_pos rs.length
  omega
def atN (ep u : Nat) : Int := ((ep * 65536 + u : Nat) : Int)
def NoneAt (D : Dk) (ep slots u : Nat) : Prop := slots ≤ u ∨ (D.read ((2 + u : Nat) : Int)).2 ≠ 0 ∨ openOk (D.read ((2 + u : Nat) : Int)).1 = false ∨ n0 (D.read ((2 + u : Nat) : Int)).1 ≠ atN ep u
def ComAt (D : Dk) (ep slots u : Nat) (rs : List (List UInt8)) : Prop :=
  u + (cuts (cbytes rs)).length ≤ slots ∧ ∀ j (hj : j < (cuts (cbytes rs)).length), D.read ((2 + u + j : Nat) : Int) = (sealed (if j + 1 = (cuts (cbytes rs)).length then 3 else 2) (atN ep (u + j)) (cuts (cbytes rs))[j], 0)
theorem badF_ok {k n : Int} {p : List UInt8} (hk : 1 ≤ k) (hk2 : k ≤ 255) (hn : 0 ≤ n) (hp : p.length ≤ 112) : badF k n p = false := by
  unfold badF
  simp only [Bool.or_eq_false_iff, decide_eq_false_iff_not]
  omega
section
variable {h : Heap} {F : Fp} {D : Dk} {b o : Nat} {ns : Sl} {L : Lg}
theorem next_step {Q : Sl × Bool → Heap → Prop} {self : Sl × Int → M (Sl × Bool)} {y : Sl} {u : Nat} (H : WalAt h F D b o ns L) (hu : u < L.slots)
    (hbad : ((D.read ((2 + u : Nat) : Int)).2 ≠ 0 ∨ openOk (D.read ((2 + u : Nat) : Int)).1 = false ∨ n0 (D.read ((2 + u : Nat) : Int)).1 ≠ atN L.epoch u) → ∀ h', Ext h h' → Q (Sl.nil, false) h')
    (hok : (D.read ((2 + u : Nat) : Int)).2 = 0 → openOk (D.read ((2 + u : Nat) : Int)).1 = true → n0 (D.read ((2 + u : Nat) : Int)).1 = atN L.epoch u → ∀ h' fb s, Ext h h' → h.size ≤ fb → FB h' fb (k0 (D.read ((2 + u : Nat) : Int)).1) (atN L.epoch u) s → Bys h' s (p0 (D.read ((2 + u : Nat) : Int)).1) →
      (wal_Log_next_j1 self (some ⟨b, o, none⟩) y (u : Int) ⟨fb, 0, none⟩ (decide (k0 (D.read ((2 + u : Nat) : Int)).1 ≠ 2 ∧ k0 (D.read ((2 + u : Nat) : Int)).1 ≠ 3))).wp h' Q) :
    (wal_Log_next_l1 (some ⟨b, o, none⟩) self (y, (u : Int))).wp h Q := by
  unfold wal_Log_next_l1
  have hsl := H.ok.slots
  refine nilP_b (ldI_b (n := (L.slots : Int)) (by rw [H.cell (by omega)]; rfl) ?_)
  refine iteT (by simp; omega) (nilP_b (ldP_b (n := some ⟨F.p, 0, none⟩) (by rw [H.cell (by omega)]; rfl) ?_))
  rw [show IntKind.wrap .i64 (2 + (u : Int)) = ((2 + u : Nat) : Int) by rw [w64 (by omega) (by omega)]; omega]
  have hxl := dread_len H.dk ((2 + u : Nat) : Int)
  refine bind_w (dread_spec H.dk (fun h1 e1 => ?_))
  generalize hx : D.read ((2 + u : Nat) : Int) = x at *
  refine mkZ e1 (fun h2 g2 e2 s2 b2 => ?_)
  refine need_b (by rw [bcells_size]; exact hxl) ?_
  refine stB128 b2 rfl hxl (fun h3 u3 b3 => ?_)
  have E3 := e2.upd u3 e1.size
  refine ite_w (fun hc => pure_w (hbad (.inl (by simpa using hc)) h3 E3)) (fun hc => ?_)
  have h0 : x.2 = 0 := by simpa using hc
  refine ldB128 b3 hxl ?_
  refine bind_w (open_specC rfl hxl (fun ho h4 e4 => ?_) (fun ho h4 s e4 b4 hc4 hlo => ?_))
  · have E4 := E3.trans e4
    refine mkF (k := 0) (n := 0) (s := Sl.nil) E4 (fun h5 g5 e5 s5 f5 => ?_)
    refine need_b rfl ?_
    refine stF (k' := 0) (n' := 0) (s' := Sl.nil) f5 (fun h6 u6 f6 => ?_)
    refine iteT rfl ?_
    unfold wal_Log_next_j1
    exact iteT rfl (pure_w (hbad (.inr (.inl ho)) h6 (e5.upd u6 E4.size)))
  · have E4 := E3.trans e4
    refine mkF (k := 0) (n := 0) (s := Sl.nil) E4 (fun h5 g5 e5 s5 f5 => ?_)
    refine need_b rfl ?_
    refine stF (k' := k0 x.1) (n' := n0 x.1) (s' := s) f5 (fun h6 u6 f6 => ?_)
    have E6 := e5.upd u6 E4.size
    have b6 := b4.ext (g5.upd u6 (Nat.le_refl _))
    have W6 := H.ext E6
    have hn0 : hcell h6 ((⟨h4.size, 0, none⟩ : Addr).add 1) = some (.int .i64 (n0 x.1)) := by rw [add_mk, f6.cell]; rfl
    have hk0 : hcell h6 ((⟨h4.size, 0, none⟩ : Addr).add 0) = some (.int .i64 (k0 x.1)) := by rw [add_mk, f6.cell]; rfl
    refine iteF rfl (ldI_b (n := n0 x.1) hn0 ?_)
    refine bind_w (lat_spec W6 (by omega) (chk_b hn0 ?_))
    have hEp : ((L.epoch * 65536 + u : Nat) : Int) = atN L.epoch u := rfl
    rw [hEp]
    refine ite_w (fun hc => ?_) (fun hc => ?_)
    · unfold wal_Log_next_j1
      exact iteT rfl (pure_w (hbad (.inr (.inr (by simpa using hc))) h6 E6))
    · have hn : n0 x.1 = atN L.epoch u := by simpa using hc
      refine ldI_b (n := k0 x.1) hk0 ?_
      rw [hn] at f6
      have hq := hok h0 ho hn h6 _ s E6 E4.size f6 b6
      refine ite_w (fun hc => ?_) (fun hc => ?_)
      · have h2 : k0 x.1 ≠ 2 := by simpa using hc
        refine ldI_b (n := k0 x.1) hk0 ?_
        have : (k0 x.1 != 3) = decide (k0 x.1 ≠ 2 ∧ k0 x.1 ≠ 3) := by
          by_cases h3 : k0 x.1 = 3 <;> simp [h2, h3]
        rw [this]
        exact hq
      · have h2 : k0 x.1 = 2 := by simpa using hc
        have hd : decide (k0 x.1 ≠ 2 ∧ k0 x.1 ≠ 3) = false := by simp [h2]
        rw [hd] at hq
        exact hq
theorem next_none {Q : Sl × Bool → Heap → Prop} (H : WalAt h F D b o ns L) (hN : NoneAt D L.epoch L.slots L.used) (hq : ∀ h', Ext h h' → Q (Sl.nil, false) h') : (wal_Log_next (some ⟨b, o, none⟩)).wp h Q := by
  unfold wal_Log_next
  refine nilP_b (ldI_b (n := (L.used : Int)) (by rw [H.cell (by omega)]; rfl) ?_)
  refine M.loop_inv (fun (t : Sl × Int) h' => t = (Sl.nil, (L.used : Int)) ∧ h' = h) (fun _ _ => 0) ?_ ⟨rfl, rfl⟩
  rintro t h' ⟨rfl, rfl⟩ self hself
  by_cases hu : L.used < L.slots
  · refine next_step H hu (fun _ h1 e1 => hq h1 e1) (fun a1 a2 a3 => ?_)
    rcases hN with h1 | h1 | h1 | h1
    · omega
    · exact absurd a1 h1
    · rw [a2] at h1; cases h1
    · exact absurd a3 h1
  · unfold wal_Log_next_l1
    refine nilP_b (ldI_b (n := (L.slots : Int)) (by rw [H.cell (by omega)]; rfl) ?_)
    exact iteF (by simp; omega) (pure_w (hq _ (Ext.refl _)))
theorem next_com {Q : Sl × Bool → Heap → Prop} {rs : List (List UInt8)} (H : WalAt h F D b o ns L) (hC : ComAt D L.epoch L.slots L.used rs)
    (hq : ∀ h' r ss, Km (fun i => i = b) h h' → WalAt h' F D b o ns { L with used := L.used + (cuts (cbytes rs)).length } → Gws h.size h' r ss → Bsl h' ss rs → (∀ s ∈ ss, ∀ i, Sl.on s i → h.size ≤ i) → Q (r, true) h') : (wal_Log_next (some ⟨b, o, none⟩)).wp h Q := by
  unfold wal_Log_next
  have hsl := H.ok.slots
  obtain ⟨hfit, hrd⟩ := hC
  have hcl : (cuts (cbytes rs)).length ≤ 4096 := by omega
  have hcb : (cbytes rs).length ≤ 458752 := by rw [wcuts_len] at hcl; omega
  have hpos : 0 < (cuts (cbytes rs)).length := by rw [wcuts_len]; have := cbytes_pos rs; omega
  have hflat := wcuts_flat (cbytes rs)
  have hple := cuts_le (cbytes rs)
  generalize hps : cuts (cbytes rs) = ps at *
  refine nilP_b (ldI_b (n := (L.used : Int)) (by rw [H.cell (by omega)]; rfl) ?_)
  refine M.loop_inv (fun (t : Sl × Int) h' => Ext h h' ∧ ∃ j : Nat, t.2 = ((L.used + j : Nat) : Int) ∧ j < ps.length ∧ Gw h.size h' t.1 1 ((ps.take j).flatten.map bv)) (fun t _ => ((L.slots : Int) - t.2).toNat) ?_ ⟨Ext.refl h, 0, rfl, hpos, by simpa using Gw.nil _ _ _⟩
  rintro ⟨y, t⟩ h' ⟨E, j, hjj, hj, hg⟩ self hself
  dsimp only at hjj hg
  subst hjj
  have W := H.ext E
  have hr := hrd j hj
  rw [show 2 + L.used + j = 2 + (L.used + j) by omega] at hr
  have hpl : ps[j].length ≤ 112 := hple _ (List.getElem_mem hj)
  have hep := H.ok.epoch
  have hat : 0 ≤ atN L.epoch (L.used + j) ∧ atN L.epoch (L.used + j) ≤ 9223372036854775807 := by unfold atN; omega
  have hbad : ∀ kd : Int, kd = 3 ∨ kd = 2 → badF kd (atN L.epoch (L.used + j)) ps[j] = false := fun kd hkd => badF_ok (by omega) (by omega) hat.1 hpl
  have hkd : (if j + 1 = ps.length then (3 : Int) else 2) = 3 ∨ (if j + 1 = ps.length then (3 : Int) else 2) = 2 := by split; exact .inl rfl; exact .inr rfl
  have hb1 := hbad _ hkd
  obtain ⟨q1, _, q3, q4⟩ := sealed_fields hb1 hat.2
  have q5 := open_sealed hb1 hat.2
  refine next_step W (u := L.used + j) (by omega) (fun hne => ?_) (fun a1 a2 a3 h1 fb s e1 hfb f1 b1 => ?_)
  · rw [hr] at hne
    dsimp only at hne
    rw [q5, q3] at hne
    simp at hne
  · rw [hr] at f1 b1 ⊢
    dsimp only at f1 b1 ⊢
    rw [q1] at f1
    rw [q4] at b1
    rw [q1]
    have hno : decide ((if j + 1 = ps.length then (3 : Int) else 2) ≠ 2 ∧ (if j + 1 = ps.length then (3 : Int) else 2) ≠ 3) = false := by
      rcases hkd with h | h <;> rw [h] <;> rfl
    rw [hno]
    unfold wal_Log_next_j1
    refine iteF rfl (ldL_b (n := s) (by rw [add_mk, f1.cell]; rfl) ?_)
    have hfl := flat_take_le' ps j
    have hE1 := E.trans e1
    refine apB_b (hg.ext e1) b1 (by rw [hflat] at hfl; omega) hE1.size (fun h2 y2 g2 k2 on2 => ?_)
    have E2 : Ext h h2 := hE1.km k2 (fun i hi => (hg.lt hi).2)
    have f2 : FB h2 fb (if j + 1 = ps.length then 3 else 2) (atN L.epoch (L.used + j)) s := by
      unfold FB
      exact k2.blk f1 (fun ho => by have := (hg.lt ho).1; omega)
    refine ldI_b (n := (if j + 1 = ps.length then 3 else 2)) (by rw [add_mk, f2.cell]; rfl) ?_
    rw [← flat_take' ps hj] at g2
    by_cases hlast : j + 1 = ps.length
    · rw [if_pos hlast] at f2 ⊢
      refine iteT rfl ?_
      rw [hlast, List.take_length, hflat] at g2
      refine bind_w (records_spec g2.bys g2.capR (by omega) (fun h3 r ss e3 gs hss hlo => ?_))
      have E3 := E2.trans e3
      have W3 := H.ext E3
      refine iteT rfl (nilP_b ?_)
      rw [show IntKind.wrap .i64 (((L.used + j : Nat) : Int) + 1) = ((L.used + ps.length : Nat) : Int) by rw [w64 (by omega) (by omega)]; omega]
      have s2 := E2.size
      have hb := H.lt
      refine W3.st (L' := { L with used := L.used + ps.length }) (k := 4) (by omega) (by omega) rfl rfl rfl ⟨H.ok.slots, H.ok.note, H.ok.epoch, hfit⟩ (fun h4 u4 W4 => ?_)
      refine pure_w (hq h4 r ss ((Km.ext E3).trans (Km.upd u4 rfl)) W4 ⟨(gs.gw.weak s2).same (fun i hi => u4.ne i (by have := (gs.gw.lt hi).2; omega)), fun s hs i hi => ⟨(gs.off s hs i hi).1, by rw [u4.size]; exact (gs.off s hs i hi).2⟩, gs.len⟩ (hss.same (fun s hs i hi => u4.ne i (by have := hlo s hs i hi; omega))) (fun s hs i hi => by have := hlo s hs i hi; omega))
    · rw [if_neg hlast] at f2 ⊢
      refine iteF rfl ?_
      rw [show IntKind.wrap .i64 (((L.used + j : Nat) : Int) + 1) = ((L.used + (j + 1) : Nat) : Int) by rw [w64 (by omega) (by omega)]; omega]
      exact hself _ _ ⟨E2, j + 1, rfl, by omega, g2⟩ (by dsimp only; omega)
end
end Gx
namespace Gx
open Go
set_option linter.unusedVariables false
set_option linter.unusedSimpArgs false
set_option maxRecDepth 20000
theorem stR {β : Type} {h : Heap} {Q : β → Heap → Prop} {b off : Nat} {cs vs : Array Value} {ty : TypeId} {f : Unit → M β} (hb : h[b]? = some (.cells cs ty (0, 0))) (hl : off + vs.size ≤ cs.size) (h1 : ∀ v ∈ vs.toList, one v = true)
    (H : ∀ h', Upd b h h' → h'[b]? = some (.cells (lay cs off vs.toList) ty (0, 0)) → (f ()).wp h' Q) : (stG ⟨b, off, none⟩ vs >>= f).wp h Q := by
  refine stG_b (fun i hi => ?_) h1 (H _ (Upd.hsetL _ _ _ _ _) (by rw [hsetL_at _ _ _ _ hb, Nat.add_zero]))
  rw [add_mk, hcell_blk hb]
  exact ⟨⟨_, Array.getElem?_eq_getElem (by omega)⟩, hfrozen_blk hb⟩
theorem ldR {β : Type} {h : Heap} {Q : β → Heap → Prop} {b n : Nat} {cs : Array Value} {ty : TypeId} {f : Array Value → M β} (hb : h[b]? = some (.cells cs ty (0, 0))) (hn : cs.size = n) (H : (f cs).wp h Q) : (ldG n ⟨b, 0, none⟩ >>= f).wp h Q :=
  ldG_b hn (fun i hi => by rw [add_mk, Nat.zero_add, hcell_blk hb]) H
abbrev Hd := Option (Nat × Nat × List UInt8)
def hz : List Value := [.pointer none, .int .i64 0, .slice none 0 0, .int .i64 0, .int .i64 0, .bool false, .bool false]
def hc (p : Nat) (o : Hd) (ns : Sl) : List Value := match o with
  | none => hz
  | some (e, k, _) => [.pointer (some ⟨p, 0, none⟩), .int .i64 (k : Int), ns.v, .int .i64 (e : Int), .int .i64 0, .bool true, .bool false]
theorem hc_len (p : Nat) (o : Hd) (ns : Sl) : (hc p o ns).length = 7 := by
  cases o with
  | none => rfl
  | some x => rfl
theorem hc_one (p : Nat) (o : Hd) (ns : Sl) : ∀ v ∈ hc p o ns, one v = true := by
  cases o with
  | none => intro v hv; simp [hc, hz] at hv; rcases hv with rfl | rfl | rfl | rfl | rfl | rfl | rfl <;> rfl
  | some x => intro v hv; simp [hc] at hv; rcases hv with rfl | rfl | rfl | rfl | rfl | rfl | rfl <;> first | rfl | exact one_v _
def HeadAt (D : Dk) (at' : Nat) : Hd → Prop
  | none => (D.read (at' : Int)).2 ≠ 0 ∨ openOk (D.read (at' : Int)).1 = false
  | some (e, k, note) => D.read (at' : Int) = (sealed 1 (e : Int) (hpay k note), 0) ∧ 1 ≤ e ∧ e ≤ 1099511627776 ∧ e % 2 = at' ∧ 1 ≤ k ∧ k ≤ 4096 ∧ 2 + k ≤ D.n ∧ (hpay k note).length ≤ 112
def HN (lo : Nat) (h : Heap) (o : Hd) (ns : Sl) : Prop := ∀ e k note, o = some (e, k, note) → Bys h ns note ∧ ∀ i, Sl.on ns i → lo ≤ i
theorem HN.none (lo : Nat) (h : Heap) (ns : Sl) : HN lo h none ns := fun _ _ _ h => by cases h
theorem HN.km {lo : Nat} {S : Nat → Prop} {h h' : Heap} {o : Hd} {ns : Sl} (H : HN lo h o ns) (k : Km S h h') (hS : ∀ i, S i → i < lo) : HN lo h' o ns := fun e kk note ho =>
  ⟨(H e kk note ho).1.keep (fun i hi hl => k.same i hl (fun hs => by have := (H e kk note ho).2 i hi; have := hS i hs; omega)), (H e kk note ho).2⟩
section
variable {h : Heap} {F : Fp} {D : Dk}
theorem heads_round {Q : Array Value → Heap → Prop} {self : Int → M (Array Value)} {c2 c3 k : Nat} {ob : Hd} {cs : Array Value} {ty : TypeId} (H : DkAt h F D) (hO : HeadAt D k ob) (hk : k < 2) (hnn : D.n ≤ 16384) (hcs : cs.size = 14) (hb : h[c3]? = some (.cells cs ty (0, 0))) (hF : ¬ F.on c3)
    (hq : ∀ h' ns cs', Km (fun i => i = c3) h h' → HN h.size h' ob ns → h'[c3]? = some (.cells cs' ty (0, 0)) → (ob = none → cs' = cs) → (ob ≠ none → cs' = lay cs (k * 7) (hc F.p ob ns)) → (self ((k + 1 : Nat) : Int)).wp h' Q) :
    (wal_heads_l1 (some ⟨F.p, 0, none⟩) ⟨c2, 0, none⟩ ⟨c3, 0, none⟩ self (k : Int)).wp h Q := by
  unfold wal_heads_l1
  refine iteT (by simp; omega) ?_
  have hxl := dread_len H (k : Int)
  refine bind_w (dread_spec H (fun h1 e1 => ?_))
  generalize hx : D.read (k : Int) = x at *
  have ew : IntKind.wrap .i64 ((k : Int) + 1) = ((k + 1 : Nat) : Int) := by rw [w64 (by omega) (by omega)]; omega
  have hno : ∀ h', Ext h h' → ob = none → (wal_heads_j1 self (k : Int)).wp h' Q := by
    intro h' e hn
    unfold wal_heads_j1
    rw [ew]
    exact hq h' Sl.nil cs (Km.ext e) (by rw [hn]; exact HN.none _ _ _) (e.blk hb) (fun _ => rfl) (fun h => absurd hn h)
  refine mkZ e1 (fun h2 g2 e2 s2 b2 => ?_)
  refine need_b (by rw [bcells_size]; exact hxl) ?_
  refine stB128 b2 rfl hxl (fun h3 u3 b3 => ?_)
  have E3 := e2.upd u3 e1.size
  match ob, hO with
  | none, hO =>
    have hO : (D.read (k : Int)).2 ≠ 0 ∨ openOk (D.read (k : Int)).1 = false := hO
    rw [hx] at hO
    refine ite_w (fun hc => hno h3 E3 rfl) (fun hc => ?_)
    have h0 : x.2 = 0 := by simpa using hc
    have ho : openOk x.1 = false := by rcases hO with h | h; exact absurd h0 h; exact h
    refine ldB128 b3 hxl ?_
    refine bind_w (open_specC rfl hxl (fun _ h4 e4 => ?_) (fun ho' => by rw [ho] at ho'; cases ho'))
    have E4 := E3.trans e4
    refine mkF (k := 0) (n := 0) (s := Sl.nil) E4 (fun h5 g5 e5 s5 f5 => ?_)
    refine need_b rfl ?_
    refine stF (k' := 0) (n' := 0) (s' := Sl.nil) f5 (fun h6 u6 f6 => ?_)
    refine iteT_b rfl (pure_b (iteT_b rfl (pure_b (iteT_b rfl (pure_b (iteT_b rfl (pure_b (iteT rfl ?_))))))))
    exact hno h6 (e5.upd u6 E4.size) rfl
  | some (e, sl, note), hO =>
    obtain ⟨hr, he1, he2, hpar, hs1, hs2, hs3, hpl⟩ := hO
    rw [hx] at hr
    have hbad : badF 1 (e : Int) (hpay sl note) = false := badF_ok (by omega) (by omega) (by omega) hpl
    obtain ⟨q1, _, q3, q4⟩ := sealed_fields hbad (by omega)
    have q5 := open_sealed hbad (by omega)
    subst hr
    dsimp only at b3 hxl ⊢
    refine iteF rfl ?_
    refine ldB128 b3 hxl ?_
    refine bind_w (open_specC rfl hxl (fun ho' => by rw [q5] at ho'; cases ho') (fun _ h4 s e4 b4 hc4 hlo => ?_))
    have E4 := E3.trans e4
    rw [q1, q3]
    rw [q4] at b4
    refine mkF (k := 0) (n := 0) (s := Sl.nil) E4 (fun h5 g5 e5 s5 f5 => ?_)
    refine need_b rfl ?_
    refine stF (k' := 1) (n' := (e : Int)) (s' := s) f5 (fun h6 u6 f6 => ?_)
    have E6 := e5.upd u6 E4.size
    have b6 := b4.ext (g5.upd u6 (Nat.le_refl _))
    have hk0 : hcell h6 ((⟨h4.size, 0, none⟩ : Addr).add 0) = some (.int .i64 1) := by rw [add_mk, f6.cell]; rfl
    have hn0 : hcell h6 ((⟨h4.size, 0, none⟩ : Addr).add 1) = some (.int .i64 (e : Int)) := by rw [add_mk, f6.cell]; rfl
    have hs0 : hcell h6 ((⟨h4.size, 0, none⟩ : Addr).add 2) = some s.v := by rw [add_mk, f6.cell]; rfl
    refine iteF_b rfl (assoc_b (ldI_b hk0 (pure_b ?_)))
    refine iteF_b rfl (assoc_b (ldI_b hn0 (pure_b ?_)))
    refine iteF_b (by simp; omega) (assoc_b (ldI_b hn0 (pure_b ?_)))
    refine iteF_b (by simp; omega) (assoc_b (ldI_b hn0 (pure_b ?_)))
    rw [and1_eq (by omega), hpar]
    refine iteF (by simp) (ldL_b hs0 ?_)
    have b6' : Bys h6 s (venc sl ++ note) := b6
    refine bind_w (take_spec b6' (by omega) ?_)
    refine iteF_b rfl (pure_b ?_)
    refine iteF_b (by simp; omega) (pure_b ?_)
    refine iteF_b (by simp; omega) (assoc_b (bind_w (dsectors_spec (H.ext E6) (pure_b ?_))))
    rw [w64 (n := (sl : Int)) (by omega) (by omega), w64 (n := 2 + (sl : Int)) (by omega) (by omega)]
    refine iteF (by simp; omega) (ldL_b hs0 ?_)
    have hsl := b6'.len
    have hvl : (venc sl).length ≤ (venc sl ++ note).length := by simp
    obtain ⟨bt, ct⟩ := tail_slice b6' hc4 hvl
    rw [List.drop_left] at bt
    dsimp only
    refine slL_b (by omega) (by omega) (by omega) (ldI_b hn0 ?_)
    refine ixA_b (by omega) (by omega) ?_
    rw [show (⟨c3, 0, none⟩ : Addr).add ((k : Int).toNat * 7) = ⟨c3, k * 7, none⟩ by rw [add_mk, Nat.zero_add, show (k : Int).toNat = k by omega]]
    refine need_b rfl ?_
    generalize hns : (⟨if s.cap = ((venc sl).length : Int).toNat then s.base else s.base.map (·.add (((venc sl).length : Int).toNat * 1)), (s.len : Int).toNat - ((venc sl).length : Int).toNat, s.cap - ((venc sl).length : Int).toNat⟩ : Sl) = ns at bt ⊢
    have hlo3 : ∀ i, Sl.on ns i → h.size ≤ i := by
      have h3s := E3.size
      rintro i ⟨a, ha, rfl⟩
      rw [← hns] at ha
      dsimp only at ha
      split at ha
      · have := hlo _ ⟨a, ha, rfl⟩; omega
      · rw [Option.map_eq_some_iff] at ha
        obtain ⟨c, hc', rfl⟩ := ha
        rw [add_block]
        have := hlo _ ⟨c, hc', rfl⟩; omega
    refine stR (vs := (hc F.p (some (e, sl, note)) ns).toArray) (E6.blk hb) (by rw [hcs]; have := hc_len F.p (some (e, sl, note)) ns; rw [List.size_toArray]; omega) (fun v hv => hc_one F.p (some (e, sl, note)) ns v (by simpa using hv)) (fun h7 u7 b7 => ?_)
    unfold wal_heads_j1
    rw [ew]
    have K7 : Km (fun i => i = c3) h h7 := (Km.ext E6).trans (Km.upd u7 rfl)
    have hc3 := blk_lt hb
    refine hq h7 ns _ K7 (fun e' k' note' he' => ?_) b7 (fun h => by cases h) (fun _ => rfl)
    cases he'
    exact ⟨bt.keep (fun i hi _ => u7.ne i (by have := hlo3 i hi; omega)), hlo3⟩
end
end Gx
namespace Gx
open Go
set_option linter.unusedVariables false
set_option linter.unusedSimpArgs false
theorem collect_int_spec {g : Value} {h0 h : Heap} {Q : Sl → Heap → Prop} {S' S : List Int → Prop} {N : Nat} (hg : Gives (fun x : Int => [.int .i64 x]) g h0 S' S) (he : Ext h0 h) (hN : N * 8 ≤ 140737488355328) (hS : ∀ pre, S' pre → pre.length ≤ N)
    (hq : ∀ h' r xs, Ext h h' → S xs → Gw h.size h' r 1 (xs.map (Value.int .i64)) → r.len = xs.length → Q r h') : (slices_Collect_int g).wp h Q := by
  unfold slices_Collect_int slices_AppendSeq_slint_int
  refine bind_w (mkB_b ?_)
  have eA := Ext.push h (.cells #[Sl.nil.v] ty_sl_int)
  have bA : (h.push (.cells #[Sl.nil.v] ty_sl_int))[h.size]? = some (.cells #[Sl.nil.v] ty_sl_int (0, 0)) := get_push_eq
  have sA : (h.push (.cells #[Sl.nil.v] ty_sl_int)).size = h.size + 1 := by simp
  generalize h.push (.cells #[Sl.nil.v] ty_sl_int) = hA at eA bA sA ⊢
  refine bind_w ⟨hg.1, fun rc hR => ?_⟩
  have e1 : Ext hA ((hA.push (.deferred (some []))).push (recAt rc .ready none)) := (Ext.push _ _).trans (Ext.push _ _)
  obtain ⟨own, hown, hI⟩ := hg.2 _ ((he.trans eA).trans e1)
  have s1 : ((hA.push (.deferred (some []))).push (recAt rc .ready none)).size = h.size + 3 := by simp [sA]
  rw [s1] at hown
  rw [sA] at hR ⊢
  refine hI (yV (h.size + 1 + 1)) (fun pre h' => Coll h own h.size rc ty_sl_int (pre.map (Value.int .i64)) h') _ (fun n x y e => by cases e) (by simp [yV]) (by simp [yV]) (by simp [yV]) ?_ ?_ ?_ ?_ ?_
  · intro pre h1 h2 H k
    exact H.km k (Nat.le_refl _) hown
  · intro pre h1 H
    exact ⟨he.trans H.ext, H.own⟩
  · intro h' k ho
    have u1 : ((hA.push (.deferred (some []))).push (recAt rc .ready none))[h.size]? = some (.cells #[Sl.nil.v] ty_sl_int (0, 0)) := e1.blk bA
    have u2 : ((hA.push (.deferred (some []))).push (recAt rc .ready none))[h.size + 1]? = some (.deferred (some [])) := by
      have : (hA.push (.deferred (some [])))[hA.size]? = some (.deferred (some [])) := get_push_eq
      rw [← sA]
      exact (Ext.push _ _).blk this
    have u3 : ((hA.push (.deferred (some []))).push (recAt rc .ready none))[h.size + 2]? = some (recAt rc .ready none) := by
      have : ((hA.push (.deferred (some []))).push (recAt rc .ready none))[(hA.push (.deferred (some []))).size]? = some (recAt rc .ready none) := get_push_eq
      rw [show (hA.push (.deferred (some []))).size = h.size + 2 by simp [sA]] at this
      exact this
    exact ⟨(eA.trans e1).km k (fun i hi => by have := hown i hi; omega), ⟨Sl.nil, k.at u1 (fun s => by have := hown _ s; omega), Gw.nil _ _ _, fun i ⟨a, ha, _⟩ => (by cases ha), rfl⟩, k.at u2 (fun s => by have := hown _ s; omega), k.at u3 (fun s => by have := hown _ s; omega), ho⟩
  · intro pre x h1 Q1 H hS' hq1
    refine hR x h1 Q1 .ready none H.recd ?_
    have hn := hS _ hS'
    simp at hn
    refine coll_round H (Nat.le_refl _) hown rfl (by simp; omega) (by simp; omega) (fun h' H' hs hk => hq1 h' (by simpa using H') hs hk)
  · intro xs h' H hS
    obtain ⟨e, ⟨r, hbox, hgw, _, hl⟩, hd, hrec, _⟩ := H
    refine ⟨.ready, 0, by simp, hrec, ?_⟩
    have k : Km (fun i => i = h.size + 1 + 1) h' (h'.setIfInBounds (h.size + 1 + 1) (recAt rc .exhausted (jat [] 0))) := Km.set _ _ _
    generalize h'.setIfInBounds (h.size + 1 + 1) (recAt rc .exhausted (jat [] 0)) = h2 at k ⊢
    have hd2 : h2[h.size + 1]? = some (.deferred (some [])) := k.at hd (by omega)
    refine ldL_b (n := r) (by rw [hcell_blk (k.at hbox (by omega))]; rfl) ?_
    refine ⟨hd2, ?_⟩
    have k2 : Km (fun i => i = h.size + 1) h2 (h2.setIfInBounds (h.size + 1) (.deferred none)) := Km.set _ _ _
    show Q r (h2.setIfInBounds (h.size + 1) (.deferred none))
    generalize h2.setIfInBounds (h.size + 1) (.deferred none) = h3 at k2 ⊢
    refine hq _ r xs ((e.km k (fun i hi => by omega)).km k2 (fun i hi => by omega)) hS ?_ (by simpa using hl)
    have g2 : Gw (h.size + 3) h3 r 1 (xs.map (Value.int .i64)) := hgw.same (fun i hi => by
      have := hgw.lt hi
      rw [k2.same i (Nat.lt_of_lt_of_le this.1 k.size) (by omega), k.same i this.1 (by omega)])
    rcases g2 with g2 | ⟨b, ty, cells, g2⟩
    · exact .inl g2
    · exact .inr ⟨b, ty, cells, g2.base, by have := g2.lo; omega, g2.blk, g2.size, g2.cap, g2.len, g2.get⟩
def itLeft (n it : Nat) (h : Heap) : Nat := match h[it]? with | some (.mapIter _ _ seen _) => n - seen.size | _ => 0
theorem itLeft_eq {h : Heap} {it m n : Nat} {l : List (Int × List UInt8)} {es : Array MapEntry} {c : Nat} {js : List Nat} (I : ItR h it m kI dS l es c js) : itLeft n it h = n - js.length := by
  obtain ⟨since, seen, hi, _, hs⟩ := I.it
  unfold itLeft
  rw [hi]
  have : seen.size = js.length := by rw [← Array.length_toList, hs, List.length_map]
  simp only [this]
theorem keys_gives {h : Heap} {b m : Nat} {l : List (Int × List UInt8)} {es : Array MapEntry} {c : Nat} (hb : h[b]? = some (.cells #[.map (some m)] ty_map_int_api_Sector (0, 0))) (hm : MapR h m kI dS l es c) :
    Gives (fun x : Int => [.int .i64 x]) (.func (.func fn_maps_Keys_map_int_api_Sector_int_api_Sector_1) #[] #[.pointer (some ⟨b, 0, none⟩)]) h (fun pre => pre.length ≤ l.length) (fun xs => xs.Perm (l.map Prod.fst)) := by
  refine ⟨fun l e => (by cases e), fun h1 E => ⟨fun i => i = h1.size, fun i hi => by omega, fun yv J Q _ _ _ _ hkm hext h0 hround hend => ?_⟩⟩
  refine callV_f cl_maps_Keys_map_int_api_Sector_int_api_Sector_1 (S_maps_Keys_map_int_api_Sector_int_api_Sector_1 yv _) ?_
  unfold maps_Keys_map_int_api_Sector_int_api_Sector_1
  refine ldMp_b (n := some m) (by rw [hcell_blk (E.blk hb)]; rfl) ?_
  have hmlt := blk_lt hm.blk
  refine rgM_b (hm.ext (E.same m hmlt)) (fun h2 e2 s2 I2 => ?_)
  have hit : h1.size ≠ m := by have := E.size; omega
  refine M.loop_inv (fun (_ : Unit) h' => ∃ js, ItR h' h1.size m kI dS l es c js ∧ J (js.map fun j => (l.map Prod.fst).getD j 0) h') (fun _ h' => itLeft l.length h1.size h') ?_ ⟨[], I2, ?_⟩
  · rintro ⟨⟩ h' ⟨js, I, hJ⟩ self hself
    unfold maps_Keys_map_int_api_Sector_int_api_Sector_1_l1
    have hjl : (js.map fun j => (l.map Prod.fst).getD j 0).length = js.length := List.length_map _
    refine nxM_b hit I (fun j p hj hnj h3 u3 I3 => ?_) (fun hall => ?_)
    · refine exB_b (vs := #[.bool true, kI p.1, dS p.2]) rfl rfl ?_
      refine iteT rfl (enM_b I3 hj (exI_b rfl ?_))
      have k3 : Km (fun i => i = h1.size) h' h3 := ⟨by rw [u3.size]; exact Nat.le_refl _, fun i _ hn => u3.ne i hn⟩
      have hJ3 := hkm _ _ _ hJ k3
      have hlen := nodup_lt_len l.length (js ++ [j]) I3.nodup I3.lt
      simp at hlen
      refine bind_w (hround _ p.1 h3 _ hJ3 (by simp only [List.length_append, hjl, List.length_singleton]; omega) (fun h4 hJ4 hs4 ho4 => ?_))
      refine iteF rfl ?_
      have I4 : ItR h4 h1.size m kI dS l es c (js ++ [j]) := I3.same (ho4 _ rfl) (by
        have e4 := (hext _ _ hJ4).1
        have e3 := (hext _ _ hJ3).1
        rw [e4.same m hmlt, e3.same m hmlt])
      refine hself () h4 ⟨js ++ [j], I4, ?_⟩ ?_
      · rw [List.map_append]
        have e : (l.map Prod.fst).getD j 0 = p.1 := by rw [List.getD_eq_getElem?_getD, List.getElem?_map, hj]; rfl
        simp only [List.map_cons, List.map_nil, e]
        exact hJ4
      · rw [itLeft_eq I4, itLeft_eq I, List.length_append]
        simp; omega
    · refine exB_b (vs := #[.bool false]) rfl rfl ?_
      refine iteF rfl (pure_w (hend _ _ hJ ?_))
      have hp : js.Perm (List.range l.length) := by
        rw [List.perm_ext_iff_of_nodup I.nodup List.nodup_range]
        intro a
        rw [List.mem_range]
        exact ⟨I.lt a, hall a⟩
      have e : (List.range l.length).map (fun j => (l.map Prod.fst).getD j 0) = l.map Prod.fst := by
        apply List.ext_getElem?
        intro i
        rw [List.getElem?_map]
        rcases Nat.lt_or_ge i l.length with h' | h'
        · rw [List.getElem?_range h']
          simp [List.getD_eq_getElem?_getD, h']
        · rw [List.getElem?_eq_none (by simpa using h'), List.getElem?_eq_none (by simpa using h')]
          rfl
      have h5 := hp.map (fun j => (l.map Prod.fst).getD j 0)
      rw [e] at h5
      exact h5
  · exact h0 h2 (Km.ext e2) (fun i hi => by omega)
theorem sort_perm (xs : List Int) : (sortI xs).Perm xs := List.mergeSort_perm _ _
theorem sort_sorted (xs : List Int) : (sortI xs).Pairwise (· ≤ ·) := by
  have := List.pairwise_mergeSort (le := fun x y : Int => decide (x ≤ y)) (fun a b c h1 h2 => by simp at *; omega) (fun a b => by simp; omega) xs
  exact this.imp (fun h => by simpa using h)
theorem sort_spec {lo : Nat} {h : Heap} {Q : Unit → Heap → Prop} {r : Sl} {xs : List Int} (H : Gw lo h r 1 (xs.map (Value.int .i64))) (hl : r.len = xs.length) (hlo : lo ≤ h.size) (hm : xs.length < 4611686018427387904)
    (hq : ∀ h', Gw lo h' r 1 ((sortI xs).map (Value.int .i64)) → Km (fun i => lo ≤ i) h h' → Q () h') : (slices_Sort_slint_int r).wp h Q := by
  rcases H with ⟨rfl, hx⟩ | ⟨b, ty, cells, H⟩
  · have : xs = [] := by simpa using hx
    subst this
    exact .inl ⟨rfl, hq h (.inl ⟨rfl, by simp [sortI]⟩) (Km.refl _ _)⟩
  · have hcl := H.cap
    have hcs := H.size
    refine .inr ⟨b, 0, cells, ty, xs, H.base, hl.symm, H.blk, by omega, fun j z hj => ?_, hm, fun h' hb hk hs => ?_⟩
    · rw [Nat.zero_add]
      exact H.get j _ (by rw [List.getElem?_map, hj]; rfl)
    · have hsl : ((sortI xs).map (Value.int .i64)).length = xs.length := by rw [List.length_map]; exact (sort_perm xs).length_eq
      refine hq h' (.inr ⟨b, ty, _, H.base, H.lo, hb, by rw [lay_size]; exact H.size, H.cap, by rw [hsl, hl]; omega, fun j v hj => ?_⟩) ⟨hs, fun i hi hn => hk i hi (fun e => hn (by have := H.lo; omega))⟩
      rw [← Array.getElem?_toList, lay_toList _ _ _ (by rw [hsl]; omega)]
      have hjl := (List.getElem?_eq_some_iff.1 hj).1
      rw [List.append_assoc]
      simp only [List.take_zero, List.nil_append]
      rw [List.getElem?_append_left hjl]
      exact hj
section
variable {h : Heap} {F : Fp} {D : Dk}
theorem clen_le (H : DkAt h F D) (hn : (D.c.map Prod.fst).Nodup) : D.c.length ≤ D.n := by
  have h1 : (D.c.map fun p => p.1.toNat).Nodup := by
    have : (D.c.map fun p => p.1.toNat) = (D.c.map Prod.fst).map Int.toNat := by rw [List.map_map]; rfl
    rw [this]
    rw [List.Nodup, List.pairwise_map]
    refine hn.imp_of_mem (fun {a b} ha hb hne e => hne ?_)
    obtain ⟨p, hp, rfl⟩ := List.mem_map.1 ha
    obtain ⟨q, hq, rfl⟩ := List.mem_map.1 hb
    have := (H.clen p hp).2.1
    have := (H.clen q hq).2.1
    omega
  have h2 := nodup_lt_len D.n _ h1 (fun x hx => by
    obtain ⟨p, hp, rfl⟩ := List.mem_map.1 hx
    have := (H.clen p hp).2
    omega)
  simpa using h2
theorem dirty_spec {Q : Sl → Heap → Prop} (H : DkAt h F D) (hq : ∀ h' r (xs : List Int), Ext h h' → Gw h.size h' r 1 (xs.map (Value.int .i64)) → r.len = xs.length → xs.Perm (D.c.map Prod.fst) → xs.Pairwise (· ≤ ·) → Q r h') : (disk_Disk_Dirty (some ⟨F.p, 0, none⟩)).wp h Q := by
  unfold disk_Disk_Dirty
  refine bind_w (dnone_spec H (iteF rfl (nilP_b ?_)))
  obtain ⟨cs, ct, hb⟩ := H.blk
  obtain ⟨es, c, hm⟩ := H.map
  refine ldMp_b (n := some F.bm) (by rw [DkAt.cell hb]; rfl) ?_
  unfold maps_Keys_map_int_api_Sector_int_api_Sector
  refine bind_w (mkB_b (pure_w ?_))
  have e1 := Ext.push h (.cells #[.map (some F.bm)] ty_map_int_api_Sector)
  have g1 : (h.push (.cells #[.map (some F.bm)] ty_map_int_api_Sector))[h.size]? = some (.cells #[.map (some F.bm)] ty_map_int_api_Sector (0, 0)) := get_push_eq
  generalize h.push (.cells #[.map (some F.bm)] ty_map_int_api_Sector) = h1 at e1 g1 ⊢
  have H1 := H.ext e1
  have hcl : D.c.length ≤ D.n := clen_le H hm.keys
  have hn := H.nlt
  unfold slices_Sorted_int
  refine bind_w (bind_w (collect_int_spec (N := D.n) (keys_gives g1 (hm.ext (e1.same _ (blk_lt hm.blk)))) (Ext.refl _) (by omega) (fun pre hp => by omega) (fun h2 r xs e2 hp g2 hl2 => ?_)))
  have hxl : xs.length = D.c.length := by rw [hp.length_eq, List.length_map]
  refine bind_w (sort_spec g2 hl2 e2.size (by omega) (fun h3 g3 k3 => pure_w (pure_w ?_)))
  refine hq h3 r (sortI xs) ((e1.trans e2).km k3 (fun i hi => Nat.le_trans e1.size hi)) ?_ ?_ ((sort_perm xs).trans hp) (sort_sorted xs)
  · rcases g3 with g3 | ⟨b, ty, cells, g3⟩
    · exact .inl g3
    · exact .inr ⟨b, ty, cells, g3.base, Nat.le_trans e1.size g3.lo, g3.blk, g3.size, g3.cap, g3.len, g3.get⟩
  · rw [hl2, (sort_perm xs).length_eq]
end
end Gx
namespace Gx
open Go
set_option linter.unusedVariables false
set_option linter.unusedSimpArgs false
/-- a slice of bools -/
structure Bls (h : Heap) (x : Sl) (L : List Bool) : Prop where
  len : x.len = L.length
  at_ : L = [] ∨ ∃ a, x.base = some a ∧ ∀ (i : Nat) b, L[i]? = some b → hcell h (a.add i) = some (.bool b)
theorem Bls.nil (h : Heap) : Bls h Sl.nil [] := ⟨rfl, .inl rfl⟩
theorem Bls.same {h h' : Heap} {x : Sl} {L : List Bool} (H : Bls h x L) (e : L = [] ∨ ∀ i, Sl.on x i → h'[i]? = h[i]?) : Bls h' x L := by
  refine ⟨H.len, ?_⟩
  rcases H.at_ with h1 | ⟨a, ha, h1⟩
  · exact .inl h1
  · rcases e with e | e
    · exact .inl e
    · refine .inr ⟨a, ha, fun j v hj => ?_⟩
      have h2 := h1 j v hj
      have h3 := e a.block ⟨a, ha, rfl⟩
      unfold hcell at h2 ⊢
      rw [add_block] at h2 ⊢
      rw [h3]
      exact h2
theorem Bls.ext {h h' : Heap} {x : Sl} {L : List Bool} (H : Bls h x L) (e : Ext h h') : Bls h' x L := by
  refine ⟨H.len, ?_⟩
  rcases H.at_ with h1 | ⟨a, ha, h1⟩
  · exact .inl h1
  · exact .inr ⟨a, ha, fun j v hj => e.cell (h1 j v hj)⟩
/-- which of the dirty ones stay -/
def keptL (keep : List Bool) : List Int → Nat → List Int
  | [], _ => []
  | x :: xs, i => if keep.getD (i % keep.length) false then x :: keptL keep xs (i + 1) else keptL keep xs (i + 1)
theorem keptL_snoc (keep : List Bool) : ∀ (xs : List Int) (x : Int) (i : Nat), keptL keep (xs ++ [x]) i = if keep.getD ((i + xs.length) % keep.length) false then keptL keep xs i ++ [x] else keptL keep xs i
  | [], x, i => by simp [keptL]
  | y :: xs, x, i => by
    rw [List.cons_append]
    simp only [keptL]
    rw [keptL_snoc keep xs x (i + 1), List.length_cons, show i + 1 + xs.length = i + (xs.length + 1) by omega]
    split <;> split <;> simp
theorem keptL_sub (keep : List Bool) : ∀ (xs : List Int) (i : Nat), ∀ k ∈ keptL keep xs i, k ∈ xs
  | [], i, k, h => by simp [keptL] at h
  | x :: xs, i, k, h => by
    simp only [keptL] at h
    split at h
    · rcases List.mem_cons.1 h with rfl | h
      · simp
      · exact List.mem_cons_of_mem _ (keptL_sub keep xs _ k h)
    · exact List.mem_cons_of_mem _ (keptL_sub keep xs _ k h)
theorem keptL_len (keep : List Bool) : ∀ (xs : List Int) (i : Nat), (keptL keep xs i).length ≤ xs.length
  | [], i => by simp [keptL]
  | x :: xs, i => by
    simp only [keptL]
    have := keptL_len keep xs (i + 1)
    split <;> simp <;> omega
def Dk.stay1 (D : Dk) (k : Int) : Dk := { D with s := Gx.put D.s k.toNat ((mlk k D.c).getD zeros), t := Gx.put D.t k.toNat false }
def Dk.stays (D : Dk) (K : List Int) : Dk := K.foldl Dk.stay1 D
theorem stays_eq (D : Dk) (K : List Int) : (D.stays K).n = D.n ∧ (D.stays K).c = D.c ∧ (D.stays K).away = D.away ∧ (D.stays K).fuse = D.fuse ∧ (D.stays K).calls = D.calls := by
  unfold Dk.stays
  induction K generalizing D with
  | nil => exact ⟨rfl, rfl, rfl, rfl, rfl⟩
  | cons k K ih =>
    rw [List.foldl_cons]
    exact ih (D.stay1 k)
def Dk.tear (D : Dk) (K : List Int) (torn : Int) : Dk := if 0 ≤ torn ∧ torn < K.length then { D with t := Gx.put D.t (K.getD torn.toNat 0).toNat true } else D
def Dk.decide (D : Dk) (xs : List Int) (torn : Int) (keep : List Bool) : Dk := { ((D.stays (keptL keep xs 0)).tear (keptL keep xs 0) torn) with c := [] }
theorem km_kp {F : Fp} {h h' h'' : Heap} {S : Nat → Prop} (a : Kp F h h') (b : Km S h' h'') (hS : ∀ i, S i → h.size ≤ i) : Kp F h h'' := ⟨Nat.le_trans a.size b.size, fun i hi hn => (b.same i (Nat.lt_of_lt_of_le hi a.size) (fun s => by have := hS i s; omega)).trans (a.same i hi hn)⟩
section
variable {h : Heap} {F : Fp} {D : Dk}
theorem ddecide_end {Q : Unit → Heap → Prop} (H : DkAt h F D) (hq : ∀ h', Upd F.bm h h' → DkAt h' F { D with c := [] } → Q () h') : (disk_Disk_decide_j2 (some ⟨F.p, 0, none⟩)).wp h Q := by
  obtain ⟨cs, ct, hb⟩ := H.blk
  obtain ⟨es, c, hm⟩ := H.map
  unfold disk_Disk_decide_j2
  refine nilP_b (ldMp_b (n := some F.bm) (by rw [DkAt.cell hb]; rfl) (clM_b hm (fun h3 u3 hm3 => ?_)))
  exact pure_w (hq h3 u3 (H.setMap u3 hm3 (by simp)))
theorem ddecide_spec {Q : Unit → Heap → Prop} {torn : Int} {x : Sl} {keep : List Bool} (H : DkAt h F D) (hx : Bls h x keep) (hxd : keep = [] ∨ ∀ i, Sl.on x i → ¬ F.on i ∧ i < h.size)
    (hq : ∀ h' xs, xs.Perm (D.c.map Prod.fst) → xs.Pairwise (· ≤ ·) → Kp F h h' → DkAt h' F (D.decide xs torn keep) → Q () h') : (disk_Disk_decide (some ⟨F.p, 0, none⟩) torn x).wp h Q := by
  unfold disk_Disk_decide
  refine bind_w (dirty_spec H (fun h1 r xs e1 g1 hl1 hp hs => ?_))
  have H1 := H.ext e1
  have hnlt := H.nlt
  obtain ⟨es0, c0, hm0⟩ := H.map
  have hkeys := hm0.keys
  have hxl : xs.length = D.c.length := by rw [hp.length_eq, List.length_map]
  have hcl := clen_le H hkeys
  have hkl : keep.length ≤ keep.length := Nat.le_refl _
  have hx1 : Bls h1 x keep := hx.ext e1
  refine M.loop_inv (fun (t : Sl × Int) h' => ∃ i : Nat, t.2 = (i : Int) ∧ i ≤ xs.length ∧ Gw h1.size h' t.1 1 ((keptL keep (xs.take i) 0).map (Value.int .i64)) ∧ t.1.len = (keptL keep (xs.take i) 0).length ∧ DkAt h' F (D.stays (keptL keep (xs.take i) 0)) ∧ Kp F h1 h')
    (fun t _ => ((xs.length : Int) - t.2).toNat) ?_ ⟨0, rfl, Nat.zero_le _, by simpa [keptL] using Gw.nil _ _ _, by simp [keptL, Sl.nil], by simpa [keptL, Dk.stays] using H1, Kp.refl _ _⟩
  rintro ⟨q, t⟩ h' ⟨i, ht, hi, gq, hlq, HD, K⟩ self hself
  dsimp only at ht gq hlq
  subst ht
  have hFlt : ∀ j, F.on j → j < h1.size := fun j hj => H1.lt hj
  have hrF : ∀ j, Sl.on r j → ¬ F.on j := fun j hj ho => by have := (g1.lt hj).2; have := H.lt ho; omega
  have g1' : Gw h.size h' r 1 (xs.map (Value.int .i64)) := g1.same (fun j hj => K.same j (g1.lt hj).1 (hrF j hj))
  have hx' : Bls h' x keep := hx1.same (hxd.imp id (fun hh j hj => K.same j (Nat.lt_of_lt_of_le (hh j hj).2 e1.size) (hh j hj).1))
  unfold disk_Disk_decide_l1
  rw [hl1]
  have hkq : (keptL keep (xs.take i) 0).length ≤ i := by
    have := keptL_len keep (xs.take i) 0
    rw [List.length_take] at this
    omega
  refine ite_w (fun hlt => ?_) (fun hge => ?_)
  · have hlt : i < xs.length := by have := of_decide_eq_true hlt; omega
    obtain ⟨b, hbase, hc⟩ := g1'.cell (j := i) (v := .int .i64 xs[i]) (by rw [List.getElem?_map, List.getElem?_eq_getElem hlt]; rfl)
    refine ixL_b (by omega) (by rw [hl1]; omega) hbase ?_
    refine ldI_b (n := xs[i]) (by rw [add_mk, show 0 + (i : Int).toNat * 1 = i by omega]; exact hc) ?_
    have htake : xs.take (i + 1) = xs.take i ++ [xs[i]] := by rw [List.take_add_one, List.getElem?_eq_getElem hlt]; rfl
    have hksn := keptL_snoc keep (xs.take i) xs[i] 0
    rw [← htake, List.length_take, Nat.min_eq_left (by omega), Nat.zero_add] at hksn
    have hwi : IntKind.wrap .i64 ((i : Int) + 1) = ((i + 1 : Nat) : Int) := by rw [w64 (by omega) (by omega)]; rfl
    have off : keep.getD (i % keep.length) false = false → (disk_Disk_decide_j1 self (i : Int) q).wp h' Q := fun hk => by
      unfold disk_Disk_decide_j1
      rw [hwi]
      rw [hk, if_neg (by decide)] at hksn
      exact hself _ _ ⟨i + 1, rfl, by omega, by rw [hksn]; exact gq, by rw [hksn]; exact hlq, by rw [hksn]; exact HD, K⟩ (by dsimp only; omega)
    have on : keep.getD (i % keep.length) false = true → (disk_Disk_stay (some ⟨F.p, 0, none⟩) xs[i] >>= fun _ => bdL ty_int 1 #[.int .i64 xs[i]] >>= fun x34 => apL ty_int 1 8 (#[.int .i64 0] : Array Value) q x34 >>= fun x35 => disk_Disk_decide_j1 self (i : Int) x35).wp h' Q := fun hk => by
      rw [hk, if_pos rfl] at hksn
      have hmem : xs[i] ∈ D.c.map Prod.fst := hp.mem_iff.1 (List.getElem_mem hlt)
      obtain ⟨p, hpm, hp1⟩ := List.mem_map.1 hmem
      obtain ⟨hc1, hc2, hc3⟩ := H.clen p hpm
      obtain ⟨j, hj⟩ := List.getElem?_of_mem hpm
      obtain ⟨en, ec, ea, ef, el⟩ := stays_eq D (keptL keep (xs.take i) 0)
      have hcast : xs[i] = ((p.1.toNat : Nat) : Int) := by omega
      have hlk : mlk ((p.1.toNat : Nat) : Int) (D.stays (keptL keep (xs.take i) 0)).c = some p.2 := by
        rw [ec]
        exact mlk_of hkeys (j := j) (by rw [hj]; congr 1; ext <;> simp; omega)
      have goal : ∀ z : Int, z = xs[i] → (disk_Disk_stay (some ⟨F.p, 0, none⟩) z >>= fun _ => bdL ty_int 1 #[.int .i64 xs[i]] >>= fun x34 => apL ty_int 1 8 (#[.int .i64 0] : Array Value) q x34 >>= fun x35 => disk_Disk_decide_j1 self (i : Int) x35).wp h' Q := by
        rintro z hz
        rw [hz, hcast]
        refine bind_w (dstay_spec HD (by rw [en]; omega) hlk hc1 (fun h2 k2 s2 HD2 => ?_))
        rw [← hcast]
        refine bdL_b ?_
        have qF : ∀ j, Sl.on q j → ¬ F.on j := fun j hj ho => by have := (gq.lt hj).2; have := hFlt j ho; omega
        have on2 : ∀ j, ¬ F.on j → h2[j]? = h'[j]? := fun j hn => k2 j (fun e => hn (.inr (.inl e))) (fun e => hn (.inr (.inr (.inl e))))
        have gq2 : Gw h1.size h2 q 1 ((keptL keep (xs.take i) 0).map (Value.int .i64)) := gq.same (fun j hj => on2 j (qF j hj))
        have e3 := Ext.push h2 (.cells #[.int .i64 xs[i]] ty_int)
        have b3 : (h2.push (.cells #[.int .i64 xs[i]] ty_int))[h2.size]? = some (.cells #[.int .i64 xs[i]] ty_int (0, 0)) := get_push_eq
        have K2 : Kp F h1 h2 := K.trans ⟨by rw [s2]; exact Nat.le_refl _, fun j _ hn => on2 j hn⟩
        refine bind_w (ap_grow (lo := h1.size) (news := [.int .i64 xs[i]]) rfl (gq2.ext e3) (by simp) (.inr ⟨_, rfl, fun j v hj => ?_⟩) (by simp; rfl) (by simp [hlq]; omega) (by simp [hlq]; omega) (by have := K2.size; simp; omega) (fun h4 r4 g4 hl4 hs4 hk4 ho4 => ?_))
        · rcases j with _ | j
          · simp at hj; subst hj
            rw [add_mk, hcell_blk b3]; rfl
          · simp at hj
        · have K4 : Kp F h1 h4 := by
            have := K2.trans (Kp.ext e3)
            refine ⟨Nat.le_trans this.size hs4, fun j hj hn => ?_⟩
            rw [hk4 j (Nat.lt_of_lt_of_le hj this.size) (fun ho => by have := (gq.lt ho).2; omega)]
            exact this.same j hj hn
          have HD4 : DkAt h4 F ((D.stays (keptL keep (xs.take i) 0)).stay1 xs[i]) := by
            have e5 : ((D.stays (keptL keep (xs.take i) 0)).stay1 xs[i]) = { (D.stays (keptL keep (xs.take i) 0)) with s := put (D.stays (keptL keep (xs.take i) 0)).s p.1.toNat p.2, t := put (D.stays (keptL keep (xs.take i) 0)).t p.1.toNat false } := by
              unfold Dk.stay1
              rw [hcast, hlk]
              rfl
            rw [e5]
            refine (HD2.ext e3).same (fun j hj => hk4 j ?_ (fun ho => qF j ho hj))
            have := hFlt j hj
            have := K2.size
            simp; omega
          unfold disk_Disk_decide_j1
          rw [hwi]
          refine hself _ _ ⟨i + 1, rfl, by omega, by rw [hksn, List.map_append]; exact g4, by rw [hl4, hlq, hksn]; simp, ?_, K4⟩ (by dsimp only; omega)
          rw [hksn]
          unfold Dk.stays
          rw [List.foldl_append]
          exact HD4
      exact goal _ rfl
    rw [hx.len]
    refine ite_b (fun hk0 => ?_) (fun hk0 => ?_)
    · have hk0 : 0 < keep.length := by have := of_decide_eq_true hk0; omega
      have hmod : i % keep.length < keep.length := Nat.mod_lt _ hk0
      have htm : ((i : Int).tmod (keep.length : Int)) = ((i % keep.length : Nat) : Int) := by
        rw [Int.tmod_eq_emod_of_nonneg (by omega)]; rfl
      refine assoc_b ⟨_, ⟨by omega, rfl⟩, ?_⟩
      rw [htm]
      obtain ⟨a, ha, hcell⟩ : ∃ a, x.base = some a ∧ ∀ (i : Nat) b, keep[i]? = some b → hcell h' (a.add i) = some (.bool b) := by
        rcases hx'.at_ with h3 | h3
        · subst h3; simp at hk0
        · exact h3
      refine assoc_b (ixL_b (by omega) (by rw [hx.len]; omega) ha ?_)
      refine assoc_b (ldB_b (n := keep[i % keep.length]) (by rw [show ((i % keep.length : Nat) : Int).toNat * 1 = i % keep.length by omega]; exact hcell _ _ (List.getElem?_eq_getElem hmod)) ?_)
      refine pure_b ?_
      have hgd : keep.getD (i % keep.length) false = keep[i % keep.length] := by rw [List.getD_eq_getElem?_getD, List.getElem?_eq_getElem hmod]; rfl
      refine ite_w (fun hb => on (hgd.trans hb)) (fun hb => off (hgd.trans hb))
    · have hk0 : keep.length = 0 := by have := of_decide_eq_false hk0; omega
      refine pure_b (iteF rfl (off ?_))
      have : keep = [] := List.length_eq_zero_iff.1 hk0
      subst this
      rfl
  · have hge : i = xs.length := by have := of_decide_eq_false hge; omega
    subst hge
    rw [List.take_length] at gq hlq HD hkq
    generalize hK : keptL keep xs 0 = KL at gq hlq HD hkq
    obtain ⟨en, ec, ea, ef, el⟩ := stays_eq D KL
    have fin : ∀ {h2 : Heap}, Kp F h1 h2 → DkAt h2 F ((D.stays KL).tear KL torn) → (disk_Disk_decide_j2 (some ⟨F.p, 0, none⟩)).wp h2 Q := fun K2 H2 => by
      refine ddecide_end H2 (fun h3 u3 H3 => ?_)
      refine hq h3 xs hp hs ?_ ?_
      · have K3 := K2.trans (Kp.upd u3 (.inr (.inr (.inr rfl))))
        exact ⟨Nat.le_trans e1.size K3.size, fun j hj hn => (K3.same j (Nat.lt_of_lt_of_le hj e1.size) hn).trans (e1.same j hj)⟩
      · unfold Dk.decide
        rw [hK]
        exact H3
    have hor : (M.ite (decide (torn ≥ 0)) (M.pure (decide (torn < (q.len : Int)))) (M.pure false) : M Bool) = M.pure (decide (0 ≤ torn ∧ torn < KL.length)) := by
      by_cases h0 : 0 ≤ torn
      · simp [h0, M.ite, hlq]
      · simp [h0, M.ite]
    show ((M.ite (decide (torn ≥ 0)) (M.pure (decide (torn < (q.len : Int)))) (M.pure false) : M Bool) >>= _).wp h' Q
    rw [hor]
    refine pure_b (ite_w (fun hc => ?_) (fun hc => ?_))
    · have hc : 0 ≤ torn ∧ torn < KL.length := of_decide_eq_true hc
      have htl : torn.toNat < KL.length := by omega
      obtain ⟨b, hbase, hcc⟩ := gq.cell (j := torn.toNat) (v := .int .i64 KL[torn.toNat]) (by rw [List.getElem?_map, List.getElem?_eq_getElem htl]; rfl)
      obtain ⟨cs, ct, hb⟩ := HD.blk
      refine nilP_b (ixL_b (by omega) (by rw [hlq]; omega) hbase ?_)
      refine ldL_b (n := ⟨some ⟨F.bt, 0, none⟩, (D.stays KL).n, ct⟩) (by rw [DkAt.cell hb]; rfl) ?_
      refine ldI_b (n := KL[torn.toNat]) (by rw [add_mk, show 0 + torn.toNat * 1 = torn.toNat by omega]; exact hcc) ?_
      have hmem : KL[torn.toNat] ∈ D.c.map Prod.fst := hp.mem_iff.1 (keptL_sub keep xs 0 _ (by rw [hK]; exact List.getElem_mem htl))
      obtain ⟨p, hpm, hp1⟩ := List.mem_map.1 hmem
      obtain ⟨hc1, hc2, hc3⟩ := H.clen p hpm
      refine ixL_b (by omega) (by show KL[torn.toNat] < ((D.stays KL).n : Int); rw [en]; omega) rfl ?_
      rw [add_mk, show 0 + (KL[torn.toNat]).toNat * 1 = (KL[torn.toNat]).toNat by omega]
      refine HD.stT (by rw [en]; omega) (fun h2 u2 H2 => fin (K.trans (Kp.upd u2 (.inr (.inr (.inl rfl))))) ?_)
      unfold Dk.tear
      rw [if_pos hc]
      have : KL.getD torn.toNat 0 = KL[torn.toNat] := by rw [List.getD_eq_getElem?_getD, List.getElem?_eq_getElem htl]; rfl
      rw [this]
      exact H2
    · have hc : ¬ (0 ≤ torn ∧ torn < KL.length) := of_decide_eq_false hc
      refine fin K ?_
      unfold Dk.tear
      rw [if_neg hc]
      exact HD
end
end Gx
namespace Gx
open Go
set_option linter.unusedVariables false
set_option linter.unusedSimpArgs false
section
variable {h : Heap} {F : Fp} {D : Dk}
theorem ddown_spec {Q : Bool → Heap → Prop} (H : DkAt h F D) (hq : Q D.away h) : (disk_Disk_Down (some ⟨F.p, 0, none⟩)).wp h Q := by
  obtain ⟨cs, ct, hb⟩ := H.blk
  unfold disk_Disk_Down
  refine bind_w (dnone_spec H ?_)
  refine iteT_b rfl (assoc_b (nilP_b (assoc_b (ldB_b (n := D.away) (by rw [DkAt.cell hb]; rfl) (pure_b (pure_w hq))))))
theorem dset_away {Q : Unit → Heap → Prop} {β : Type} {f : Unit → M β} {R : β → Heap → Prop} {aw : Bool} (H : DkAt h F D) (hq : ∀ h', Upd F.p h h' → DkAt h' F { D with away := aw } → (f ()).wp h' R) : (stV ((⟨F.p, 0, none⟩ : Addr).add 3) (.bool aw) >>= f).wp h R := by
  obtain ⟨cs, ct, hb⟩ := H.blk
  refine stV_b (x := .bool D.away) (by rw [DkAt.cell hb]; rfl) (by rw [add_mk, hfrozen_blk hb]) rfl ?_
  rw [add_mk]
  refine hq _ (Upd.hset _ _ _ _) (H.head (aw := aw) (fu := D.fuse) (ca := D.calls) (Upd.hset _ _ _ _) ⟨cs, ct, ?_⟩ H.fz)
  rw [hset_at hb]; rfl
theorem dset_fuse {β : Type} {f : Unit → M β} {R : β → Heap → Prop} {fu : Int} (H : DkAt h F D) (hf : 0 ≤ fu ∧ fu ≤ 9223372036854775807) (hq : ∀ h', Upd F.p h h' → DkAt h' F { D with fuse := fu } → (f ()).wp h' R) : (stV ((⟨F.p, 0, none⟩ : Addr).add 4) (.int .i64 fu) >>= f).wp h R := by
  obtain ⟨cs, ct, hb⟩ := H.blk
  refine stV_b (x := .int .i64 D.fuse) (by rw [DkAt.cell hb]; rfl) (by rw [add_mk, hfrozen_blk hb]) rfl ?_
  rw [add_mk]
  refine hq _ (Upd.hset _ _ _ _) (H.head (aw := D.away) (fu := fu) (ca := D.calls) (Upd.hset _ _ _ _) ⟨cs, ct, ?_⟩ hf)
  rw [hset_at hb]; rfl
theorem dsetfuse_spec {Q : Int → Heap → Prop} {n : Int} (H : DkAt h F D) (ha : D.away = false) (hn0 : 0 ≤ n) (hn : n ≤ 9223372036854775807) (hq : ∀ h', Kp F h h' → DkAt h' F { D with fuse := n } → Q 0 h') : (disk_Disk_SetFuse (some ⟨F.p, 0, none⟩) n).wp h Q := by
  unfold disk_Disk_SetFuse
  refine bind_w (dcan_spec H ?_)
  rw [ha]
  refine iteF rfl (iteF (by simp; omega) (nilP_b (dset_fuse H ⟨hn0, hn⟩ (fun h1 u1 H1 => pure_w (hq h1 (Kp.upd u1 (.inl rfl)) H1)))))
theorem dcrash_spec {Q : Int → Heap → Prop} {torn : Int} {x : Sl} {keep : List Bool} (H : DkAt h F D) (ha : D.away = false) (hx : Bls h x keep) (hxd : keep = [] ∨ ∀ i, Sl.on x i → ¬ F.on i ∧ i < h.size)
    (hq : ∀ h' xs, xs.Perm (D.c.map Prod.fst) → xs.Pairwise (· ≤ ·) → Kp F h h' → DkAt h' F (Dk.decide { D with away := true, fuse := 0 } xs torn keep) → Q 0 h') : (disk_Disk_Crash (some ⟨F.p, 0, none⟩) torn x).wp h Q := by
  unfold disk_Disk_Crash
  refine bind_w (dcan_spec H ?_)
  rw [ha]
  refine iteF rfl (nilP_b (dset_away (Q := fun _ _ => True) H (fun h1 u1 H1 => nilP_b (dset_fuse H1 ⟨by omega, by omega⟩ (fun h2 u2 H2 => ?_)))))
  have k2 : Kp F h h2 := (Kp.upd u1 (.inl rfl)).trans (Kp.upd u2 (.inl rfl))
  have hx2 : Bls h2 x keep := hx.same (hxd.imp id (fun hh i hi => k2.same i (hh i hi).2 (hh i hi).1))
  refine bind_w (ddecide_spec H2 hx2 (hxd.imp id (fun hh i hi => ⟨(hh i hi).1, Nat.lt_of_lt_of_le (hh i hi).2 k2.size⟩)) (fun h3 xs p s k3 H3 => pure_w (hq h3 xs p s (k2.trans k3) H3)))
theorem dstart_spec {Q : Int → Heap → Prop} {torn : Int} {x : Sl} {keep : List Bool} (H : DkAt h F D) (ha : D.away = true) (hx : Bls h x keep) (hxd : keep = [] ∨ ∀ i, Sl.on x i → ¬ F.on i ∧ i < h.size)
    (hq : ∀ h' xs, xs.Perm (D.c.map Prod.fst) → xs.Pairwise (· ≤ ·) → Kp F h h' → DkAt h' F (Dk.decide { D with away := false } xs torn keep) → Q 0 h') : (disk_Disk_Start (some ⟨F.p, 0, none⟩) torn x).wp h Q := by
  unfold disk_Disk_Start
  obtain ⟨cs, ct, hb⟩ := H.blk
  refine bind_w (dnone_spec H (iteF rfl (nilP_b (ldB_b (n := D.away) (by rw [DkAt.cell hb]; rfl) ?_))))
  rw [ha]
  refine iteF rfl (nilP_b (dset_away (Q := fun _ _ => True) H (fun h1 u1 H1 => ?_)))
  have k2 : Kp F h h1 := (Kp.upd u1 (.inl rfl))
  have hx2 : Bls h1 x keep := hx.same (hxd.imp id (fun hh i hi => k2.same i (hh i hi).2 (hh i hi).1))
  refine bind_w (ddecide_spec H1 hx2 (hxd.imp id (fun hh i hi => ⟨(hh i hi).1, Nat.lt_of_lt_of_le (hh i hi).2 k2.size⟩)) (fun h3 xs p s k3 H3 => pure_w (hq h3 xs p s (k2.trans k3) H3)))
end
end Gx
namespace Gx
open Go
set_option linter.unusedVariables false
set_option linter.unusedSimpArgs false
set_option maxRecDepth 20000
theorem HN.weak {lo lo' : Nat} {h : Heap} {o : Hd} {ns : Sl} (H : HN lo h o ns) (hl : lo' ≤ lo) : HN lo' h o ns := fun e k n ho => ⟨(H e k n ho).1, fun i hi => Nat.le_trans hl ((H e k n ho).2 i hi)⟩
theorem lay_0 {A B C : List Value} (hA : A.length = 7) (hC : C.length = 7) : lay (A ++ B).toArray (0 * 7) C = (C ++ B).toArray := by
  apply Array.ext'
  rw [lay_toList _ _ _ (by simp; omega)]
  simp [hC, List.drop_append_of_le_length, ← hA]
theorem lay_7 {A B C : List Value} (hA : A.length = 7) (hB : B.length = 7) (hC : C.length = 7) : lay (A ++ B).toArray (1 * 7) C = (A ++ C).toArray := by
  apply Array.ext'
  rw [lay_toList _ _ _ (by simp; omega)]
  simp [hC, hA, hB, List.take_append, List.drop_append]
section
variable {h : Heap} {F : Fp} {D : Dk}
theorem heads_spec {Q : Array Value → Heap → Prop} {ob : Nat → Hd} (H : DkAt h F D) (h0 : HeadAt D 0 (ob 0)) (h1 : HeadAt D 1 (ob 1)) (hnn : D.n ≤ 16384)
    (hq : ∀ h' n0 n1, Ext h h' → HN h.size h' (ob 0) n0 → HN h.size h' (ob 1) n1 → Q (hc F.p (ob 0) n0 ++ hc F.p (ob 1) n1).toArray h') : (wal_heads (some ⟨F.p, 0, none⟩)).wp h Q := by
  unfold wal_heads
  have z14 : (#[.pointer none, .int .i64 0, .slice none 0 0, .int .i64 0, .int .i64 0, .bool false, .bool false, .pointer none, .int .i64 0, .slice none 0 0, .int .i64 0, .int .i64 0, .bool false, .bool false] : Array Value) = (hz ++ hz).toArray := rfl
  rw [z14]
  refine mkB_b ?_
  have e2 := Ext.push h (.cells (hz ++ hz).toArray ty_2_wal_Log)
  have b2 : (h.push (.cells (hz ++ hz).toArray ty_2_wal_Log))[h.size]? = some (.cells (hz ++ hz).toArray ty_2_wal_Log (0, 0)) := get_push_eq
  have s2 : (h.push (.cells (hz ++ hz).toArray ty_2_wal_Log)).size = h.size + 1 := by simp
  generalize h.push (.cells (hz ++ hz).toArray ty_2_wal_Log) = h2 at e2 b2 s2 ⊢
  refine mkB_b ?_
  have e3 := Ext.push h2 (.cells (hz ++ hz).toArray ty_2_wal_Log)
  have b3 : (h2.push (.cells (hz ++ hz).toArray ty_2_wal_Log))[h2.size]? = some (.cells (hz ++ hz).toArray ty_2_wal_Log (0, 0)) := get_push_eq
  have s3 : (h2.push (.cells (hz ++ hz).toArray ty_2_wal_Log)).size = h2.size + 1 := by simp
  generalize h2.push (.cells (hz ++ hz).toArray ty_2_wal_Log) = h3 at e3 b3 s3 ⊢
  have E3 := e2.trans e3
  have H3 := H.ext E3
  have hF : ¬ F.on h2.size := fun ho => by have := H.lt ho; omega
  refine M.loop_inv (fun (t : Int) h' => ∃ k : Nat, t = (k : Int) ∧ k ≤ 2 ∧ Km (fun i => i = h2.size) h3 h' ∧ ∃ n0 n1, HN h3.size h' (if 0 < k then ob 0 else none) n0 ∧ HN h3.size h' (if 1 < k then ob 1 else none) n1 ∧
      h'[h2.size]? = some (.cells (hc F.p (if 0 < k then ob 0 else none) n0 ++ hc F.p (if 1 < k then ob 1 else none) n1).toArray ty_2_wal_Log (0, 0))) (fun t _ => (2 - t).toNat) ?_ ⟨0, rfl, by omega, Km.refl _ _, Sl.nil, Sl.nil, HN.none _ _ _, HN.none _ _ _, b3⟩
  rintro t h' ⟨k, rfl, hk, K, n0, n1, hn0, hn1, hb⟩ self hself
  have H' : DkAt h' F D := H3.same (fun i hi => K.same i (H3.lt hi) (fun h => hF (h ▸ hi)))
  have hlS : ∀ i, i = h2.size → i < h3.size := fun i hi => by omega
  have hKs := K.size
  match k, hk with
  | 0, _ =>
    refine heads_round H' h0 (by omega) hnn (by simp [hc_len]) hb hF (fun h4 ns cs' K4 hN b4 hc0 hc1 => ?_)
    refine hself _ _ ⟨1, rfl, by omega, K.trans K4, ns, n1, (hN.weak hKs), hn1.km K4 hlS, ?_⟩ (by decide)
    rw [b4]
    cases ho : ob 0 with
    | none => rw [hc0 ho]; simp [ho, hc]
    | some x => rw [hc1 (by rw [ho]; simp), lay_0 (hc_len _ _ _) (hc_len _ _ _)]; simp [ho]
  | 1, _ =>
    refine heads_round H' h1 (by omega) hnn (by simp [hc_len]) hb hF (fun h4 ns cs' K4 hN b4 hc0 hc1 => ?_)
    refine hself _ _ ⟨2, rfl, by omega, K.trans K4, n0, ns, hn0.km K4 hlS, (hN.weak hKs), ?_⟩ (by decide)
    rw [b4]
    cases ho : ob 1 with
    | none => rw [hc0 ho]; simp [ho, hc]
    | some x => rw [hc1 (by rw [ho]; simp), lay_7 (hc_len _ _ _) (hc_len _ _ _) (hc_len _ _ _)]; simp [ho]
  | 2, _ =>
    unfold wal_heads_l1
    refine iteF rfl ?_
    have hb' : h'[h2.size]? = some (.cells (hc F.p (ob 0) n0 ++ hc F.p (ob 1) n1).toArray ty_2_wal_Log (0, 0)) := hb
    have hsz : (hc F.p (ob 0) n0 ++ hc F.p (ob 1) n1).toArray.size = 14 := by simp [hc_len]
    refine ldR hb' hsz (need_b hsz ?_)
    have b2' : h'[h.size]? = some (.cells (hz ++ hz).toArray ty_2_wal_Log (0, 0)) := K.blk (e3.blk b2) (by omega)
    refine stR b2' (by rw [hsz]; decide) (fun v hv => ?_) (fun h4 u4 b4 => ?_)
    · rw [List.toList_toArray] at hv
      rcases List.mem_append.1 hv with h | h
      · exact hc_one _ _ _ v h
      · exact hc_one _ _ _ v h
    · rw [lay_full (by rw [Array.length_toList, hsz]; rfl)] at b4
      refine ldR b4 (by simpa using hsz) ?_
      have E' : Ext h h4 := ⟨by rw [u4.size]; have := E3.size; omega, fun i hi => by rw [u4.ne i (by omega), K.same i (by omega) (by omega)]; exact E3.same i hi⟩
      have := hq h4 n0 n1 E' ((hn0.km (Km.upd (S := fun i => i = h.size) u4 rfl) (fun i hi => by omega)).weak (by omega)) ((hn1.km (Km.upd (S := fun i => i = h.size) u4 rfl) (fun i hi => by omega)).weak (by omega))
      exact pure_w (by simpa using this)
end
end Gx
namespace Gx
open Go
set_option linter.unusedVariables false
set_option linter.unusedSimpArgs false
set_option maxRecDepth 20000
/-- a commit that does not end: frames of kind 2, then none -/
def PartAt (D : Dk) (ep slots u : Nat) (ps : List (List UInt8)) : Prop :=
  (∀ j (hj : j < ps.length), u + j < slots ∧ ps[j].length ≤ 112 ∧ D.read ((2 + u + j : Nat) : Int) = (sealed 2 (atN ep (u + j)) ps[j], 0)) ∧ NoneAt D ep slots (u + ps.length)
section
variable {h : Heap} {F : Fp} {D : Dk} {b o : Nat} {ns : Sl} {L : Lg}
theorem next_part {Q : Sl × Bool → Heap → Prop} {ps : List (List UInt8)} (H : WalAt h F D b o ns L) (hP : PartAt D L.epoch L.slots L.used ps) (hq : ∀ h', Ext h h' → Q (Sl.nil, false) h') : (wal_Log_next (some ⟨b, o, none⟩)).wp h Q := by
  unfold wal_Log_next
  have hsl := H.ok.slots
  have hep := H.ok.epoch
  obtain ⟨hfr, hN⟩ := hP
  refine nilP_b (ldI_b (n := (L.used : Int)) (by rw [H.cell (by omega)]; rfl) ?_)
  refine M.loop_inv (fun (t : Sl × Int) h' => Ext h h' ∧ ∃ (j : Nat) (l : List UInt8), t.2 = ((L.used + j : Nat) : Int) ∧ j ≤ ps.length ∧ j ≤ 4096 ∧ l.length ≤ 112 * j ∧ Gw h.size h' t.1 1 (l.map bv)) (fun t _ => ((L.used + ps.length : Nat) - t.2 + 1).toNat) ?_ ⟨Ext.refl h, 0, [], rfl, Nat.zero_le _, Nat.zero_le _, Nat.le_refl _, Gw.nil _ _ _⟩
  rintro ⟨y, t⟩ h' ⟨E, j, l, hjj, hj, hj2, hll, hg⟩ self hself
  dsimp only at hjj hg
  subst hjj
  have W := H.ext E
  by_cases hlast : j = ps.length
  · subst hlast
    by_cases hu : L.used + ps.length < L.slots
    · refine next_step W hu (fun _ h1 e1 => hq h1 (E.trans e1)) (fun a1 a2 a3 => ?_)
      rcases hN with h1 | h1 | h1 | h1
      · omega
      · exact absurd a1 h1
      · rw [a2] at h1; cases h1
      · exact absurd a3 h1
    · unfold wal_Log_next_l1
      refine nilP_b (ldI_b (n := (L.slots : Int)) (by rw [W.cell (by omega)]; rfl) ?_)
      exact iteF (by simp; omega) (pure_w (hq _ E))
  · obtain ⟨hs, hpl, hr⟩ := hfr j (by omega)
    rw [show 2 + L.used + j = 2 + (L.used + j) by omega] at hr
    have hat : 0 ≤ atN L.epoch (L.used + j) ∧ atN L.epoch (L.used + j) ≤ 9223372036854775807 := by unfold atN; omega
    have hb1 : badF 2 (atN L.epoch (L.used + j)) (ps[j]'(by omega)) = false := badF_ok (by omega) (by omega) hat.1 hpl
    obtain ⟨q1, _, q3, q4⟩ := sealed_fields hb1 hat.2
    have q5 := open_sealed hb1 hat.2
    refine next_step W (u := L.used + j) hs (fun hne => ?_) (fun a1 a2 a3 h1 fb s e1 hfb f1 b1 => ?_)
    · rw [hr] at hne
      dsimp only at hne
      rw [q5, q3] at hne
      simp at hne
    · rw [hr] at f1 b1 ⊢
      dsimp only at f1 b1 ⊢
      rw [q1] at f1
      rw [q4] at b1
      rw [q1]
      unfold wal_Log_next_j1
      refine iteF rfl (ldL_b (n := s) (by rw [add_mk, f1.cell]; rfl) ?_)
      have hE1 := E.trans e1
      refine apB_b (hg.ext e1) b1 (by omega) hE1.size (fun h2 y2 g2 k2 on2 => ?_)
      have E2 : Ext h h2 := hE1.km k2 (fun i hi => (hg.lt hi).2)
      have f2 : FB h2 fb 2 (atN L.epoch (L.used + j)) s := by
        unfold FB
        exact k2.blk f1 (fun ho => by have := (hg.lt ho).1; omega)
      refine ldI_b (n := 2) (by rw [add_mk, f2.cell]; rfl) (iteF rfl ?_)
      rw [show IntKind.wrap .i64 (((L.used + j : Nat) : Int) + 1) = ((L.used + (j + 1) : Nat) : Int) by rw [w64 (by omega) (by omega)]; omega]
      exact hself _ _ ⟨E2, j + 1, _, rfl, by omega, by omega, by rw [List.length_append]; omega, g2⟩ (by dsimp only; omega)
end
end Gx
namespace Gx
open Go
set_option linter.unusedVariables false
set_option linter.unusedSimpArgs false
set_option maxRecDepth 20000
theorem Reads.keep {h h' : Heap} {b : Option Addr} {cs : List Value} (H : Reads h b cs) (e : ∀ a, b = some a → a.block < h.size → h'[a.block]? = h[a.block]?) : Reads h' b cs := by
  rcases H with h1 | ⟨a, ha, h1⟩
  · exact .inl h1
  · refine .inr ⟨a, ha, fun j v hj => ?_⟩
    have h2 := h1 j v hj
    unfold hcell at h2 ⊢
    rw [add_block] at h2 ⊢
    have hlt : a.block < h.size := by
      rcases Nat.lt_or_ge a.block h.size with h' | h'
      · exact h'
      · rw [Array.getElem?_eq_none h'] at h2; cases h2
    rw [e a ha hlt]
    exact h2
/-- a slice of byte slices, on blocks that P names -/
structure BssP (P : Nat → Prop) (h : Heap) (s : Sl) (rs : List (List UInt8)) : Prop where
  ex : ∃ ts : List Sl, Reads h s.base (ts.map Sl.v) ∧ s.len = ts.length ∧ Bsl h ts rs ∧ ∀ t ∈ ts, ∀ i, Sl.on t i → P i
  on : ∀ i, Sl.on s i → P i
theorem BssP.keep {P P' : Nat → Prop} {h h' : Heap} {s : Sl} {rs : List (List UInt8)} (H : BssP P h s rs) (e : ∀ i, P i → i < h.size → h'[i]? = h[i]?) (hP : ∀ i, P i → P' i) : BssP P' h' s rs := by
  obtain ⟨ts, h1, h2, h3, h4⟩ := H.ex
  exact ⟨⟨ts, h1.keep (fun a ha hl => e _ (H.on _ ⟨a, ha, rfl⟩) hl), h2, ⟨h3.1, fun i s l hs hl => (h3.2 i s l hs hl).keep (fun i hi hl => e i (h4 s (List.mem_of_getElem? hs) i hi) hl)⟩, fun t ht i hi => hP i (h4 t ht i hi)⟩, fun i hi => hP i (H.on i hi)⟩
theorem BssP.bss {P : Nat → Prop} {h : Heap} {s : Sl} {rs : List (List UInt8)} (H : BssP P h s rs) : Bss h s rs := by
  obtain ⟨ts, h1, h2, h3, h4⟩ := H.ex
  refine ⟨by rw [h2, h3.1], ?_⟩
  rcases h1 with h1 | ⟨a, ha, h1⟩
  · left
    have : ts = [] := by simpa using h1
    subst this
    exact List.length_eq_zero_iff.1 h3.1.symm
  · refine .inr ⟨a, ha, fun i l hi => ?_⟩
    have hlt : i < ts.length := by rw [h3.1]; exact (List.getElem?_eq_some_iff.1 hi).1
    exact ⟨ts[i], h1 i _ (by rw [List.getElem?_map, List.getElem?_eq_getElem hlt]; rfl), h3.2 i _ l (List.getElem?_eq_getElem hlt) hi⟩
/-- a slice of commits -/
def Css (lo : Nat) (h : Heap) (x : Sl) (css : List (List (List UInt8))) : Prop :=
  ∃ ss : List Sl, Gws lo h x ss ∧ ss.length = css.length ∧ ∀ (i : Nat) s rs, ss[i]? = some s → css[i]? = some rs → BssP (fun i => lo ≤ i ∧ i < h.size ∧ ¬ Sl.on x i) h s rs
theorem Css.nil (lo : Nat) (h : Heap) : Css lo h Sl.nil [] := ⟨[], Gws.nil _ _, rfl, fun i s rs hs => by simp at hs⟩
theorem Css.keep {lo : Nat} {h h' : Heap} {x : Sl} {css : List (List (List UInt8))} (H : Css lo h x css) (hs : h.size ≤ h'.size) (e : ∀ i, lo ≤ i → i < h.size → h'[i]? = h[i]?) : Css lo h' x css := by
  obtain ⟨ss, h1, h2, h3⟩ := H
  exact ⟨ss, ⟨h1.gw.same (fun i hi => e i (h1.gw.lt hi).2 (h1.gw.lt hi).1), fun s hs' i hi => ⟨(h1.off s hs' i hi).1, Nat.lt_of_lt_of_le (h1.off s hs' i hi).2 hs⟩, h1.len⟩, h2, fun i s rs hs' hr => (h3 i s rs hs' hr).keep (fun i hi hl => e i hi.1 hl) (fun i hi => ⟨hi.1, Nat.lt_of_lt_of_le hi.2.1 hs, hi.2.2⟩)⟩
theorem Css.weak {lo lo' : Nat} {h : Heap} {x : Sl} {css : List (List (List UInt8))} (H : Css lo h x css) (hl : lo' ≤ lo) : Css lo' h x css := by
  obtain ⟨ss, h1, h2, h3⟩ := H
  exact ⟨ss, ⟨h1.gw.weak hl, h1.off, h1.len⟩, h2, fun i s rs hs' hr => (h3 i s rs hs' hr).keep (fun _ _ _ => rfl) (fun i hi => ⟨Nat.le_trans hl hi.1, hi.2⟩)⟩
theorem css_push {β : Type} {lo e : Nat} {h : Heap} {Q : β → Heap → Prop} {x s : Sl} {css : List (List (List UInt8))} {rs : List (List UInt8)} {f : Sl → M β} (H : Css lo h x css) (hlo : lo ≤ h.size) (hl : css.length ≤ 10000)
    (hs : BssP (fun i => lo ≤ i ∧ i < h.size ∧ ¬ Sl.on x i) h s rs) (hq : ∀ h' x', Km (Sl.on x) h h' → Css lo h' x' (css ++ [rs]) → (f x').wp h' Q) :
    (bdL e 1 #[s.v] >>= fun y => apL e 1 24 (#[.slice none 0 0] : Array Value) x y >>= f).wp h Q := by
  obtain ⟨ss, h1, h2, h3⟩ := H
  refine ap1_b h1 (fun i hi => ⟨(hs.on i hi).2.2, (hs.on i hi).2.1⟩) (by omega) hlo (fun h' x' g k on => hq h' x' k ⟨ss ++ [s], g, by simp [h2], fun i s' rs' hs' hr' => ?_⟩)
  have key : ∀ {s' rs'}, BssP (fun i => lo ≤ i ∧ i < h.size ∧ ¬ Sl.on x i) h s' rs' → BssP (fun i => lo ≤ i ∧ i < h'.size ∧ ¬ Sl.on x' i) h' s' rs' := fun hb =>
    hb.keep (fun i hi hl => k.same i hl hi.2.2) (fun i hi => ⟨hi.1, Nat.lt_of_lt_of_le hi.2.1 k.size, fun ho => by
      rcases on i ho with h' | h'
      · exact hi.2.2 h'
      · omega⟩)
  rw [List.getElem?_append] at hs' hr'
  rw [← h2] at hr'
  split at hs'
  · rename_i hlt
    rw [if_pos hlt] at hr'
    exact key (h3 i s' rs' hs' hr')
  · rename_i hlt
    rw [if_neg hlt] at hr'
    obtain ⟨k', hk'⟩ : ∃ k', k' = i - ss.length := ⟨_, rfl⟩
    rw [← hk'] at hs' hr'
    rcases k' with _ | k'
    · simp at hs' hr'; subst hs'; subst hr'; exact key hs
    · simp at hs'
def uEnd : List (List (List UInt8)) → Nat → Nat
  | [], u => u
  | rs :: css, u => uEnd css (u + (cuts (cbytes rs)).length)
def Tells (D : Dk) (ep slots : Nat) : List (List (List UInt8)) → Nat → Prop
  | [], u => ∃ ps, PartAt D ep slots u ps
  | rs :: css, u => ComAt D ep slots u rs ∧ Tells D ep slots css (u + (cuts (cbytes rs)).length)
section
variable {h : Heap} {F : Fp} {D : Dk} {b o : Nat} {ns : Sl} {L : Lg}
theorem open_j1 {Q : Option Addr × Sl × Sl × Int → Heap → Prop} {css : List (List (List UInt8))} (H : WalAt h F D b o ns L) (he : 1 ≤ L.epoch) (hT : Tells D L.epoch L.slots css L.used)
    (hq : ∀ h' s x, Km (fun i => i = b) h h' → WalAt h' F D b o ns { L with used := uEnd css L.used } → Bys h' s L.note → Css h.size h' x css → Q (some ⟨b, o, none⟩, s, x, 0) h') : (wal_Open_j1 (some ⟨b, o, none⟩)).wp h Q := by
  unfold wal_Open_j1
  have hbl := H.lt
  refine nilP_b (ldI_b (n := (L.epoch : Int)) (by rw [H.cell (by omega)]; rfl) (iteF (by simp; omega) ?_))
  refine M.loop_inv (fun (x : Sl) h' => ∃ (done rest : List (List (List UInt8))) (u : Nat), css = done ++ rest ∧ done.length ≤ u ∧ uEnd css L.used = uEnd rest u ∧ Tells D L.epoch L.slots rest u ∧ WalAt h' F D b o ns { L with used := u } ∧ Css h.size h' x done ∧ Km (fun i => i = b) h h')
    (fun (x : Sl) _ => css.length - x.len) ?_ ?_
  · rintro x h' ⟨done, rest, u, hcss, hdu, hU, hT', W, hC, K⟩ self hself
    have hxl : x.len = done.length := by
      obtain ⟨ss, g, h2, _⟩ := hC
      rw [g.len, h2]
    have hs := K.size
    have hu := W.ok.used
    have hsl := W.ok.slots
    dsimp only at hu hsl
    unfold wal_Open_l1
    cases rest with
    | nil =>
      obtain ⟨ps, hP⟩ := hT'
      refine bind_w (next_part W hP (fun h1 e1 => ?_))
      have W1 := W.ext e1
      refine iteT rfl (nilP_b (ldL_b (n := ns) (by rw [W1.cell (by omega)]; rfl) ?_))
      refine bind_w (clone_own W1.note (by have := W.ok.note; dsimp only at this ⊢; omega) (fun h2 s e2 g2 => ?_))
      have E := e1.trans e2
      rw [List.append_nil] at hcss
      subst hcss
      refine pure_w (hq h2 s x (K.trans (Km.ext E)) ?_ g2.bys (hC.keep E.size (fun i _ hl => E.same i hl)))
      rw [hU]
      exact W.ext E
    | cons rs rest =>
      obtain ⟨hcom, hT2⟩ := hT'
      refine bind_w (next_com W hcom (fun h1 r ss K1 W1 gs hss hlo => ?_))
      refine iteF rfl ?_
      dsimp only at W1
      have hs1 := K1.size
      have hC1 : Css h.size h1 x done := hC.keep hs1 (fun i h1 hl => K1.same i hl (by omega))
      have hxon : ∀ i, Sl.on x i → i < h'.size := by
        obtain ⟨ss, g, _⟩ := hC
        exact fun i hi => (g.gw.lt hi).1
      refine css_push hC1 (by omega) (by omega) (rs := rs) ⟨⟨ss, gs.gw.reads, gs.len, hss, fun t ht i hi => ?_⟩, fun i hi => ?_⟩ (fun h2 x2 K2 hC2 => ?_)
      · have a := hlo t ht i hi
        exact ⟨by omega, (gs.off t ht i hi).2, fun ho => by have := hxon i ho; omega⟩
      · have a := gs.gw.lt hi
        exact ⟨by omega, a.1, fun ho => by have := hxon i ho; omega⟩
      · have hlow : ∀ i, Sl.on x i → h.size ≤ i := by
          obtain ⟨ss, g, _⟩ := hC
          exact fun i hi => (g.gw.lt hi).2
        have hcut : 0 < (cuts (cbytes rs)).length := by rw [wcuts_len]; have := cbytes_pos rs; omega
        have KK : Km (fun i => i = b) h h2 := ⟨Nat.le_trans (K.trans K1).size K2.size, fun i hi hn => by
          rw [K2.same i (by omega) (fun ho => by have := hlow i ho; omega), (K.trans K1).same i hi hn]⟩
        have W2 : WalAt h2 F D b o ns { L with used := u + (cuts (cbytes rs)).length } := by
          obtain ⟨cs, ty, hb1, hb2⟩ := W1.blk
          exact ⟨W1.dk.same (fun i hi => K2.same i (W1.dk.lt hi) (fun ho => by have := hlow i ho; have := H.dk.lt hi; omega)), ⟨cs, ty, K2.blk hb1 (fun ho => by have := hlow _ ho; omega), hb2⟩, H.note.keepN (fun hN i hi hl => KK.same i hl (H.off hN i hi).1), W1.off, W1.nb, W1.ok⟩
        refine hself _ _ ⟨done ++ [rs], rest, u + (cuts (cbytes rs)).length, by rw [hcss, List.append_assoc]; rfl, by simp; omega, hU, hT2, W2, hC2, KK⟩ ?_
        · obtain ⟨ss2, g2, h22, _⟩ := hC2
          have := g2.len
          rw [hxl, hcss, this, h22]
          simp
          omega
  · exact ⟨[], css, L.used, rfl, Nat.zero_le _, rfl, hT, H, Css.nil _ _, Km.refl _ _⟩
end
end Gx
namespace Gx
open Go
set_option linter.unusedVariables false
set_option linter.unusedSimpArgs false
set_option maxRecDepth 20000
def hep : Hd → Nat
  | none => 0
  | some (e, _, _) => e
theorem hc_ep (p : Nat) (o : Hd) (ns : Sl) : (hc p o ns)[3]? = some (.int .i64 (hep o : Int)) := by
  cases o with
  | none => rfl
  | some x => rfl
theorem appL {A B : List Value} {i : Nat} (hA : A.length = 7) (hi : i < 7) : (A ++ B).toArray[i]? = A[i]? := by
  rw [List.getElem?_toArray, List.getElem?_append_left (by omega)]
theorem appR {A B : List Value} {i : Nat} (hA : A.length = 7) : (A ++ B).toArray[7 + i]? = B[i]? := by
  rw [List.getElem?_toArray, List.getElem?_append_right (by omega), hA, show 7 + i - 7 = i by omega]
section
variable {h : Heap} {F : Fp} {D : Dk}
theorem lopen_spec {Q : Option Addr × Sl × Sl × Int → Heap → Prop} {ob : Nat → Hd} {c e k : Nat} {note : List UInt8} {css : List (List (List UInt8))} (H : DkAt h F D) (ha : D.away = false) (hn1 : 1 ≤ D.n) (hnn : D.n ≤ 16384) (h0 : HeadAt D 0 (ob 0)) (h1 : HeadAt D 1 (ob 1))
    (hch : (c = 0 ∧ hep (ob 1) ≤ e) ∨ (c = 1 ∧ hep (ob 0) < e)) (ho : ob c = some (e, k, note)) (hT : Tells D e k css 0)
    (hq : ∀ h' b o ns s x, Ext h h' → h.size ≤ b → WalAt h' F D b o ns ⟨k, note, e, uEnd css 0, true, false⟩ → Bys h' s note → Css h.size h' x css → Q (some ⟨b, o, none⟩, s, x, 0) h') : (wal_Open (some ⟨F.p, 0, none⟩)).wp h Q := by
  unfold wal_Open
  refine bind_w (dsectors_spec H (iteF (by simp; omega) ?_))
  refine bind_w (ddown_spec H ?_)
  rw [ha]
  refine iteF rfl (bind_w (heads_spec (ob := ob) H h0 h1 hnn (fun h2 n0 n1 e2 hn0 hn1' => ?_)))
  have z14 : (#[.pointer none, .int .i64 0, .slice none 0 0, .int .i64 0, .int .i64 0, .bool false, .bool false, .pointer none, .int .i64 0, .slice none 0 0, .int .i64 0, .int .i64 0, .bool false, .bool false] : Array Value) = (hz ++ hz).toArray := rfl
  rw [z14]
  refine mkB_b ?_
  have e3 := Ext.push h2 (.cells (hz ++ hz).toArray ty_2_wal_Log)
  have b3 : (h2.push (.cells (hz ++ hz).toArray ty_2_wal_Log))[h2.size]? = some (.cells (hz ++ hz).toArray ty_2_wal_Log (0, 0)) := get_push_eq
  have s3 : (h2.push (.cells (hz ++ hz).toArray ty_2_wal_Log)).size = h2.size + 1 := by simp
  generalize h2.push (.cells (hz ++ hz).toArray ty_2_wal_Log) = h3 at e3 b3 s3 ⊢
  have hsz : (hc F.p (ob 0) n0 ++ hc F.p (ob 1) n1).toArray.size = 14 := by simp [hc_len]
  have s2 := e2.size
  refine need_b hsz ?_
  refine stR b3 (by rw [hsz]; decide) (fun v hv => ?_) (fun h4 u4 b4 => ?_)
  · rw [List.toList_toArray] at hv
    rcases List.mem_append.1 hv with h | h
    · exact hc_one _ _ _ v h
    · exact hc_one _ _ _ v h
  rw [lay_full (by rw [Array.length_toList, hsz]; rfl), List.toList_toArray] at b4
  have E4 : Ext h h4 := (e2.trans e3).upd u4 s2
  have hN : ∀ {o ns}, HN h.size h2 o ns → HN h.size h4 o ns := fun hh e' k' n' he' => ⟨(hh e' k' n' he').1.keep (fun i hi hl => by rw [u4.ne i (by omega), e3.same i hl]), (hh e' k' n' he').2⟩
  have hHc : HeadAt D c (some (e, k, note)) := by
    rcases hch with ⟨rfl, _⟩ | ⟨rfl, _⟩
    · rw [← ho]; exact h0
    · rw [← ho]; exact h1
  obtain ⟨_, he1, he2, _, hk1, hk2, _, hpl⟩ := hHc
  have hnl : note.length ≤ 112 := by rw [hpay, List.length_append] at hpl; omega
  have hok : Lg.ok ⟨k, note, e, 0, true, false⟩ := ⟨hk2, hnl, he2, Nat.zero_le _⟩
  have d4 := H.ext E4
  have cellR : ∀ i, hcell h4 ((⟨h2.size, 7, none⟩ : Addr).add i) = (hc F.p (ob 1) n1)[i]? := fun i => by
    rw [add_mk, hcell_blk b4, appR (hc_len _ _ _)]
  have cellL : ∀ i, i < 7 → hcell h4 ((⟨h2.size, 0, none⟩ : Addr).add i) = (hc F.p (ob 0) n0)[i]? := fun i hi => by
    rw [add_mk, Nat.zero_add, hcell_blk b4, appL (hc_len _ _ _) hi]
  refine ixA_b (by omega) (by omega) (ixA_b (by omega) (by omega) (nilP_b ?_))
  rw [show (⟨h2.size, 0, none⟩ : Addr).add ((1 : Int).toNat * 7) = ⟨h2.size, 7, none⟩ from rfl, show (⟨h2.size, 0, none⟩ : Addr).add ((0 : Int).toNat * 7) = ⟨h2.size, 0, none⟩ from rfl]
  refine ldI_b (n := (hep (ob 1) : Int)) (by rw [cellR, hc_ep]) (ldI_b (n := (hep (ob 0) : Int)) (by rw [cellL 3 (by omega), hc_ep]) ?_)
  have fin : ∀ (o : Nat) (ns : Sl), WalAt h4 F D h2.size o ns ⟨k, note, e, 0, true, false⟩ → (wal_Open_j1 (some ⟨h2.size, o, none⟩)).wp h4 Q := by
    intro o ns W
    refine open_j1 W he1 hT (fun h5 s x K5 W5 b5 c5 => ?_)
    have s4 := E4.size
    refine hq h5 h2.size o ns s x ⟨Nat.le_trans s4 K5.size, fun i hi => by rw [K5.same i (by omega) (by omega), E4.same i hi]⟩ s2 W5 b5 (c5.weak s4)
  have walat : ∀ (o : Nat) (ns : Sl), (∀ i, i < 7 → (hc F.p (ob 0) n0 ++ hc F.p (ob 1) n1).toArray[o + i]? = (hc F.p (some (e, k, note)) ns)[i]?) → HN h.size h2 (some (e, k, note)) ns → WalAt h4 F D h2.size o ns ⟨k, note, e, 0, true, false⟩ := by
    intro o ns hcs hh
    obtain ⟨bn2, on⟩ := hh e k note rfl
    obtain ⟨bn, _⟩ := hN hh e k note rfl
    refine ⟨d4, ⟨_, _, b4, fun i hi => by rw [hcs i hi, ← List.getElem?_toArray]; rfl⟩, bn, fun hne i hi => ⟨by have := bn2.ltN hne hi; omega, fun hf => by have := H.lt hf; have := on i hi; omega⟩, fun hf => by have := H.lt hf; omega, hok⟩
  rcases hch with ⟨rfl, hle⟩ | ⟨rfl, hlt⟩
  · have h9 : hep (ob 0) = e := by rw [ho]; rfl
    refine iteF (by simp; omega) (fin 0 n0 (walat 0 n0 (fun i hi => ?_) (ho ▸ hn0)))
    rw [Nat.zero_add, appL (hc_len _ _ _) hi, ho]
  · have h9 : hep (ob 1) = e := by rw [ho]; rfl
    refine iteT (by simp; omega) (ixA_b (by omega) (by omega) ?_)
    rw [show (⟨h2.size, 0, none⟩ : Addr).add ((1 : Int).toNat * 7) = ⟨h2.size, 7, none⟩ from rfl]
    refine fin 7 n1 (walat 7 n1 (fun i hi => ?_) (ho ▸ hn1'))
    rw [appR (hc_len _ _ _), ho]
end
end Gx
namespace Gx
open Go
set_option linter.unusedVariables false
set_option linter.unusedSimpArgs false
set_option maxRecDepth 20000
abbrev Vs := Nat → Option (List UInt8)
def Dk.eff (D : Dk) (k : Nat) : Option (List UInt8) := match mlk (k : Int) D.c with
  | some v => some v
  | none => if D.t k then none else some (D.s k)
/-- what a running disk shows -/
structure Vw (D : Dk) (n : Nat) (v : Vs) : Prop where
  away : D.away = false
  fuse : D.fuse = 0
  n : D.n = n
  eff : ∀ j, D.eff j = v j
section
variable {D : Dk} {n : Nat} {v : Vs}
theorem Vw.read (V : Vw D n v) {k : Nat} (hk : k < n) : D.read (k : Int) = match v k with | some x => (x, 0) | none => (zeros, 40) := by
  have h1 := V.eff k
  have h2 := V.n
  unfold Dk.read
  rw [if_neg (by rw [V.away]; simp), if_neg (by omega)]
  rw [← h1]
  unfold Dk.eff
  cases mlk (k : Int) D.c with
  | some x => rfl
  | none =>
    show (if D.t (k : Int).toNat then _ else _) = _
    rw [show (k : Int).toNat = k by omega]
    cases D.t k <;> rfl
theorem Vw.new (n : Nat) : Vw (Dk.new n) n (fun _ => some zeros) := ⟨rfl, rfl, rfl, fun j => rfl⟩
theorem Vw.write (V : Vw D n v) {k : Nat} (hk : k < n) (x : List UInt8) : (D.write (k : Int) x).2 = 0 ∧ Vw (D.write (k : Int) x).1 n (put v k (some x)) := by
  have h2 := V.n
  have hc : D.call = ({ D with calls := IntKind.wrap .i64 (D.calls + 1) }, 0) := by rw [Dk.call, if_neg (by rw [V.fuse]; decide)]
  have e : D.write (k : Int) x = ({ D with calls := IntKind.wrap .i64 (D.calls + 1), c := mput (k : Int) x D.c }, 0) := by
    rw [Dk.write, if_neg (by rw [V.away]; simp), if_neg (by omega), hc]
    rfl
  rw [e]
  refine ⟨rfl, V.away, V.fuse, V.n, fun j => ?_⟩
  have h1 := V.eff j
  unfold Dk.eff at h1 ⊢
  dsimp only
  rw [mlk_put]
  unfold Gx.put
  by_cases hj : j = k
  · subst hj; simp
  · rw [if_neg (by omega), if_neg hj]; exact h1
theorem Vw.flush (V : Vw D n v) : D.flush.2 = 0 ∧ Vw D.flush.1 n v := by
  have hc : D.call = ({ D with calls := IntKind.wrap .i64 (D.calls + 1) }, 0) := by rw [Dk.call, if_neg (by rw [V.fuse]; decide)]
  have e : D.flush = (Dk.kept { D with calls := IntKind.wrap .i64 (D.calls + 1) }, 0) := by
    rw [Dk.flush, if_neg (by rw [V.away]; simp), hc]
    rfl
  rw [e]
  refine ⟨rfl, V.away, V.fuse, V.n, fun j => ?_⟩
  rw [← V.eff j]
  have key : ∀ m : Option (List UInt8), (if (if m.isSome then false else D.t j) = true then none else some (m.getD (D.s j))) = (match m with | some v => some v | none => if D.t j then none else some (D.s j)) := by
    intro m; cases m <;> rfl
  exact key _
theorem Vw.put (V : Vw D n v) {k : Nat} (hk : k < n) {kd nn : Int} {p : List UInt8} (hb : badF kd nn p = false) : (D.put (k : Int) kd nn p).2 = 0 ∧ Vw (D.put (k : Int) kd nn p).1 n (put v k (some (sealed kd nn p))) := by
  have e : D.put (k : Int) kd nn p = D.write (k : Int) (sealed kd nn p) := by rw [Dk.put, hb]; rfl
  rw [e]
  exact V.write hk _
theorem put_at {α : Type} {f : Nat → α} {k : Nat} {x : α} : put f k x k = x := by unfold put; rw [if_pos rfl]
theorem put_ne {α : Type} {f : Nat → α} {k j : Nat} {x : α} (h : j ≠ k) : put f k x j = f j := by unfold put; rw [if_neg h]
/-- what a view shows where nothing of the log ep stands -/
def Old (v : Vs) (ep j : Nat) : Prop := ∀ x, v (2 + j) = some x → openOk x = false ∨ n0 x ≠ atN ep j
/-- no number but an epoch's own -/
def Only (v : Vs) (ep slots : Nat) : Prop := ∀ j, j < slots → ∀ x, v (2 + j) = some x → openOk x = false ∨ n0 x = atN ep j
/-- a commit's frames -/
def ComV (v : Vs) (ep u : Nat) (rs : List (List UInt8)) : Prop :=
  ∀ j (hj : j < (cuts (cbytes rs)).length), v (2 + u + j) = some (sealed (if j + 1 = (cuts (cbytes rs)).length then 3 else 2) (atN ep (u + j)) (cuts (cbytes rs))[j])
def Laid (v : Vs) (ep : Nat) : List (List (List UInt8)) → Nat → Prop
  | [], _ => True
  | rs :: css, u => ComV v ep u rs ∧ Laid v ep css (u + (cuts (cbytes rs)).length)
theorem uEnd_le (css : List (List (List UInt8))) : ∀ u, u ≤ uEnd css u := by
  induction css with
  | nil => intro u; exact Nat.le_refl u
  | cons rs css ih => intro u; have := ih (u + (cuts (cbytes rs)).length); unfold uEnd; omega
theorem uEnd_app (a b : List (List (List UInt8))) : ∀ u, uEnd (a ++ b) u = uEnd b (uEnd a u) := by
  induction a with
  | nil => intro u; rfl
  | cons rs css ih => intro u; exact ih _
theorem Laid.app {v : Vs} {ep : Nat} {b : List (List (List UInt8))} : ∀ {a : List (List (List UInt8))} {u : Nat}, Laid v ep a u → Laid v ep b (uEnd a u) → Laid v ep (a ++ b) u
  | [], _, _, h2 => h2
  | _ :: _, _, h1, h2 => ⟨h1.1, Laid.app h1.2 h2⟩
theorem Laid.same {v v' : Vs} {ep : Nat} : ∀ {a : List (List (List UInt8))} {u : Nat}, Laid v ep a u → (∀ j, u ≤ j → j < uEnd a u → v' (2 + j) = v (2 + j)) → Laid v' ep a u
  | [], _, _, _ => trivial
  | rs :: a, u, h, e => by
    refine ⟨fun j hj => ?_, h.2.same (fun j hj hj2 => e j (by omega) hj2)⟩
    rw [← h.1 j hj, show 2 + u + j = 2 + (u + j) by omega]
    refine e (u + j) (by omega) ?_
    have := uEnd_le a (u + (cuts (cbytes rs)).length)
    show u + j < uEnd a (u + (cuts (cbytes rs)).length)
    omega
theorem tells {slots ep : Nat} (V : Vw D n v) (hn : 2 + slots ≤ n) : ∀ (css : List (List (List UInt8))) (u : Nat), Laid v ep css u → uEnd css u ≤ slots → (uEnd css u < slots → Old v ep (uEnd css u)) → Tells D ep slots css u
  | [], u, _, hle, ho => by
    refine ⟨[], fun j hj => (by cases hj), ?_⟩
    show NoneAt D ep slots u
    rcases Nat.lt_or_ge u slots with hu | hu
    · right
      have h1 := V.read (k := 2 + u) (by omega)
      have h2 : Old v ep u := ho hu
      rw [h1]
      cases hx : v (2 + u) with
      | none => left; simp
      | some x => right; exact h2 x hx
    · exact .inl hu
  | rs :: css, u, hl, hle, ho => by
    have h1 := uEnd_le css (u + (cuts (cbytes rs)).length)
    have hle' : uEnd css (u + (cuts (cbytes rs)).length) ≤ slots := hle
    refine ⟨⟨by omega, fun j hj => ?_⟩, tells V hn css _ hl.2 hle' ho⟩
    rw [V.read (k := 2 + u + j) (by omega), hl.1 j hj]
/-- the frames of a commit are put -/
theorem wputs_vw {ep used tot : Nat} (hu : 2 + used + tot ≤ n) : ∀ (ps : List (List UInt8)) (i : Nat) (D : Dk) (v : Vs), Vw D n v → i + ps.length = tot → (∀ p ∈ ps, p.length ≤ 112) →
    (wputs ep used tot ps i D).2 = 0 ∧ ∃ v', Vw (wputs ep used tot ps i D).1 n v' ∧ (∀ j (hj : j < ps.length), v' (2 + used + (i + j)) = some (sealed (if i + j + 1 = tot then 3 else 2) (atN ep (used + (i + j))) ps[j])) ∧ ∀ j, (j < 2 + used + i ∨ 2 + used + tot ≤ j) → v' j = v j
  | [], i, D, v, V, hi, hp => ⟨rfl, v, V, fun j hj => (by cases hj), fun j _ => rfl⟩
  | p :: ps, i, D, v, V, hi, hp => by
    simp only [List.length_cons] at hi
    have hb : badF (if i + 1 = tot then 3 else 2) ((ep * 65536 + (used + i) : Nat) : Int) p = false := badF_ok (by split <;> omega) (by split <;> omega) (by omega) (hp p (by simp))
    obtain ⟨h1, h2⟩ := V.put (k := 2 + used + i) (by omega) hb
    obtain ⟨h3, v', h4, h5, h6⟩ := wputs_vw hu ps (i + 1) _ _ h2 (by omega) (fun q hq => hp q (by simp [hq]))
    have e : wputs ep used tot (p :: ps) i D = wputs ep used tot ps (i + 1) (D.put ((2 + used + i : Nat) : Int) (if i + 1 = tot then 3 else 2) ((ep * 65536 + (used + i) : Nat) : Int) p).1 := by
      rw [wputs, if_neg (by rw [h1]; simp)]
    rw [e]
    refine ⟨h3, v', h4, fun j hj => ?_, fun j hj => ?_⟩
    · rcases j with _ | j
      · rw [Nat.add_zero, h6 _ (.inl (by omega)), put_at]
        rfl
      · simp only [List.length_cons] at hj
        have := h5 j (by omega)
        rw [show i + 1 + j = i + (j + 1) by omega] at this
        simpa using this
    · rw [h6 j (by omega), put_ne (by omega)]
end
end Gx
namespace Gx
open Go
set_option linter.unusedVariables false
set_option linter.unusedSimpArgs false
set_option maxRecDepth 20000
section
variable {D : Dk} {n : Nat} {v : Vs} {L : Lg}
theorem append_full {rs : List (List UInt8)} (hb : L.broken = false) (hs : L.stale = false) (hf : L.slots - L.used < (cuts (cbytes rs)).length) : L.append D rs = (D, L, 6) := by
  rw [Lg.append, if_neg (by simp [hb]), if_neg (by simp [hs]), if_pos hf]
theorem append_stale {rs : List (List UInt8)} (hb : L.broken = false) (hs : L.stale = true) : L.append D rs = (D, L, 61) := by
  rw [Lg.append, if_neg (by simp [hb]), if_pos hs]
theorem append_vw {rs : List (List UInt8)} (V : Vw D n v) (hb : L.broken = false) (hs : L.stale = false) (hf : ¬ L.slots - L.used < (cuts (cbytes rs)).length) (hu : L.used ≤ L.slots) (hn : 2 + L.slots ≤ n) :
    (L.append D rs).2.2 = 0 ∧ (L.append D rs).2.1 = { L with used := L.used + (cuts (cbytes rs)).length } ∧ ∃ v', Vw (L.append D rs).1 n v' ∧ ComV v' L.epoch L.used rs ∧ ∀ j, (j < 2 + L.used ∨ 2 + L.used + (cuts (cbytes rs)).length ≤ j) → v' j = v j := by
  have hple := cuts_le (cbytes rs)
  obtain ⟨h1, v', h2, h3, h4⟩ := wputs_vw (ep := L.epoch) (used := L.used) (tot := (cuts (cbytes rs)).length) (n := n) (by omega) (cuts (cbytes rs)) 0 D v V (by omega) hple
  obtain ⟨f1, f2⟩ := h2.flush
  have e : L.append D rs = ((wputs L.epoch L.used (cuts (cbytes rs)).length (cuts (cbytes rs)) 0 D).1.flush.1, { L with used := L.used + (cuts (cbytes rs)).length }, 0) := by
    rw [Lg.append, if_neg (by simp [hb]), if_neg (by simp [hs]), if_neg hf]
    dsimp only
    rw [if_neg (by rw [h1]; simp), if_neg (by rw [f1]; simp)]
  rw [e]
  refine ⟨rfl, rfl, v', f2, fun j hj => ?_, fun j hj => h4 j (by omega)⟩
  have := h3 j hj
  simpa using this
theorem head_vw (V : Vw D n v) (hn : 2 ≤ n) {e : Nat} (hp : (hpay L.slots L.note).length ≤ 112) : (D.head L e).2 = 0 ∧ Vw (D.head L e).1 n (put v (e % 2) (some (sealed 1 (e : Int) (hpay L.slots L.note)))) :=
  V.put (by omega) (badF_ok (by omega) (by omega) (by omega) hp)
theorem reset_vw (V : Vw D n v) (hn : 2 ≤ n) (hb : L.broken = false) (he : L.epoch < 1099511627776) (hp : (hpay L.slots L.note).length ≤ 112) :
    (L.reset D).2.2 = 0 ∧ (L.reset D).2.1 = { L with epoch := L.epoch + 1, used := 0, stale := false } ∧ Vw (L.reset D).1 n (put v ((L.epoch + 1) % 2) (some (sealed 1 ((L.epoch + 1 : Nat) : Int) (hpay L.slots L.note)))) := by
  obtain ⟨h1, h2⟩ := head_vw (L := L) V hn (e := L.epoch + 1) hp
  obtain ⟨f1, f2⟩ := h2.flush
  have e : L.reset D = ((D.head L (L.epoch + 1)).1.flush.1, { L with epoch := L.epoch + 1, used := 0, stale := false }, 0) := by
    rw [Lg.reset, if_neg (by simp [hb]), if_neg (by omega)]
    dsimp only
    rw [if_neg (by rw [h1]; simp), if_neg (by rw [f1]; simp)]
  rw [e]
  exact ⟨rfl, rfl, f2⟩
theorem format_vw (V : Vw D n v) (hn : 2 ≤ n) (hp : (hpay L.slots L.note).length ≤ 112) : (D.format L).2 = 0 ∧ Vw (D.format L).1 n (put (put v 0 (some zeros)) 1 (some (sealed 1 1 (hpay L.slots L.note)))) := by
  obtain ⟨w1, w2⟩ := V.write (k := 0) (by omega) zeros
  obtain ⟨h1, h2⟩ := head_vw (L := L) w2 hn (e := 1) hp
  obtain ⟨f1, f2⟩ := h2.flush
  have e : D.format L = ((D.write 0 zeros).1.head L 1).1.flush := by
    rw [Dk.format]
    dsimp only
    rw [if_neg (by have : (D.write 0 zeros).2 = 0 := w1
                   rw [this]; simp), if_neg (by have : ((D.write 0 zeros).1.head L 1).2 = 0 := h1
                                                rw [this]; simp)]
  rw [e]
  exact ⟨f1, f2⟩
end
end Gx
namespace Gx
open Go
set_option linter.unusedVariables false
set_option linter.unusedSimpArgs false
set_option maxRecDepth 20000
theorem wstays_s (i : Nat) : ∀ (K : List Int) (D : Dk), (∀ k ∈ K, 0 ≤ k) → (D.stays K).s i = (if (i : Int) ∈ K then (mlk (i : Int) D.c).getD zeros else D.s i) ∧ (D.stays K).t i = (if (i : Int) ∈ K then false else D.t i)
  | [], D, _ => ⟨rfl, rfl⟩
  | k :: K, D, h => by
    have ih := wstays_s i K (D.stay1 k) (fun x hx => h x (by simp [hx]))
    have e : (D.stays (k :: K)) = (D.stay1 k).stays K := rfl
    rw [e]
    have hk := h k (by simp)
    have hc : (D.stay1 k).c = D.c := rfl
    obtain ⟨h1, h2⟩ := ih
    rw [h1, h2, hc]
    have hs : (D.stay1 k).s i = if i = k.toNat then (mlk k D.c).getD zeros else D.s i := rfl
    have ht : (D.stay1 k).t i = if i = k.toNat then false else D.t i := rfl
    rw [hs, ht]
    by_cases hm : (i : Int) ∈ K
    · simp [hm]
    · by_cases he : i = k.toNat
      · have : k = (i : Int) := by omega
        subst this
        simp [hm]
      · have : ¬ ((i : Int) = k) := by omega
        simp [hm, he, this]
theorem wmlk_of_mem {l : List (Int × List UInt8)} {k : Int} (h : k ∈ l.map Prod.fst) : ∃ v, mlk k l = some v := by
  unfold mlk
  cases hf : l.find? fun p => decide (p.1 = k) with
  | some p => exact ⟨p.2, rfl⟩
  | none =>
    obtain ⟨p, hp, rfl⟩ := List.mem_map.1 h
    have := List.find?_eq_none.1 hf p hp
    simp at this
/-- what stands on a disk, but for what was not flushed -/
def Dk.base (D : Dk) (j : Nat) : Option (List UInt8) := if D.t j then none else some (D.s j)
/-- behind a crash: what stood there, or what was written last, or nothing that can be read -/
theorem decide_eff {D : Dk} {xs : List Int} {torn : Int} {keep : List Bool} (hp : xs.Perm (D.c.map Prod.fst)) (h0 : ∀ p ∈ D.c, 0 ≤ p.1) (j : Nat) :
    (Dk.decide D xs torn keep).eff j = D.base j ∨ ∃ x, mlk (j : Int) D.c = some x ∧ ((Dk.decide D xs torn keep).eff j = some x ∨ (Dk.decide D xs torn keep).eff j = none) := by
  have hK : ∀ k ∈ keptL keep xs 0, k ∈ D.c.map Prod.fst := fun k hk => hp.mem_iff.1 (keptL_sub keep xs 0 k hk)
  have hK0 : ∀ k ∈ keptL keep xs 0, 0 ≤ k := fun k hk => by
    obtain ⟨p, hp', rfl⟩ := List.mem_map.1 (hK k hk)
    exact h0 p hp'
  obtain ⟨hs, ht⟩ := wstays_s j (keptL keep xs 0) D hK0
  have e : (Dk.decide D xs torn keep).eff j = if ((D.stays (keptL keep xs 0)).tear (keptL keep xs 0) torn).t j then none else some (((D.stays (keptL keep xs 0)).tear (keptL keep xs 0) torn).s j) := rfl
  have hts : ((D.stays (keptL keep xs 0)).tear (keptL keep xs 0) torn).s = (D.stays (keptL keep xs 0)).s := by unfold Dk.tear; split <;> rfl
  have htt : ((D.stays (keptL keep xs 0)).tear (keptL keep xs 0) torn).t j = (D.stays (keptL keep xs 0)).t j ∨ (j : Int) ∈ keptL keep xs 0 := by
    unfold Dk.tear
    split
    · rename_i hc
      show Gx.put (D.stays (keptL keep xs 0)).t _ true j = _ ∨ _
      unfold Gx.put
      split
      · rename_i hj
        right
        have hlt : torn.toNat < (keptL keep xs 0).length := by omega
        have hm : (keptL keep xs 0).getD torn.toNat 0 ∈ keptL keep xs 0 := by
          rw [List.getD_eq_getElem?_getD, List.getElem?_eq_getElem hlt]
          exact List.getElem_mem hlt
        have := hK0 _ hm
        rw [hj, Int.toNat_of_nonneg this]
        exact hm
      · exact .inl rfl
    · exact .inl rfl
  rw [e, hts]
  by_cases hm : (j : Int) ∈ keptL keep xs 0
  · right
    obtain ⟨x, hx⟩ := wmlk_of_mem (hK _ hm)
    refine ⟨x, hx, ?_⟩
    rw [hs, if_pos hm, hx]
    by_cases h' : ((D.stays (keptL keep xs 0)).tear (keptL keep xs 0) torn).t j = true
    · rw [if_pos h']; exact .inr rfl
    · rw [if_neg h']; exact .inl rfl
  · left
    rcases htt with h' | h'
    · rw [h', hs, ht, if_neg hm, if_neg hm]; rfl
    · exact absurd h' hm
end Gx
namespace Gx
open Go
set_option linter.unusedVariables false
set_option linter.unusedSimpArgs false
set_option maxRecDepth 20000
/-- a disk: what was flushed (v), what was written since (w) -/
structure St (aw : Bool) (D : Dk) (n : Nat) (v w : Vs) : Prop where
  away : D.away = aw
  fuse : 0 ≤ D.fuse
  n : D.n = n
  base : ∀ j, D.base j = v j
  cache : ∀ j : Nat, mlk (j : Int) D.c = w j
  pos : ∀ p ∈ D.c, 0 ≤ p.1
  fz : aw = true → D.fuse = 0
section
variable {D : Dk} {n : Nat} {v w : Vs}
theorem call_cases (D : Dk) (hf : 0 ≤ D.fuse) : (D.call.2 = 0 ∧ D.call.1.away = D.away ∧ 0 ≤ D.call.1.fuse) ∨ (D.call.2 = 9 ∧ D.call.1.away = true ∧ D.call.1.fuse = 0) := by
  unfold Dk.call
  by_cases h1 : 0 < D.fuse
  · rw [if_pos h1]
    by_cases h2 : D.fuse = 1
    · rw [if_pos h2]; exact .inr ⟨rfl, rfl, rfl⟩
    · rw [if_neg h2]; exact .inl ⟨rfl, rfl, by show 0 ≤ D.fuse - 1; omega⟩
  · rw [if_neg h1]; exact .inl ⟨rfl, rfl, hf⟩
theorem St.write (S : St false D n v w) {k : Nat} (hk : k < n) (x : List UInt8) :
    ((D.write (k : Int) x).2 = 0 ∧ St false (D.write (k : Int) x).1 n v (Gx.put w k (some x))) ∨ ((D.write (k : Int) x).2 = 9 ∧ St true (D.write (k : Int) x).1 n v w) := by
  have h2 := S.n
  obtain ⟨c1, c2, c3, c4⟩ := call_eq D
  have e : D.write (k : Int) x = if D.call.2 ≠ 0 then (D.call.1, D.call.2) else ({ D.call.1 with c := mput (k : Int) x D.c }, 0) := by
    rw [Dk.write, if_neg (by rw [S.away]; simp), if_neg (by omega)]
  have hb : ∀ j, D.call.1.base j = v j := fun j => by rw [← S.base j]; unfold Dk.base; rw [c2, c3]
  rcases call_cases D S.fuse with ⟨h0, ha, hf⟩ | ⟨h0, ha, hf⟩
  · left
    rw [if_neg (by rw [h0]; simp)] at e
    rw [e]
    refine ⟨rfl, ha.trans S.away, hf, c1.trans h2, hb, fun j => ?_, fun p hp => ?_, ?_⟩
    · show mlk (j : Int) (mput (k : Int) x D.c) = _
      rw [mlk_put, S.cache]
      unfold Gx.put
      by_cases hj : j = k
      · subst hj; simp
      · rw [if_neg (by omega), if_neg hj]
    · exact mput_all (P := fun p => 0 ≤ p.1) S.pos (by show (0 : Int) ≤ (k : Int); omega) p hp
    · intro h; cases h
  · right
    rw [if_pos (by rw [h0]; simp)] at e
    rw [e]
    exact ⟨h0, ha, by rw [hf]; decide, c1.trans h2, hb, fun j => by rw [c4]; exact S.cache j, fun p hp => S.pos p (c4 ▸ hp), fun _ => hf⟩
theorem St.flush (S : St false D n v w) :
    (D.flush.2 = 0 ∧ St false D.flush.1 n (fun j => match w j with | some x => some x | none => v j) (fun _ => none)) ∨ (D.flush.2 = 9 ∧ St true D.flush.1 n v w) := by
  have h2 := S.n
  obtain ⟨c1, c2, c3, c4⟩ := call_eq D
  have e : D.flush = if D.call.2 ≠ 0 then (D.call.1, D.call.2) else (D.call.1.kept, 0) := by
    rw [Dk.flush, if_neg (by rw [S.away]; simp)]
  have hb : ∀ j, D.call.1.base j = v j := fun j => by rw [← S.base j]; unfold Dk.base; rw [c2, c3]
  rcases call_cases D S.fuse with ⟨h0, ha, hf⟩ | ⟨h0, ha, hf⟩
  · left
    rw [if_neg (by rw [h0]; simp)] at e
    rw [e]
    refine ⟨rfl, ha.trans S.away, hf, c1.trans h2, fun j => ?_, fun j => rfl, fun p hp => (by cases hp), fun h => (by cases h)⟩
    have h3 : D.call.1.kept.base j = (if (if (mlk (j : Int) D.call.1.c).isSome then false else D.call.1.t j) = true then none else some ((mlk (j : Int) D.call.1.c).getD (D.call.1.s j))) := rfl
    rw [h3, c4, S.cache, ← hb j]
    unfold Dk.base
    cases w j <;> rfl
  · right
    rw [if_pos (by rw [h0]; simp)] at e
    rw [e]
    exact ⟨h0, ha, by rw [hf]; decide, c1.trans h2, hb, fun j => by rw [c4]; exact S.cache j, fun p hp => S.pos p (c4 ▸ hp), fun _ => hf⟩
theorem St.put (S : St false D n v w) {k : Nat} (hk : k < n) {kd nn : Int} {p : List UInt8} (hb : badF kd nn p = false) :
    ((D.put (k : Int) kd nn p).2 = 0 ∧ St false (D.put (k : Int) kd nn p).1 n v (Gx.put w k (some (sealed kd nn p)))) ∨ ((D.put (k : Int) kd nn p).2 = 9 ∧ St true (D.put (k : Int) kd nn p).1 n v w) := by
  have e : D.put (k : Int) kd nn p = D.write (k : Int) (sealed kd nn p) := by rw [Dk.put, hb]; rfl
  rw [e]
  exact S.write hk _
/-- behind a crash -/
theorem St.decide {aw : Bool} (S : St aw D n v w) {xs : List Int} {torn : Int} {keep : List Bool} (hp : xs.Perm (D.c.map Prod.fst)) (j : Nat) :
    (Dk.decide D xs torn keep).eff j = v j ∨ ∃ x, w j = some x ∧ ((Dk.decide D xs torn keep).eff j = some x ∨ (Dk.decide D xs torn keep).eff j = none) := by
  have := decide_eff (torn := torn) (keep := keep) hp S.pos j
  rw [S.base, S.cache] at this
  exact this
end
end Gx
namespace Gx
open Go
set_option linter.unusedVariables false
set_option linter.unusedSimpArgs false
set_option maxRecDepth 20000
section
variable {D : Dk} {n : Nat} {v w : Vs} {L : Lg}
def frame (ep used tot i : Nat) (p : List UInt8) : List UInt8 := sealed (if i + 1 = tot then 3 else 2) (atN ep (used + i)) p
theorem wputs_st {ep used tot : Nat} (hu : 2 + used + tot ≤ n) : ∀ (ps : List (List UInt8)) (i : Nat) (D : Dk) (w : Vs), St false D n v w → i + ps.length = tot → (∀ p ∈ ps, p.length ≤ 112) → (∀ j, 2 + used + i ≤ j → j < 2 + used + tot → w j = none) →
    ((wputs ep used tot ps i D).2 = 0 ∧ ∃ w', St false (wputs ep used tot ps i D).1 n v w' ∧ (∀ j (hj : j < ps.length), w' (2 + used + (i + j)) = some (frame ep used tot (i + j) ps[j])) ∧ ∀ j, (j < 2 + used + i ∨ 2 + used + tot ≤ j) → w' j = w j) ∨
    ((wputs ep used tot ps i D).2 = 9 ∧ ∃ w', St true (wputs ep used tot ps i D).1 n v w' ∧ (∀ j (hj : j < ps.length) x, w' (2 + used + (i + j)) = some x → x = frame ep used tot (i + j) ps[j]) ∧ ∀ j, (j < 2 + used + i ∨ 2 + used + tot ≤ j) → w' j = w j)
  | [], i, D, w, S, hi, hp, hw => .inl ⟨rfl, w, S, fun j hj => (by cases hj), fun j _ => rfl⟩
  | p :: ps, i, D, w, S, hi, hp, hw => by
    simp only [List.length_cons] at hi
    have hb : badF (if i + 1 = tot then 3 else 2) ((ep * 65536 + (used + i) : Nat) : Int) p = false := badF_ok (by split <;> omega) (by split <;> omega) (by omega) (hp p (by simp))
    have e : wputs ep used tot (p :: ps) i D = (if (D.put ((2 + used + i : Nat) : Int) (if i + 1 = tot then 3 else 2) ((ep * 65536 + (used + i) : Nat) : Int) p).2 ≠ 0 then D.put ((2 + used + i : Nat) : Int) (if i + 1 = tot then 3 else 2) ((ep * 65536 + (used + i) : Nat) : Int) p else
        wputs ep used tot ps (i + 1) (D.put ((2 + used + i : Nat) : Int) (if i + 1 = tot then 3 else 2) ((ep * 65536 + (used + i) : Nat) : Int) p).1) := by rw [wputs]
    rcases S.put (k := 2 + used + i) (by omega) hb with ⟨h1, h2⟩ | ⟨h1, h2⟩
    · rw [if_neg (by rw [h1]; simp)] at e
      rw [e]
      rcases wputs_st hu ps (i + 1) _ _ h2 (by omega) (fun q hq => hp q (by simp [hq])) (fun j hj hj2 => by rw [put_ne (by omega)]; exact hw j (by omega) hj2) with ⟨h3, w', h4, h5, h6⟩ | ⟨h3, w', h4, h5, h6⟩
      · refine .inl ⟨h3, w', h4, fun j hj => ?_, fun j hj => by rw [h6 j (by omega), put_ne (by omega)]⟩
        rcases j with _ | j
        · rw [Nat.add_zero, h6 _ (.inl (by omega)), put_at]; rfl
        · simp only [List.length_cons] at hj
          have := h5 j (by omega)
          rw [show i + 1 + j = i + (j + 1) by omega] at this
          simpa using this
      · refine .inr ⟨h3, w', h4, fun j hj x hx => ?_, fun j hj => by rw [h6 j (by omega), put_ne (by omega)]⟩
        rcases j with _ | j
        · rw [Nat.add_zero, h6 _ (.inl (by omega)), put_at] at hx
          cases hx; rfl
        · simp only [List.length_cons] at hj
          rw [show i + (j + 1) = i + 1 + j by omega] at hx ⊢
          simpa using h5 j (by omega) x hx
    · rw [if_pos (by rw [h1]; simp)] at e
      rw [e]
      refine .inr ⟨h1, w, h2, fun j hj x hx => ?_, fun j _ => rfl⟩
      simp only [List.length_cons] at hj
      rw [hw _ (by omega) (by omega)] at hx
      cases hx
/-- what Append does, whatever the fuse -/
theorem append_st {rs : List (List UInt8)} (S : St false D n v (fun _ => none)) (hb : L.broken = false) (hs : L.stale = false) (hu : L.used ≤ L.slots) (hn : 2 + L.slots ≤ n) :
    (L.slots - L.used < (cuts (cbytes rs)).length ∧ L.append D rs = (D, L, 6)) ∨
    (¬ L.slots - L.used < (cuts (cbytes rs)).length ∧ (L.append D rs).2.2 = 0 ∧ (L.append D rs).2.1 = { L with used := L.used + (cuts (cbytes rs)).length } ∧ ∃ v', St false (L.append D rs).1 n v' (fun _ => none) ∧ ComV v' L.epoch L.used rs ∧ ∀ j, (j < 2 + L.used ∨ 2 + L.used + (cuts (cbytes rs)).length ≤ j) → v' j = v j) ∨
    (¬ L.slots - L.used < (cuts (cbytes rs)).length ∧ (L.append D rs).2.2 = 9 ∧ (L.append D rs).2.1 = L.told 9 ∧ ∃ w', St true (L.append D rs).1 n v w' ∧ (∀ j (hj : j < (cuts (cbytes rs)).length) x, w' (2 + L.used + j) = some x → x = frame L.epoch L.used (cuts (cbytes rs)).length j (cuts (cbytes rs))[j]) ∧ ∀ j, (j < 2 + L.used ∨ 2 + L.used + (cuts (cbytes rs)).length ≤ j) → w' j = none) := by
  by_cases hf : L.slots - L.used < (cuts (cbytes rs)).length
  · exact .inl ⟨hf, append_full hb hs hf⟩
  right
  have e : L.append D rs = (if (wputs L.epoch L.used (cuts (cbytes rs)).length (cuts (cbytes rs)) 0 D).2 ≠ 0 then ((wputs L.epoch L.used (cuts (cbytes rs)).length (cuts (cbytes rs)) 0 D).1, L.told (wputs L.epoch L.used (cuts (cbytes rs)).length (cuts (cbytes rs)) 0 D).2, (wputs L.epoch L.used (cuts (cbytes rs)).length (cuts (cbytes rs)) 0 D).2) else
      if (wputs L.epoch L.used (cuts (cbytes rs)).length (cuts (cbytes rs)) 0 D).1.flush.2 ≠ 0 then ((wputs L.epoch L.used (cuts (cbytes rs)).length (cuts (cbytes rs)) 0 D).1.flush.1, L.told (wputs L.epoch L.used (cuts (cbytes rs)).length (cuts (cbytes rs)) 0 D).1.flush.2, (wputs L.epoch L.used (cuts (cbytes rs)).length (cuts (cbytes rs)) 0 D).1.flush.2) else
      ((wputs L.epoch L.used (cuts (cbytes rs)).length (cuts (cbytes rs)) 0 D).1.flush.1, { L with used := L.used + (cuts (cbytes rs)).length }, 0)) := by
    rw [Lg.append, if_neg (by simp [hb]), if_neg (by simp [hs]), if_neg hf]
  have hP := wputs_st (ep := L.epoch) (used := L.used) (tot := (cuts (cbytes rs)).length) (n := n) (v := v) (by omega) (cuts (cbytes rs)) 0 D _ S (by omega) (cuts_le _) (fun _ _ _ => rfl)
  generalize wputs L.epoch L.used (cuts (cbytes rs)).length (cuts (cbytes rs)) 0 D = R at e hP
  rcases hP with ⟨h1, w', h2, h3, h4⟩ | ⟨h1, w', h2, h3, h4⟩
  · rw [if_neg (by rw [h1]; simp)] at e
    rcases h2.flush with ⟨f1, f2⟩ | ⟨f1, f2⟩
    · rw [if_neg (by rw [f1]; simp)] at e
      rw [e]
      refine .inl ⟨hf, rfl, rfl, _, f2, fun j hj => ?_, fun j hj => ?_⟩
      · have := h3 j hj
        rw [Nat.zero_add] at this
        show (match w' (2 + L.used + j) with | some x => some x | none => v (2 + L.used + j)) = _
        rw [this]; rfl
      · have := h4 j (by omega)
        show (match w' j with | some x => some x | none => v j) = _
        rw [this]
    · rw [if_pos (by rw [f1]; simp)] at e
      rw [e, f1]
      refine .inr ⟨hf, rfl, rfl, w', f2, fun j hj x hx => ?_, fun j hj => h4 j (by omega)⟩
      have := h3 j hj
      rw [Nat.zero_add] at this
      rw [this] at hx
      cases hx; rfl
  · rw [if_pos (by rw [h1]; simp)] at e
    rw [e, h1]
    refine .inr ⟨hf, rfl, rfl, w', h2, fun j hj x hx => ?_, fun j hj => h4 j (by omega)⟩
    have := h3 j hj x (by rw [Nat.zero_add]; exact hx)
    rw [Nat.zero_add] at this
    exact this
end
end Gx
namespace Gx
open Go
set_option linter.unusedVariables false
set_option linter.unusedSimpArgs false
set_option maxRecDepth 20000
section
variable {D : Dk} {n : Nat} {v w v' : Vs} {L : Lg}
theorem tellsG {slots ep : Nat} {ps : List (List UInt8)} (V : Vw D n v) (hn : 2 + slots ≤ n) : ∀ (css : List (List (List UInt8))) (u : Nat), Laid v ep css u → uEnd css u ≤ slots → PartAt D ep slots (uEnd css u) ps → Tells D ep slots css u
  | [], u, _, hle, ho => ⟨ps, ho⟩
  | rs :: css, u, hl, hle, ho => by
    have h1 := uEnd_le css (u + (cuts (cbytes rs)).length)
    have hle' : uEnd css (u + (cuts (cbytes rs)).length) ≤ slots := hle
    refine ⟨⟨by omega, fun j hj => ?_⟩, tellsG V hn css _ hl.2 hle' ho⟩
    rw [V.read (k := 2 + u + j) (by omega), hl.1 j hj]
/-- behind a crash at an Append: all of the commits, perhaps with the one that was under way -/
theorem after_append {ep slots : Nat} {css : List (List (List UInt8))} {rs : List (List UInt8)} (V : Vw D n v') (hn : 2 + slots ≤ n) (hL : Laid v ep css 0) (hO : ∀ j, uEnd css 0 ≤ j → j < slots → Old v ep j)
    (hfit : uEnd css 0 + (cuts (cbytes rs)).length ≤ slots) (hc : ∀ j, v' j = v j ∨ ∃ x, w j = some x ∧ (v' j = some x ∨ v' j = none))
    (hw1 : ∀ j (hj : j < (cuts (cbytes rs)).length) x, w (2 + uEnd css 0 + j) = some x → x = frame ep (uEnd css 0) (cuts (cbytes rs)).length j (cuts (cbytes rs))[j])
    (hw0 : ∀ j, (j < 2 + uEnd css 0 ∨ 2 + uEnd css 0 + (cuts (cbytes rs)).length ≤ j) → w j = none) : Tells D ep slots css 0 ∨ Tells D ep slots (css ++ [rs]) 0 := by
  have hout : ∀ j, (j < 2 + uEnd css 0 ∨ 2 + uEnd css 0 + (cuts (cbytes rs)).length ≤ j) → v' j = v j := fun j hj => by
    rcases hc j with h | ⟨x, h, _⟩
    · exact h
    · rw [hw0 j hj] at h; cases h
  have hL' : Laid v' ep css 0 := hL.same (fun j _ hj => hout _ (.inl (by omega)))
  by_cases hall : ∀ j (hj : j < (cuts (cbytes rs)).length), v' (2 + uEnd css 0 + j) = some (frame ep (uEnd css 0) (cuts (cbytes rs)).length j (cuts (cbytes rs))[j])
  · right
    have hU : uEnd (css ++ [rs]) 0 = uEnd css 0 + (cuts (cbytes rs)).length := by rw [uEnd_app]; rfl
    refine tells V hn _ 0 (hL'.app ⟨hall, trivial⟩) (by rw [hU]; exact hfit) (fun hlt => ?_)
    rw [hU] at hlt ⊢
    intro x hx
    rw [hout _ (.inr (by omega))] at hx
    exact hO _ (by omega) hlt x hx
  · left
    -- the first that does not stand
    have hex : ∃ i, ∃ hi : i < (cuts (cbytes rs)).length, v' (2 + uEnd css 0 + i) ≠ some (frame ep (uEnd css 0) (cuts (cbytes rs)).length i (cuts (cbytes rs))[i]) := by
      refine Classical.byContradiction fun hno => hall fun j hj => Classical.byContradiction fun hne => hno ⟨j, hj, hne⟩
    have hmin : ∀ m, (∃ i, i ≤ m ∧ ∃ hi : i < (cuts (cbytes rs)).length, v' (2 + uEnd css 0 + i) ≠ some (frame ep (uEnd css 0) (cuts (cbytes rs)).length i (cuts (cbytes rs))[i])) →
        ∃ i, (∃ hi : i < (cuts (cbytes rs)).length, v' (2 + uEnd css 0 + i) ≠ some (frame ep (uEnd css 0) (cuts (cbytes rs)).length i (cuts (cbytes rs))[i])) ∧ ∀ j (hj : j < (cuts (cbytes rs)).length), j < i → v' (2 + uEnd css 0 + j) = some (frame ep (uEnd css 0) (cuts (cbytes rs)).length j (cuts (cbytes rs))[j]) := by
      intro m
      induction m with
      | zero =>
        rintro ⟨i, h1, h2⟩
        have : i = 0 := by omega
        subst this
        exact ⟨0, h2, fun j _ hj => by omega⟩
      | succ m ih =>
        intro hm
        by_cases h1 : ∃ i, i ≤ m ∧ ∃ hi : i < (cuts (cbytes rs)).length, v' (2 + uEnd css 0 + i) ≠ some (frame ep (uEnd css 0) (cuts (cbytes rs)).length i (cuts (cbytes rs))[i])
        · exact ih h1
        · obtain ⟨i, h2, h3⟩ := hm
          refine ⟨i, h3, fun j hj hji => Classical.byContradiction fun hne => h1 ⟨j, by omega, hj, hne⟩⟩
    obtain ⟨i0, hi0, hne0⟩ := hex
    obtain ⟨i, ⟨hi, hne⟩, hbef⟩ := hmin i0 ⟨i0, Nat.le_refl _, hi0, hne0⟩
    have htl : ((cuts (cbytes rs)).take i).length = i := by rw [List.length_take]; omega
    refine tellsG (ps := (cuts (cbytes rs)).take i) V hn css 0 hL' (by omega) ⟨fun j hj => ?_, ?_⟩
    · rw [htl] at hj
      have hjl : j < (cuts (cbytes rs)).length := by omega
      have hg : ((cuts (cbytes rs)).take i)[j]'(by rw [htl]; exact hj) = (cuts (cbytes rs))[j] := by simp
      refine ⟨by omega, ?_, ?_⟩
      · rw [hg]; exact cuts_le _ _ (List.getElem_mem hjl)
      · rw [V.read (k := 2 + uEnd css 0 + j) (by omega), hbef j hjl hj, hg]
        unfold frame
        rw [if_neg (by omega)]
    · rw [htl]
      right
      have hr := V.read (k := 2 + (uEnd css 0 + i)) (by omega)
      rw [hr]
      rcases hc (2 + uEnd css 0 + i) with h | ⟨x, hx, h | h⟩
      · cases hv : v' (2 + (uEnd css 0 + i)) with
        | none => left; simp
        | some x =>
          right
          rw [show 2 + uEnd css 0 + i = 2 + (uEnd css 0 + i) by omega] at h
          exact hO (uEnd css 0 + i) (by omega) (by omega) x (by rw [← h]; exact hv)
      · exact absurd (by rw [h, hw1 i hi x hx]) hne
      · rw [show 2 + (uEnd css 0 + i) = 2 + uEnd css 0 + i by omega, h]
        left; simp
end
end Gx
namespace Gx
open Go
set_option linter.unusedVariables false
set_option linter.unusedSimpArgs false
set_option maxRecDepth 20000
section
variable {D : Dk} {n : Nat} {v w v' : Vs} {L : Lg}
theorem head_st (S : St false D n v w) (hn : 2 ≤ n) {e : Nat} (hp : (hpay L.slots L.note).length ≤ 112) :
    ((D.head L e).2 = 0 ∧ St false (D.head L e).1 n v (Gx.put w (e % 2) (some (sealed 1 (e : Int) (hpay L.slots L.note))))) ∨ ((D.head L e).2 = 9 ∧ St true (D.head L e).1 n v w) :=
  S.put (by omega) (badF_ok (by omega) (by omega) (by omega) hp)
/-- what Reset does, whatever the fuse -/
theorem reset_st (S : St false D n v (fun _ => none)) (hn : 2 ≤ n) (hb : L.broken = false) (hp : (hpay L.slots L.note).length ≤ 112) :
    (1099511627776 ≤ L.epoch ∧ L.reset D = (D, L, 6)) ∨
    (L.epoch < 1099511627776 ∧ (L.reset D).2.2 = 0 ∧ (L.reset D).2.1 = { L with epoch := L.epoch + 1, used := 0, stale := false } ∧ St false (L.reset D).1 n (Gx.put v ((L.epoch + 1) % 2) (some (sealed 1 ((L.epoch + 1 : Nat) : Int) (hpay L.slots L.note)))) (fun _ => none)) ∨
    (L.epoch < 1099511627776 ∧ (L.reset D).2.2 = 9 ∧ (L.reset D).2.1 = L.told 9 ∧ ∃ w', St true (L.reset D).1 n v w' ∧ (∀ x, w' ((L.epoch + 1) % 2) = some x → x = sealed 1 ((L.epoch + 1 : Nat) : Int) (hpay L.slots L.note)) ∧ ∀ j, j ≠ (L.epoch + 1) % 2 → w' j = none) := by
  by_cases he : 1099511627776 ≤ L.epoch
  · refine .inl ⟨he, ?_⟩
    rw [Lg.reset, if_neg (by simp [hb]), if_pos he]
  right
  have e : L.reset D = (if (D.head L (L.epoch + 1)).2 ≠ 0 then ((D.head L (L.epoch + 1)).1, L.told (D.head L (L.epoch + 1)).2, (D.head L (L.epoch + 1)).2) else
      if (D.head L (L.epoch + 1)).1.flush.2 ≠ 0 then ((D.head L (L.epoch + 1)).1.flush.1, L.told (D.head L (L.epoch + 1)).1.flush.2, (D.head L (L.epoch + 1)).1.flush.2) else
      ((D.head L (L.epoch + 1)).1.flush.1, { L with epoch := L.epoch + 1, used := 0, stale := false }, 0)) := by
    rw [Lg.reset, if_neg (by simp [hb]), if_neg he]
  have hP := head_st (L := L) S hn (e := L.epoch + 1) hp
  generalize D.head L (L.epoch + 1) = R at e hP
  rcases hP with ⟨h1, h2⟩ | ⟨h1, h2⟩
  · rw [if_neg (by rw [h1]; simp)] at e
    rcases h2.flush with ⟨f1, f2⟩ | ⟨f1, f2⟩
    · rw [if_neg (by rw [f1]; simp)] at e
      rw [e]
      refine .inl ⟨by omega, rfl, rfl, f2.away, f2.fuse, f2.n, fun j => ?_, f2.cache, f2.pos, f2.fz⟩
      rw [f2.base j]
      unfold Gx.put
      by_cases hj : j = (L.epoch + 1) % 2
      · simp [hj]
      · simp [hj]
    · rw [if_pos (by rw [f1]; simp)] at e
      rw [e, f1]
      refine .inr ⟨by omega, rfl, rfl, _, f2, fun x hx => ?_, fun j hj => put_ne hj⟩
      rw [put_at] at hx
      cases hx; rfl
  · rw [if_pos (by rw [h1]; simp)] at e
    rw [e, h1]
    exact .inr ⟨by omega, rfl, rfl, _, h2, fun x hx => (by cases hx), fun j hj => rfl⟩
end
end Gx
namespace Gx
open Go
set_option linter.unusedVariables false
set_option linter.unusedSimpArgs false
set_option maxRecDepth 20000
theorem mrk_b {β : Type} {h : Heap} {Q : β → Heap → Prop} {l : List UInt8} {b t n : Nat} {f : Sl → M β} (g1 : h[b]? = some (.cells (bcells l) t (0, 0))) (hn : n = l.length)
    (H : ∀ h2, Upd b h h2 → Bys h2 ⟨some ⟨b, 0, none⟩, n, n⟩ l → (f ⟨some ⟨b, 0, none⟩, n, n⟩).wp h2 Q) : (mrk ⟨some ⟨b, 0, none⟩, n, n⟩ >>= f).wp h Q := by
  have hm : hmrk ⟨some ⟨b, 0, none⟩, n, n⟩ h = h.modify b fun
      | .cells c' t (lo, hi) => .cells c' t (if lo = hi then ((bcells l).size, (bcells l).size + 1) else (min lo (bcells l).size, max hi ((bcells l).size + 1)))
      | o => o := by
    unfold hmrk
    simp only [g1]
    rfl
  refine ⟨_, ⟨rfl, _, _, _, _, rfl, g1⟩, ?_⟩
  have E : Upd b h (hmrk ⟨some ⟨b, 0, none⟩, n, n⟩ h) := ⟨by rw [hm, Array.size_modify], fun i hi => by rw [hm, Array.getElem?_modify, if_neg (fun h => hi h.symm)]⟩
  have G : (hmrk ⟨some ⟨b, 0, none⟩, n, n⟩ h)[b]? = some (.cells (bcells l) t ((bcells l).size, (bcells l).size + 1)) := by
    rw [hm, Array.getElem?_modify, if_pos rfl, g1]
    rfl
  refine H _ E ⟨hn, ?_⟩
  refine .inr ⟨_, rfl, fun j v hj => ?_⟩
  rw [add_mk, Nat.zero_add, hcell_blk G, ← hj]
  simp [bcells, bv]
/-- a slice of two slices of bytes -/
theorem bss2 {h : Heap} {b : Nat} {t : TypeId} {s1 s2 : Sl} {l1 l2 : List UInt8} (hb : h[b]? = some (.cells #[s1.v, s2.v] t (0, 0))) (h1 : Bys h s1 l1) (h2 : Bys h s2 l2) : Bss h ⟨some ⟨b, 0, none⟩, 2, 2⟩ [l1, l2] :=
  ⟨rfl, .inr ⟨_, rfl, fun i l hi => by
    rcases i with _ | _ | i
    · simp at hi; subst hi; exact ⟨s1, by rw [add_mk, hcell_blk hb]; rfl, h1⟩
    · simp at hi; subst hi; exact ⟨s2, by rw [add_mk, hcell_blk hb]; rfl, h2⟩
    · simp at hi⟩⟩
theorem bss1 {h : Heap} {b : Nat} {t : TypeId} {s1 : Sl} {l1 : List UInt8} (hb : h[b]? = some (.cells #[s1.v] t (0, 0))) (h1 : Bys h s1 l1) : Bss h ⟨some ⟨b, 0, none⟩, 1, 1⟩ [l1] :=
  ⟨rfl, .inr ⟨_, rfl, fun i l hi => by
    rcases i with _ | i
    · simp at hi; subst hi; exact ⟨s1, by rw [add_mk, hcell_blk hb]; rfl, h1⟩
    · simp at hi⟩⟩
theorem cb2 : cbytes [[97], [98, 99]] = [2, 1, 97, 2, 98, 99] := by
  simp [cbytes, rbytes, venc_small]
theorem ct2 : cuts (cbytes [[97], [98, 99]]) = [[2, 1, 97, 2, 98, 99]] := by rw [cb2]; rfl
theorem Ext.wk {F : Fp} {b : Nat} {h h' h'' : Heap} (e : Ext h h') (k : Km (wK F b) h' h'') (hF : ∀ i, F.on i → h.size ≤ i) (hb : h.size ≤ b) : Ext h h'' :=
  e.km k (fun i hi => by rcases hi with h1 | rfl; exact hF i h1; exact hb)
theorem open_zerosD : openOk zeros = false := by
  have h : badF (k0 zeros) (n0 zeros) (p0 zeros) = true := by
    have : k0 zeros = 0 := by simp [k0, zeros]
    rw [this]
    unfold badF
    simp
  unfold openOk
  rw [h]
  exact Bool.false_and _
theorem old_zero {ep j : Nat} : Old (fun _ => some zeros) ep j := fun x hx => by
  cases hx
  exact .inl open_zerosD
theorem Css.len {lo : Nat} {h : Heap} {x : Sl} {css : List (List (List UInt8))} (H : Css lo h x css) : x.len = css.length := by
  obtain ⟨ss, h1, h2, _⟩ := H
  rw [h1.len, h2]
theorem Css.get {lo : Nat} {h : Heap} {x : Sl} {css : List (List (List UInt8))} (H : Css lo h x css) {i : Nat} (hi : i < css.length) : ∃ b s, x.base = some ⟨b, 0, none⟩ ∧ hcell h ⟨b, i, none⟩ = some s.v ∧ BssP (fun i => lo ≤ i ∧ i < h.size ∧ ¬ Sl.on x i) h s css[i] := by
  obtain ⟨ss, h1, h2, h3⟩ := H
  obtain ⟨b, hb, hc⟩ := h1.gw.cell (j := i) (v := (ss[i]'(by omega)).v) (by rw [List.getElem?_map, List.getElem?_eq_getElem (by omega)]; rfl)
  exact ⟨b, _, hb, hc, h3 i _ _ (List.getElem?_eq_getElem (by omega)) (List.getElem?_eq_getElem hi)⟩
theorem begun06_spec {h : Heap} {Q : Bool → Heap → Prop} (hq : ∀ h', Ext h h' → Q true h') : ramblelaw06_begun.wp h Q := by
  unfold ramblelaw06_begun
  refine bind_w (dnew_spec (fun hh => by omega) (fun m hm _ _ h1 F e1 H1 hF => ?_))
  have hm12 : m = 12 := by omega
  subst hm12
  refine bdL_bys (l := [5]) e1 rfl rfl (fun h2 _ e2 s2 g2 b2 => ?_)
  have e12 : Ext h1 h2 := by assumption
  have hl5 : (hpay 8 [5]).length ≤ 112 := by simp [hpay, venc_small]
  obtain ⟨f1, f2⟩ := format_vw (L := lg0 8 [5]) (Vw.new 12) (by omega) hl5
  refine bind_w (lformat_spec (k := 8) (note := [5]) (H1.ext e12) (by omega) (by omega) (by decide) (by decide) b2 (by decide) (fun hne => absurd f1 hne) (fun _ h3 b ns k3 hb3 W3 => ?_))
  refine iteF_b rfl (pure_b (iteF_b rfl (pure_b (iteF_b rfl ?_))))
  have E3 : Ext h h3 := e2.kp k3 hF
  have hb : h.size ≤ b := Nat.le_trans e2.size hb3
  refine assoc_b (bdL_bys (l := [97]) (Ext.refl h3) rfl rfl (fun h4 _ e4 s4 g4 b4 => assoc_b (mrk_b g4 rfl (fun h5 u5 b5 => ?_))))
  have E5 : Ext h3 h5 := e4.upd u5 (Nat.le_refl _)
  refine assoc_b (bdL_bys (l := [98, 99]) E5 rfl rfl (fun h6 d6 e6 s6 g6 b6 => assoc_b (mrk_b g6 rfl (fun h7 u7 b7 => ?_))))
  have E57 : Ext h5 h7 := d6.upd u7 (Nat.le_refl _)
  have E7 : Ext h3 h7 := E5.trans E57
  refine assoc_b (bdL_b ?_)
  have e8 := Ext.push h7 (.cells #[(⟨some ⟨h3.size, 0, none⟩, 1, 1⟩ : Sl).v, (⟨some ⟨h5.size, 0, none⟩, 2, 2⟩ : Sl).v] ty_sl_uint8)
  have g8 : (h7.push (.cells #[(⟨some ⟨h3.size, 0, none⟩, 1, 1⟩ : Sl).v, (⟨some ⟨h5.size, 0, none⟩, 2, 2⟩ : Sl).v] ty_sl_uint8))[h7.size]? = some (.cells #[(⟨some ⟨h3.size, 0, none⟩, 1, 1⟩ : Sl).v, (⟨some ⟨h5.size, 0, none⟩, 2, 2⟩ : Sl).v] ty_sl_uint8 (0, 0)) := get_push_eq
  generalize h7.push (.cells #[(⟨some ⟨h3.size, 0, none⟩, 1, 1⟩ : Sl).v, (⟨some ⟨h5.size, 0, none⟩, 2, 2⟩ : Sl).v] ty_sl_uint8) = h8 at e8 g8 ⊢
  have E8 := E7.trans e8
  have hbs := bss2 g8 ((b5.ext E57).ext e8) (b7.ext e8)
  obtain ⟨a1, a2, v2, V2, C2, S2⟩ := append_vw (L := lg0 8 [5]) (rs := [[97], [98, 99]]) f2 rfl rfl (by rw [ct2]; decide) (by decide) (by decide)
  have hcl : (cuts (cbytes [[97], [98, 99]])).length = 1 := by rw [ct2]; rfl
  refine assoc_b (bind_w (lappend_spec (W3.ext E8) hbs (by rw [cb2]; decide) (by decide) (fun h9 k9 W9 => ?_)))
  rw [a1]
  rw [a2] at W9
  generalize (Lg.append (lg0 8 [5]) (Dk.format (Dk.new 12) (lg0 8 [5])).1 [[97], [98, 99]]).1 = D2 at V2 W9
  have E9 : Ext h h9 := (E3.trans E8).wk k9 hF hb
  refine pure_b (iteF rfl ?_)
  have r0 := V2.read (k := 0) (by omega)
  have r1 := V2.read (k := 1) (by omega)
  rw [S2 0 (.inl (by decide))] at r0
  rw [S2 1 (.inl (by decide))] at r1
  have hO : Old v2 1 1 := fun x hx => by
    rw [S2 3 (.inr (by rw [hcl]; decide))] at hx
    cases hx
    exact .inl open_zerosD
  refine bind_w (lopen_spec (ob := fun i => if i = 0 then none else some (1, 8, [5])) (c := 1) (e := 1) (k := 8) (note := [5]) (css := [[[97], [98, 99]]]) W9.dk V2.away (by rw [V2.n]; decide) (by rw [V2.n]; decide) (.inr ?_) ?_ (.inr ⟨rfl, by decide⟩) rfl
    (tells V2 (by decide) _ 0 ⟨C2, trivial⟩ (by show 0 + (cuts (cbytes [[97], [98, 99]])).length ≤ 8; omega) (fun _ => by
      show Old v2 1 (0 + (cuts (cbytes [[97], [98, 99]])).length)
      rw [hcl]; exact hO)) (fun h10 b' o ns' s x e10 hb' W10 bs cx => ?_))
  · show openOk (Dk.read D2 ((0 : Nat) : Int)).1 = false
    rw [r0]
    exact open_zerosD
  · exact ⟨r1, by decide, by decide, rfl, by decide, by decide, by rw [V2.n]; decide, hl5⟩
  have hU : uEnd [[[97], [98, 99]]] 0 = 1 := by show 0 + (cuts (cbytes [[97], [98, 99]])).length = 1; omega
  rw [hU] at W10
  have E10 := E9.trans e10
  refine iteT_b rfl (pure_b (iteT_b rfl ?_))
  refine assoc_b (bdL_bys (l := [5]) (Ext.refl h10) rfl rfl (fun h11 _ e11 s11 g11 b11 => ?_))
  refine assoc_b (bind_w (bytes_eq_spec (bs.ext e11) b11 (pure_b ?_)))
  refine iteT_b rfl (pure_b ?_)
  have cx11 := cx.keep e11.size (fun i _ hl => e11.same i hl)
  have hxl := cx11.len
  rw [hxl]
  obtain ⟨xb, s0, hxb, hxc, hs0⟩ := cx11.get (i := 0) (by decide)
  have hs0 : Bss h11 s0 [[97], [98, 99]] := hs0.bss
  have hix : ∀ {β : Type} {Q : β → Heap → Prop} {f : Sl → M β}, (f s0).wp h11 Q → ((ixL x 0 1 >>= fun a => ldL a >>= f)).wp h11 Q := fun {β Q f} hf => by
    refine ixL_b (by omega) (by rw [hxl]; decide) hxb (ldL_b (n := s0) ?_ hf)
    rw [add_mk]; exact hxc
  refine iteT_b rfl (assoc_b (ixL_b (by omega) (by rw [hxl]; decide) hxb (assoc_b (ldL_b (n := s0) (by rw [add_mk]; exact hxc) (pure_b ?_)))))
  rw [hs0.len]
  obtain ⟨sb, s1, hsb, hsc, hs1⟩ := hs0.get' (i := 1) (by decide)
  have hs1 : Bys h11 s1 [98, 99] := hs1
  refine iteT_b rfl (assoc_b (ixL_b (by omega) (by rw [hxl]; decide) hxb (assoc_b (ldL_b (n := s0) (by rw [add_mk]; exact hxc) (assoc_b (ixL_b (by omega) (by rw [hs0.len]; decide) hsb (assoc_b (ldL_b (n := s1) hsc ?_))))))))
  refine assoc_b (b2s_b (ns := [98, 99]) hs1.len.symm hs1.reads (pure_b ?_))
  have E11 := E10.trans e11
  have W11 := W10.ext e11
  refine iteT_b (by rw [show (⟨#[98, 99]⟩ : ByteArray) = ⟨([98, 99] : List UInt8).toArray⟩ from rfl, sEq_mk]; decide) ?_
  refine assoc_b (bdL_b ?_)
  have e12 := Ext.push h11 (.cells #[(Sl.nil : Sl).v] ty_sl_uint8)
  have g12 : (h11.push (.cells #[(Sl.nil : Sl).v] ty_sl_uint8))[h11.size]? = some (.cells #[(Sl.nil : Sl).v] ty_sl_uint8 (0, 0)) := get_push_eq
  generalize h11.push (.cells #[(Sl.nil : Sl).v] ty_sl_uint8) = h12 at e12 g12 ⊢
  have hst := append_stale (L := ⟨8, [5], 1, 1, true, false⟩) (D := D2) (rs := [[]]) rfl rfl
  have hFb : ∀ {hh h' : Heap}, Ext h hh → Km (wK F b') hh h' → Ext h h' := fun e k => e.wk k hF (Nat.le_trans E9.size hb')
  refine assoc_b (bind_w (lappend_spec (W11.ext e12) (bss1 g12 (Bys.nil _)) (by simp [cbytes, rbytes, venc_small]) (by decide) (fun h13 k13 W13 => ?_)))
  rw [hst] at W13 ⊢
  have E13 := hFb (E11.trans e12) k13
  refine pure_b (iteT_b rfl ?_)
  obtain ⟨q1, q2, q3⟩ := reset_vw (L := ⟨8, [5], 1, 1, true, false⟩) V2 (by decide) rfl (by decide) hl5
  refine assoc_b (bind_w (lreset_spec W13 (fun h14 k14 W14 => ?_)))
  rw [q1]
  rw [q2] at W14
  have E14 := hFb E13 k14
  refine pure_b (iteT_b rfl ?_)
  refine assoc_b (bind_w (lepoch_spec W14 (pure_b (iteT_b rfl ?_))))
  refine assoc_b (bind_w (lused_spec W14 (pure_b (pure_w ?_))))
  exact hq _ E14
end Gx
