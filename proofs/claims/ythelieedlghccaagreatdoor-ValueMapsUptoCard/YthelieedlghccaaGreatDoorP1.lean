/- Own library: a small logic of Lean programs over the model's heap, with the laws that tie Go code to it. No condition. -/
import Derived.Test.YthelieedlghccaaGreatDoorP0
import Derived.Lib.IfaceEq
import Derived.Lib.UnsafeStr
import Derived.Laws.StructEq
import Derived.Laws.Externs
import Derived.Lib.MakeNoZero
import Derived.Recover
set_option linter.unusedVariables false
set_option linter.unusedSimpArgs false
namespace Gx
open Go Gx.Last
def niB (P : Program) (t : TypeId) : Bool:=match P.underlying t with
  | some (.interface _)=>false
  | some _=>true
  | none=>false
section
variable {ro : Option Nat} {P : Program} {ops : Array Oper} {K : Act → World → Prop} {X : Nat → Act → World → Prop} {R : Act → World → Prop} {n : Frm} {a : Act} {w w0 : World} {l : List (Nat × Value)} {rest : List Oper} {S : World → Prop} {ds : List Nat} {fuel : Nat} {b b' : Array Bool} {i : Nat} {E C W : List (List Nat)}
theorem r_mkIface {t : TypeId} {x : Operand} {v : Value} {dst : Option Tmp} {ty : TypeId} {pos : String} {aft : Array Edge} {g : Option (Nat × Bool)} (hE : Env n a l) (hx : opv l x = some v) (ht : niB P t = true) : (execOp a.eval ⟨dst,.makeInterface t x,ty,pos,aft,g⟩).run P w = .ok (.value (.iface t v)) w:=by
  unfold niB at ht
  cases hu : P.underlying t with
  | none=>rw [hu] at ht; cases ht
  | some d =>
    rw [hu] at ht
    cases d <;> first | (cases ht; done) | simp [execOp,Instr.makeInterface,run_underlying hu,hE.opv hx]
theorem r_panic {t : TypeId} {x : Operand} {v : Value} {dst : Option Tmp} {ty : TypeId} {pos : String} {aft : Array Edge} {g : Option (Nat × Bool)} (hE : Env n a l) (hx : opv l x = some (.iface t v)) : (execOp a.eval ⟨dst,.panic x,ty,pos,aft,g⟩).run P w = .halt (.panic (.iface t v)) w:=by
  simp [execOp,Instr.panic,hE.opv hx,goPanic]
theorem t_panic {d : Option Nat} {x : Operand} {ty : TypeId} {pos : String} {aft : Array Edge} {t : TypeId} {v : Value} {m : Nat} (hE : Env ⟨m,[]⟩ a l) (hx : opv l x = some (.iface t v)) (h : X pid { tmps:=#[.iface t v],defers:=[] } w) :
    wpListIn (Fw ro) 1 P ops (Ps K X R) (⟨d,.panic x,ty,pos,aft,none⟩ :: rest) a w:=by
  refine wpListIn_plain rfl fun K' hK=>⟨fun _ _=>trivial,?_⟩
  rw [show (Fw ro).round = ro from rfl,Oper.semAt_eq _ _ _ (fun c hc=>by cases hc),r_panic hE hx,Oper.uponIn_panic]
  exact ⟨_,rfl,by rw [hE.defers]; exact h⟩
theorem t_callX {d : Option Nat} {f : FuncId} {as : Array Operand} {ts : Array TypeId} {ty : TypeId} {pos : String} {aft : Array Edge} {vs : List Value} {ρ β : Type} {enc : ρ → Value} {F : M (Value ⊕ ρ)} {f' : ρ → M (Value ⊕ β)} {Q : Value ⊕ β → Heap → Prop} {m : Nat}
    (hE : Env ⟨m,[]⟩ a l) (hR : Rest w0 w) (hc : Callee? P f) (ha : opvs l as.toList = some vs) (hS : SoundX P f vs.toArray enc F) (H : (thr F f').wp w.heap Q)
    (hp : ∀ v w,Rest w0 w → Q (.inl v) w.heap → X pid { tmps:=#[v],defers:=[] } w)
    (h : ∀ r a' w',a' = a.put d (enc r) → Rest w0 w' → (f' r).wp w'.heap Q → wpListIn (Fw ro) 1 P ops (Ps K X R) rest a' w') :
    wpListIn (Fw ro) 1 P ops (Ps K X R) (⟨d,.call { callee:=.value (.func f),args:=as,argTypes:=ts },ty,pos,aft,none⟩ :: rest) a w:=by
  refine wpListIn_plain rfl fun K' hK=>⟨fun _ _=>trivial,?_⟩
  rw [sem_v (r_call hE hc ha) (fun d h=>by cases h),Oper.uponIn_enter]
  refine ⟨fun _=>Nat.le_refl 1,calls_fw ((hS w _ H).mono ?_)⟩
  rintro e w' ⟨r,he,hq,hr⟩
  cases r with
  | inl v =>
    subst he
    exact ⟨v,rfl,by rw [hE.defers]; exact hp v w' (hR.trans hr) hq⟩
  | inr r =>
    subst he
    exact hK _ _ (h r _ w' rfl (hR.trans hr) hq)
end
end Gx
namespace Gx
open Go Gx.Last
section
variable {P : Program} {w : World}
end
def isNI (v : Value) : M Bool:=.get fun _ b=>(v = .nilIface ∧ b = true) ∨ ((∃ u x,v = .iface u x) ∧ b = false)
def ifB (P : Program) (t : TypeId) : Bool:=match P.underlying t with | some (.interface _)=>true | _=>false
section
variable {P : Program} {w : World}
theorem e_ni {t : TypeId} {v : Value} {b : Bool} (ht : ifB P t = true) (h : (v = .nilIface ∧ b = true) ∨ ((∃ u x,v = .iface u x) ∧ b = false)) (d : Nat) : (Op.equalIn (d + 1) t v .nilIface).run P w = .ok b w:=by
  unfold ifB at ht
  cases hu : P.underlying t with
  | none=>rw [hu] at ht; cases ht
  | some u =>
    rw [hu] at ht
    cases u <;> first | (cases ht; done) | skip
    rcases h with ⟨rfl,rfl⟩ | ⟨⟨f,x,rfl⟩,rfl⟩ <;> simp [Op.equalIn,run_underlying hu]
theorem g_ni {op : BinOp} {t : Nat} {x : Operand} {u c : Value} {b : Bool} (h : (u = .nilIface ∧ b = true) ∨ ((∃ f x,u = .iface f x) ∧ b = false)) : (eqGuard op t x (.const c) u .nilIface).run P w = .ok () w:=by
  rcases h with ⟨rfl,rfl⟩ | ⟨⟨f,x,rfl⟩,rfl⟩ <;> cases op <;> simp [eqGuard]
theorem b_eqlN {t : TypeId} {v : Value} {b : Bool} (ht : ifB P t = true) (h : (v = .nilIface ∧ b = true) ∨ ((∃ u x,v = .iface u x) ∧ b = false)) : (binOp .eql t v .nilIface).run P w = .ok (.bool b) w:=by
  refine bin_eql ?_ (e_ni ht h)
  rcases h with ⟨rfl,rfl⟩ | ⟨⟨f,x,rfl⟩,rfl⟩ <;> rfl
theorem b_neqN {t : TypeId} {v : Value} {b : Bool} (ht : ifB P t = true) (h : (v = .nilIface ∧ b = true) ∨ ((∃ u x,v = .iface u x) ∧ b = false)) : (binOp .neq t v .nilIface).run P w = .ok (.bool !b) w:=by
  refine bin_neq ?_ (e_ni ht h)
  rcases h with ⟨rfl,rfl⟩ | ⟨⟨f,x,rfl⟩,rfl⟩ <;> rfl
end
def eqII (te : TypeId) (x y : Value) : M Bool:=.get fun _ b=>∃ k m n,x = .iface te (.int k m) ∧ y = .iface te (.int k n) ∧ b = (m == n)
def cmB (P : Program) (t : TypeId) : Bool:=(match P.underlying t with | some (.int _)=>true | _=>false) && (match P.info? t with | some i=>i.comparable | none=>false)
def cpSt (d : Sl) (u : ByteArray) : M Int :=
  ⟨fun h Q=>u.size ≤ d.len ∧ (∀ a,d.base = some a → Open h a u.size) ∧ Q (u.size : Int) (hputL h d.base 0 (sbytes u)),
   fun hq ⟨h1,h2,h3⟩=>⟨h1,h2,hq _ _ h3⟩⟩
section
variable {P : Program} {n : Frm} {a : Act} {w : World} {l : List (Nat × Value)} {dst : Option Tmp} {ty : TypeId} {pos : String} {aft : Array Edge} {g : Option (Nat × Bool)}
theorem g_ii {op : BinOp} {t te : Nat} {x y : Operand} {u v : Value} {b : Bool} (h : ∃ k m n,u = .iface te (.int k m) ∧ v = .iface te (.int k n) ∧ b = (m == n)) : (eqGuard op t x y u v).run P w = .ok () w:=by
  obtain ⟨k,m,n,rfl,rfl,_⟩:=h
  cases op <;> simp [eqGuard]
theorem b_eqlI {t te : TypeId} {u v : Value} {b : Bool} (ht : ifB P t = true) (hc : cmB P te = true) (h : ∃ k m n,u = .iface te (.int k m) ∧ v = .iface te (.int k n) ∧ b = (m == n)) : (binOp .eql t u v).run P w = .ok (.bool b) w:=by
  obtain ⟨k,m,n,rfl,rfl,rfl⟩:=h
  unfold ifB at ht
  unfold cmB at hc
  rw [Bool.and_eq_true] at hc
  obtain ⟨h1,h2⟩:=hc
  cases hu : P.underlying t with
  | none=>rw [hu] at ht; cases ht
  | some d =>
    rw [hu] at ht
    cases d <;> first | (cases ht; done) | skip
    cases hv : P.underlying te with
    | none=>rw [hv] at h1; cases h1
    | some e =>
      rw [hv] at h1
      cases e <;> first | (cases h1; done) | skip
      refine Lib.run_eql_iface_int w m n hu ?_ hv
      cases hi : P.info? te with
      | none=>rw [hi] at h2; cases h2
      | some i=>rw [hi] at h2; simpa using h2
theorem cpSt_run {t e su : Nat} {x y : Operand} {d : Sl} {u : ByteArray} {Q : Int → Heap → Prop} (hE : Env n a l) (hx : opv l x = some d.v) (hy : opv l y = some (.string u)) (ht : P.underlying t = some (.slice e)) (hs : szB P e 1 = true) (H : (cpSt d u).wp w.heap Q) :
    ∃ r w1,(execOp a.eval ⟨dst,.call { callee:=.builtin .copy,args:=#[x,y],argTypes:=#[t,su] },ty,pos,aft,g⟩).run P w = .ok (.value (.int .i64 r)) w1 ∧ Rest w w1 ∧ Q r w1.heap:=by
  obtain ⟨h1,h3,h5⟩:=H
  have hlen : (sbytes u).length = u.size:=by unfold sbytes; rw [List.length_map,Array.length_toList]; rfl
  have h4 : ∀ v ∈ sbytes u,one v = true:=by
    intro v hv
    unfold sbytes at hv
    obtain ⟨c,_,rfl⟩:=List.mem_map.1 hv
    rfl
  refine ⟨_,{ w with heap:=hputL w.heap d.base 0 (sbytes u) },?_,⟨rfl,rfl,rfl,Nat.le_refl _⟩,h5⟩
  have hf : (Builtin.firstCells 1 u.size (.string u)).run P w = .ok (sbytes u).toArray w:=by
    have e2 : (sbytes u).toArray = u.data.map fun (b : UInt8)=>Value.int .u8 (b.toNat : Int):=by unfold sbytes; rw [← Array.toList_map,Array.toArray_toList]
    rw [e2]
    simp [Builtin.firstCells]
  have e1 : Nat.min u.size d.len = u.size:=Nat.min_eq_left h1
  cases hb : d.base with
  | none =>
    simp [execOp,resolve,invoke,builtin,hE.opv hx,hE.opv hy,Builtin.copy_,run_underlying ht,Sl.v,Builtin.lenOf,szB_spec hs,hb,goInt,hputL,hf,e1]
  | some b =>
    have hp:=run_storeCells_h (P:=P) (a:=b) (sbytes u) 0 w (fun j hj=>by rw [Nat.zero_add]; exact h3 b hb j (by omega)) h4
    simp [execOp,resolve,invoke,builtin,hE.opv hx,hE.opv hy,Builtin.copy_,run_underlying ht,Sl.v,Builtin.lenOf,szB_spec hs,hb,goInt,hputL,add_zero,hf,hp,e1]
end
def uSD (x : Sl) : M (Option Addr):=.get fun _ r=>(x.base = none ∧ r = none) ∨ (x.cap ≠ 0 ∧ x.base = r)
def uStr (e : TypeId) (p : Option Addr) (n : Int) : M ByteArray :=
  ⟨fun h Q=>(n = 0 ∧ Q .empty h) ∨ ∃ g cells fz,∃ l : List UInt8,p = some ⟨g,0,none⟩ ∧ n = (l.length : Int) ∧ l ≠ [] ∧ l.length ≤ cells.size ∧ l.length ≤ 9223372036854775807 ∧ h[g]? = some (.cells cells e fz) ∧ (∀ (j : Nat) x,l[j]? = some x → cells[j]? = some (.int .u8 (x.toNat : Int))) ∧
      ∀ h' : Heap,h'.size = h.size → (∀ i,i ≠ g → h'[i]? = h[i]?) → Q ⟨l.toArray⟩ h',
   fun hq H=>H.imp (fun ⟨a,b⟩=>⟨a,hq _ _ b⟩) (fun ⟨g,c,f,l,h1,h2,h3,h4,h5,h6,h7,h8⟩=>⟨g,c,f,l,h1,h2,h3,h4,h5,h6,h7,fun h' a b=>hq _ _ (h8 h' a b)⟩)⟩
section
variable {P : Program} {n : Frm} {a : Act} {w : World} {l : List (Nat × Value)} {dst : Option Tmp} {ty : TypeId} {pos : String} {aft : Array Edge} {g : Option (Nat × Bool)}
theorem r_uSD {t : TypeId} {x : Operand} {s : Sl} {r : Option Addr} (hE : Env n a l) (hx : opv l x = some s.v) (h : (s.base = none ∧ r = none) ∨ (s.cap ≠ 0 ∧ s.base = r)) :
    (execOp a.eval ⟨dst,.call { callee:=.builtin .unsafeSliceData,args:=#[x],argTypes:=#[t] },ty,pos,aft,g⟩).run P w = .ok (.value (.pointer r)) w:=by
  obtain ⟨base,len,cap⟩:=s
  have hr : (Builtin.unsafeSliceData_ #[t] ty #[.slice base len cap]).run P w = .ok (.pointer r) w:=by
    rcases h with ⟨h1,rfl⟩ | ⟨h1,h2⟩
    · have h1 : base = none:=h1
      subst h1
      rfl
    · have h2 : base = r:=h2
      subst h2
      have h1 : cap ≠ 0:=h1
      cases base with
      | none=>rfl
      | some b=>exact Lib.run_unsafeSliceData_row _ _ _ _ _ _ h1
  simp [execOp,resolve,invoke,builtin,hE.opv hx,Sl.v,hr]
theorem uStr_run {pt it e : TypeId} {x y : Operand} {p : Option Addr} {m : Int} {Q : ByteArray → Heap → Prop} (hE : Env n a l) (hx : opv l x = some (.pointer p)) (hy : opv l y = some (.int .i64 m)) (hp : P.underlying pt = some (.pointer e)) (hc : P.cellsOf e = 1) (H : (uStr e p m).wp w.heap Q) :
    ∃ r w1,(execOp a.eval ⟨dst,.call { callee:=.builtin .unsafeString,args:=#[x,y],argTypes:=#[pt,it] },ty,pos,aft,g⟩).run P w = .ok (.value (.string r)) w1 ∧ Rest w w1 ∧ Q r w1.heap:=by
  rcases H with ⟨rfl,H⟩ | ⟨b,cells,fz,ls,rfl,rfl,h3,h4,h5,h6,h7,h8⟩
  · refine ⟨.empty,w,?_,Rest.refl w,H⟩
    have hr:=Lib.run_unsafeString_none (P:=P) w pt it ty p
    simp [execOp,resolve,invoke,builtin,hE.opv hx,hE.opv hy,hr]
  · have hr:=Lib.run_unsafeString_row (P:=P) w pt it ty e hp hc b cells.size (by simp [World.shape?,h6]) ls h3 h4 h5 (fun j x hj=>by
      have:=h7 j x hj
      rw [cell_h,show ((⟨b,0,none⟩ : Addr).add j) = ⟨b,0 + j,none⟩ by unfold Addr.add; split <;> simp_all]
      simp only [hcell,h6,Nat.zero_add,this]
      rfl)
    refine ⟨⟨ls.toArray⟩,w.freeze ⟨b,0,none⟩ ls.length,?_,⟨by unfold World.freeze; split <;> rfl,by unfold World.freeze; split <;> rfl,by unfold World.freeze; split <;> rfl,by unfold World.freeze; split <;> exact Nat.le_refl _⟩,h8 _ ?_ ?_⟩
    · simp [execOp,resolve,invoke,builtin,hE.opv hx,hE.opv hy,hr]
    · unfold World.freeze
      split
      · rfl
      · simp
    · intro i hi
      unfold World.freeze
      split
      · rfl
      · simp only [Array.getElem?_modify]
        rw [if_neg (fun h=>hi h.symm)]
end
def mnz (e : TypeId) (n : Int) : M Sl :=
  ⟨fun h Q=>0 ≤ n ∧ n ≤ 281474976710656 ∧ ∀ cs : Array Value,n ≤ cs.size → cs.size ≤ 9223372036854775807 → Q ⟨some ⟨h.size,0,none⟩,n.toNat,cs.size⟩ (h.push (.cells cs e)),
   fun hq ⟨h1,h2,h3⟩=>⟨h1,h2,fun cs a b=>hq _ _ (h3 cs a b)⟩⟩
theorem mnz_run {P : Program} {n : Frm} {a : Act} {w : World} {l : List (Nat × Value)} {dst : Option Tmp} {ty : TypeId} {pos : String} {aft : Array Edge} {g : Option (Nat × Bool)} {f : FuncId} {fn : Func} {ps : Array TypeId} {t e : TypeId} {ts : Array TypeId} {x : Operand} {m : Int} {Q : Sl → Heap → Prop}
    (hE : Env n a l) (hx : opv l x = some (.int .i64 m)) (hf : P.funcs[f]? = some fn) (hname : (fn.name == "runtime.NumGoroutine") = false) (hb : fn.body.isNone = true) (hn : Extern.findNext fn = none) (he : Extern.find fn = some (Extern.BytealgMakeNoZero.makeNoZero ps #[t])) (ht : P.underlying t = some (.slice e)) (H : (mnz e m).wp w.heap Q) :
    ∃ r w1,(execOp a.eval ⟨dst,.call { callee:=.value (.func f),args:=#[x],argTypes:=ts },ty,pos,aft,g⟩).run P w = .ok (.value (Sl.v r)) w1 ∧ Rest w w1 ∧ Q r w1.heap:=by
  obtain ⟨h1,h2,h3⟩:=H
  obtain ⟨k,rfl⟩ : ∃ k : Nat,m = (k : Int):=⟨m.toNat,by omega⟩
  obtain ⟨cs,hrun,hle,hmax⟩:=Lib.run_makeNoZero (P:=P) w ps t e ht k (by omega)
  refine ⟨⟨some ⟨w.heap.size,0,none⟩,k,cs.size⟩,w.drew.drew.alloc (.cells cs e),?_,Rest.draws rfl rfl rfl 2 rfl,?_⟩
  · have hc:=run_callFunc_extern hf hname hb hn he #[.int .i64 (k : Int)] w
    rw [hrun] at hc
    have he:=hE.opv hx
    have he' : (#[x] : Array Operand).map a.eval = #[.int .i64 (k : Int)]:=by simp [he]
    simp [execOp,resolve,Deferred.ofValue,invoke,Act.eval,he,he',hc,Sl.v]
  · have:=h3 cs (by omega) (hmax (by unfold maxLen; omega))
    rw [Int.toNat_natCast] at this
    exact this
def callW (P : Program) {ρ : Type} (enc : ρ → Value) (v : Value) (args : List Value) : M ρ :=
  ⟨fun h Q=>∀ w : World,w.heap = h → ∃ f cap,v = .func (.func f) #[] cap ∧ Callee? P f ∧ Calls P f (args.toArray ++ cap) w (fun e w'=>∃ r,e = .returned (enc r) ∧ Q r w'.heap ∧ Rest w w'),
   fun hq h w hw=>let ⟨f,cap,h1,h2,h3⟩:=h w hw; ⟨f,cap,h1,h2,h3.mono fun _ _ ⟨r,a,b,c⟩=>⟨r,a,hq _ _ b,c⟩⟩⟩
theorem callW_f {P : Program} {ρ : Type} {enc : ρ → Value} {f : FuncId} {cap : Array Value} {args : List Value} {F : M ρ} {h : Heap} {Q : ρ → Heap → Prop} (hc : Callee? P f) (hS : Sound P f (args.toArray ++ cap) enc F) (H : F.wp h Q) :
    (callW P enc (.func (.func f) #[] cap) args).wp h Q:=fun w hw=>⟨f,cap,rfl,hc,hS w Q (hw ▸ H)⟩
section
variable {P : Program} {ops : Array Oper} {K : Act → World → Prop} {X : Nat → Act → World → Prop} {R : Act → World → Prop} {n : Frm} {a : Act} {w w0 : World} {l : List (Nat × Value)} {S : World → Prop} {ds : List Nat} {fuel : Nat} {b b' : Array Bool} {i : Nat} {E C W : List (List Nat)}
theorem d_calllW {o : Oper} {N : Option Nat} {x : Operand} {as : Array Operand} {ts : Array TypeId} {v : Value} {vs : List Value} {ρ : Type} {enc : ρ → Value} {Q : ρ → Heap → Prop} (b' : Array Bool)
    (hi : ops[i]? = some o) (hd : o.dst = N) (hop : o.op = .call { callee:=.value x,args:=as,argTypes:=ts }) (hT : Tab ops E C W) (hc : oneT E b b' i = true) (hds : ds.contains i = true) (hE : Env n a l) (hR : Rest w0 w)
    (hw : Region.wanted o (yielded ops a.tmps) = true) (hx : opv l x = some v) (ha : opvs l as.toList = some vs) (H : (callW P enc v vs).wp w.heap Q)
    (h : ∀ r a' w',a' = a.put N (enc r) → Rest w0 w' → Q r w'.heap → Drawn P ops K X R S ds fuel b' a' w') : Drawn P ops K X R S ds (fuel + 1) b a w:=by
  obtain ⟨f,cap,rfl,hcl,hC⟩:=H w rfl
  refine last_ b' hi hd (hT.one hc) (by simpa using hds) fun KK hK=>?_
  have hrun : (execOp a.eval o).run P w = .ok (.enter f (vs.toArray ++ cap)) w:=by
    have:=r_callV (P:=P) (w:=w) (dst:=o.dst) (ty:=o.type) (pos:=o.pos) (aft:=o.after) (g:=o.guard) (ts:=ts) hE hx hcl ha
    rw [← hop] at this
    exact this
  refine call_ f (vs.toArray ++ cap) hw hd hrun (hC.mono ?_)
  rintro e w' ⟨r,rfl,hq,hr⟩
  exact ⟨_,rfl,hK _ _ (h r _ w' rfl (hR.trans hr) hq)⟩
end
end Gx
namespace Gx
open Go
section b
variable {α β : Type} {h : Heap} {Q : β → Heap → Prop}
theorem bind_w {m : M α} {f : α → M β} (H : m.wp h (fun r h'=>(f r).wp h' Q)) : (m >>= f).wp h Q:=H
theorem pure_w {a : β} (H : Q a h) : (M.pure a : M β).wp h Q:=H
theorem pure_b {a : α} {f : α → M β} (H : (f a).wp h Q) : (M.pure a >>= f).wp h Q:=H
theorem need_b {p : Prop} {f : Unit → M β} (hp : p) (H : (f ()).wp h Q) : (M.need p >>= f).wp h Q:=⟨hp,H⟩
theorem chk_b {p : Heap → Prop} {f : Unit → M β} (hp : p h) (H : (f ()).wp h Q) : (chk p >>= f).wp h Q:=⟨(),hp,H⟩
theorem ite_w {b : Bool} {m n : M β} (ht : b = true → m.wp h Q) (hf : b = false → n.wp h Q) : (M.ite b m n).wp h Q:=by cases b; exact hf rfl; exact ht rfl
theorem ite_b {b : Bool} {m n : M α} {f : α → M β} (ht : b = true → (m >>= f).wp h Q) (hf : b = false → (n >>= f).wp h Q) : (M.ite b m n >>= f).wp h Q:=by cases b; exact hf rfl; exact ht rfl
theorem iteT {b : Bool} {m n : M β} (hb : b = true) (H : m.wp h Q) : (M.ite b m n).wp h Q:=by subst hb; exact H
theorem iteF {b : Bool} {m n : M β} (hb : b = false) (H : n.wp h Q) : (M.ite b m n).wp h Q:=by subst hb; exact H
theorem iteT_b {b : Bool} {m n : M α} {f : α → M β} (hb : b = true) (H : (m >>= f).wp h Q) : (M.ite b m n >>= f).wp h Q:=by subst hb; exact H
theorem iteF_b {b : Bool} {m n : M α} {f : α → M β} (hb : b = false) (H : (n >>= f).wp h Q) : (M.ite b m n >>= f).wp h Q:=by subst hb; exact H
theorem assoc_b {γ : Type} {m : M γ} {g : γ → M α} {f : α → M β} (H : (m >>= fun x=>g x >>= f).wp h Q) : ((m >>= g) >>= f).wp h Q:=H
theorem ldI_b {k : IntKind} {a : Addr} {n : Int} {f : Int → M β} (hc : hcell h a = some (.int k n)) (H : (f n).wp h Q) : (ldI k a >>= f).wp h Q:=⟨n,hc,H⟩
theorem ldB_b {a : Addr} {n : Bool} {f : Bool → M β} (hc : hcell h a = some (.bool n)) (H : (f n).wp h Q) : (ldB a >>= f).wp h Q:=⟨n,hc,H⟩
theorem ldS_b {a : Addr} {n : ByteArray} {f : ByteArray → M β} (hc : hcell h a = some (.string n)) (H : (f n).wp h Q) : (ldS a >>= f).wp h Q:=⟨n,hc,H⟩
theorem ldL_b {a : Addr} {n : Sl} {f : Sl → M β} (hc : hcell h a = some n.v) (H : (f n).wp h Q) : (ldL a >>= f).wp h Q:=⟨n,hc,H⟩
theorem ldG_b {n : Nat} {a : Addr} {cs : Array Value} {f : Array Value → M β} (hs : cs.size = n) (hc : ∀ i,i < n → hcell h (a.add i) = cs[i]?) (H : (f cs).wp h Q) : (ldG n a >>= f).wp h Q:=⟨cs,⟨hs,hc⟩,H⟩
theorem stV_b {a : Addr} {v x : Value} {f : Unit → M β} (hc : hcell h a = some x) (hf : hfrozen h a = false) (h1 : one v = true) (H : (f ()).wp (hset h a v) Q) : (stV a v >>= f).wp h Q:=⟨(),⟨⟨x,hc⟩,hf,h1⟩,H⟩
theorem stG_b {a : Addr} {cs : Array Value} {f : Unit → M β} (hc : ∀ i,i < cs.size → (∃ x,hcell h (a.add i) = some x) ∧ hfrozen h (a.add i) = false) (h1 : ∀ v ∈ cs.toList,one v = true) (H : (f ()).wp (hsetL h a cs.toList 0) Q) : (stG a cs >>= f).wp h Q:=⟨(),⟨hc,h1⟩,H⟩
theorem mkB_b {t : TypeId} {cs : Array Value} {f : Addr → M β} (H : (f ⟨h.size,0,none⟩).wp (h.push (.cells cs t)) Q) : (mkB t cs >>= f).wp h Q:=⟨_,rfl,H⟩
theorem nilP_b {a : Addr} {f : Addr → M β} (H : (f a).wp h Q) : (nilP (some a) >>= f).wp h Q:=⟨a,rfl,H⟩
theorem ixL_b {s : Sl} {i : Int} {sz : Nat} {b : Addr} {f : Addr → M β} (h0 : 0 ≤ i) (h1 : i < s.len) (hb : s.base = some b) (H : (f (b.add (i.toNat * sz))).wp h Q) : (ixL s i sz >>= f).wp h Q:=⟨_,⟨h0,h1,b,hb,rfl⟩,H⟩
theorem ixA_b {b : Addr} {n : Nat} {i : Int} {sz : Nat} {f : Addr → M β} (h0 : 0 ≤ i) (h1 : i < n) (H : (f (b.add (i.toNat * sz))).wp h Q) : (ixA b n i sz >>= f).wp h Q:=⟨_,⟨h0,h1,rfl⟩,H⟩
theorem slL_b {s : Sl} {lo hi : Int} {sz : Nat} {f : Sl → M β} (h0 : 0 ≤ lo) (h1 : lo ≤ hi) (h2 : hi ≤ s.cap) (H : (f ⟨if s.cap = lo.toNat then s.base else s.base.map (·.add (lo.toNat * sz)),hi.toNat - lo.toNat,s.cap - lo.toNat⟩).wp h Q) : (slL s lo hi sz >>= f).wp h Q:=⟨_,⟨h0,h1,h2,rfl⟩,H⟩
theorem slA_b {a : Addr} {n : Nat} {lo hi : Int} {sz : Nat} {f : Sl → M β} (h0 : 0 ≤ lo) (h1 : lo ≤ hi) (h2 : hi ≤ n) (H : (f ⟨some (if n = lo.toNat then a else a.add (lo.toNat * sz)),hi.toNat - lo.toNat,n - lo.toNat⟩).wp h Q) : (slA a n lo hi sz >>= f).wp h Q:=⟨_,⟨h0,h1,h2,rfl⟩,H⟩
theorem bdL_b {e len : Nat} {cells : Array Value} {f : Sl → M β} (H : (f ⟨some ⟨h.size,0,none⟩,len,len⟩).wp (h.push (.cells cells e)) Q) : (bdL e len cells >>= f).wp h Q:=⟨_,rfl,H⟩
theorem b2s_b {s : Sl} {ns : List UInt8} {f : ByteArray → M β} (hl : ns.length = s.len) (hr : Reads h s.base (ns.map fun b=>Value.int .u8 (b.toNat : Int))) (H : (f ⟨ns.toArray⟩).wp h Q) : (b2s s >>= f).wp h Q:=⟨_,⟨ns,hl,hr,rfl⟩,H⟩
end b
theorem add_mk (b o n : Nat) : (⟨b,o,none⟩ : Addr).add n = ⟨b,o + n,none⟩:=by
  cases n with
  | zero=>rfl
  | succ n=>simp [Addr.add]
theorem hcell_blk {h : Heap} {b o : Nat} {cs : Array Value} {t : TypeId} {z : Nat × Nat} (hb : h[b]? = some (.cells cs t z)) : hcell h ⟨b,o,none⟩ = cs[o]?:=by
  simp [hcell,hb]
theorem hfrozen_blk {h : Heap} {b o : Nat} {cs : Array Value} {t : TypeId} (hb : h[b]? = some (.cells cs t (0,0))) : hfrozen h ⟨b,o,none⟩ = false:=by
  simp [hfrozen,hb]
theorem get_push_lt {h : Heap} {o : Obj} {i : Nat} (hi : i < h.size) : (h.push o)[i]? = h[i]?:=by
  rw [Array.getElem?_push]
  rw [if_neg (by omega)]
theorem get_push_eq {h : Heap} {o : Obj} : (h.push o)[h.size]? = some o:=by simp
theorem hset_size {h : Heap} {a : Addr} {v : Value} : (hset h a v).size = h.size:=by simp [hset]
theorem hset_ne {h : Heap} {a : Addr} {v : Value} {i : Nat} (hi : i ≠ a.block) : (hset h a v)[i]? = h[i]?:=by
  simp only [hset,Array.getElem?_modify]
  rw [if_neg (fun e=>hi e.symm)]
theorem hset_at {h : Heap} {b o : Nat} {v : Value} {cs : Array Value} {t : TypeId} {z : Nat × Nat} (hb : h[b]? = some (.cells cs t z)) : (hset h ⟨b,o,none⟩ v)[b]? = some (.cells (cs.setIfInBounds o v) t z):=by
  simp only [hset,Array.getElem?_modify,if_true,hb,Option.map_some]
  rfl
theorem hsetL_size {a : Addr} : ∀ (vs : List Value) (h : Heap) (i : Nat),(hsetL h a vs i).size = h.size
  | [],_,_=>rfl
  | v :: r,h,i=>by simp only [hsetL]; rw [hsetL_size r,hset_size]
theorem add_block (a : Addr) (n : Nat) : (a.add n).block = a.block:=by
  cases n <;> rfl
theorem hsetL_ne {a : Addr} {j : Nat} (hj : j ≠ a.block) : ∀ (vs : List Value) (h : Heap) (i : Nat),(hsetL h a vs i)[j]? = h[j]?
  | [],_,_=>rfl
  | v :: r,h,i=>by simp only [hsetL]; rw [hsetL_ne hj r,hset_ne (by rw [add_block]; exact hj)]
def lay (cs : Array Value) (o : Nat) : List Value → Array Value
  | []=>cs
  | v :: r=>lay (cs.setIfInBounds o v) (o + 1) r
theorem hsetL_at {b o : Nat} {t : TypeId} {z : Nat × Nat} : ∀ (vs : List Value) (h : Heap) (i : Nat) (cs : Array Value),h[b]? = some (.cells cs t z) → (hsetL h ⟨b,o,none⟩ vs i)[b]? = some (.cells (lay cs (o + i) vs) t z)
  | [],h,i,cs,hb=>hb
  | v :: r,h,i,cs,hb=>by
    simp only [hsetL,lay]
    rw [add_mk]
    exact hsetL_at r _ (i + 1) _ (hset_at hb)
theorem lay_size : ∀ (vs : List Value) (cs : Array Value) (o : Nat),(lay cs o vs).size = cs.size
  | [],_,_=>rfl
  | v :: r,cs,o=>by simp only [lay]; rw [lay_size r]; simp
theorem lay_toList : ∀ (vs : List Value) (cs : Array Value) (o : Nat),o + vs.length ≤ cs.size → (lay cs o vs).toList = cs.toList.take o ++ vs ++ cs.toList.drop (o + vs.length)
  | [],cs,o,_=>by simp [lay]
  | v :: r,cs,o,h=>by
    simp only [List.length_cons] at h
    simp only [lay]
    rw [lay_toList r _ _ (by simp; omega)]
    simp only [Array.toList_setIfInBounds,List.length_cons]
    have h1 : (cs.toList.set o v).take (o + 1) = cs.toList.take o ++ [v]:=by
      rw [List.take_succ_eq_append_getElem (by simp; omega),List.take_set_of_le (Nat.le_refl _)]
      simp
    rw [h1,List.drop_set_of_lt (by omega)]
    simp [Nat.add_assoc,Nat.add_comm 1]

structure Ext (h h' : Heap) : Prop where
  size : h.size ≤ h'.size
  same : ∀ i,i < h.size → h'[i]? = h[i]?
theorem Ext.refl (h : Heap) : Ext h h:=⟨Nat.le_refl _,fun _ _=>rfl⟩
theorem Ext.trans {h h' h'' : Heap} (a : Ext h h') (b : Ext h' h'') : Ext h h'':=⟨Nat.le_trans a.size b.size,fun i hi=>(b.same i (Nat.lt_of_lt_of_le hi a.size)).trans (a.same i hi)⟩
theorem Ext.push (h : Heap) (o : Obj) : Ext h (h.push o):=⟨by simp,fun i hi=>get_push_lt hi⟩
theorem Ext.pushed {h h' : Heap} (a : Ext h h') (o : Obj) : Ext h (h'.push o):=a.trans (Ext.push _ _)
theorem Ext.hset {h h' : Heap} (a : Ext h h') {p : Addr} {v : Value} (hp : h.size ≤ p.block) : Ext h (hset h' p v) :=
  ⟨by rw [hset_size]; exact a.size,fun i hi=>by rw [hset_ne (by omega)]; exact a.same i hi⟩
theorem Ext.hsetL {h h' : Heap} (a : Ext h h') {p : Addr} {vs : List Value} {j : Nat} (hp : h.size ≤ p.block) : Ext h (hsetL h' p vs j) :=
  ⟨by rw [hsetL_size]; exact a.size,fun i hi=>by rw [hsetL_ne (by omega)]; exact a.same i hi⟩
theorem Ext.cell {h h' : Heap} (a : Ext h h') {p : Addr} {v : Value} (hc : hcell h p = some v) : hcell h' p = some v:=by
  have hlt : p.block < h.size:=by
    rcases Nat.lt_or_ge p.block h.size with h1 | h1
    · exact h1
    · simp [hcell,Array.getElem?_eq_none h1] at hc
  simp only [hcell,a.same _ hlt] at hc ⊢
  exact hc
theorem Ext.blk {h h' : Heap} (a : Ext h h') {b : Nat} {o : Obj} (hb : h[b]? = some o) : h'[b]? = some o:=by
  have hlt : b < h.size:=by
    rcases Nat.lt_or_ge b h.size with h1 | h1
    · exact h1
    · rw [Array.getElem?_eq_none h1] at hb; cases hb
  rw [a.same _ hlt]; exact hb
theorem Ext.reads {h h' : Heap} (a : Ext h h') {b : Option Addr} {cs : List Value} (hr : Reads h b cs) : Reads h' b cs:=by
  rcases hr with h1 | ⟨p,hp,hc⟩
  · exact .inl h1
  · exact .inr ⟨p,hp,fun j v hj=>a.cell (hc j v hj)⟩
theorem blk_lt {h : Heap} {b : Nat} {o : Obj} (hb : h[b]? = some o) : b < h.size:=by
  rcases Nat.lt_or_ge b h.size with h1 | h1
  · exact h1
  · rw [Array.getElem?_eq_none h1] at hb; cases hb

def bv (b : UInt8) : Value:=.int .u8 (b.toNat : Int)
def bcells (l : List UInt8) : Array Value:=(l.map bv).toArray
theorem bcells_get (l : List UInt8) (i : Nat) : (bcells l)[i]? = (l[i]?).map bv:=by simp [bcells]
theorem one_bv (b : UInt8) : one (bv b) = true:=rfl
theorem bcells_set (l : List UInt8) (i : Nat) (b : UInt8) : (bcells l).setIfInBounds i (bv b) = bcells (l.set i b):=by
  apply Array.ext'
  simp [bcells,List.map_set]
structure Bys (h : Heap) (s : Sl) (l : List UInt8) : Prop where
  len : s.len = l.length
  at_ : Reads h s.base (l.map bv)
theorem Bys.ext {h h' : Heap} {s : Sl} {l : List UInt8} (hb : Bys h s l) (he : Ext h h') : Bys h' s l:=⟨hb.len,he.reads hb.at_⟩
theorem Bys.get {h : Heap} {s : Sl} {l : List UInt8} (hb : Bys h s l) {i : Nat} (hi : i < l.length) : ∃ a,s.base = some a ∧ hcell h (a.add i) = some (bv l[i]):=by
  rcases hb.at_ with h1 | ⟨a,ha,hc⟩
  · simp at h1; subst h1; simp at hi
  · exact ⟨a,ha,hc i _ (by simp [List.getElem?_eq_getElem hi])⟩
theorem Bys.nil (h : Heap) : Bys h Sl.nil []:=⟨rfl,.inl rfl⟩
def u8 (n : Int) : UInt8:=UInt8.ofNat (n % 256).toNat
theorem u8_toNat (n : Int) : ((u8 n).toNat : Int) = n % 256:=by
  simp [u8,UInt8.toNat_ofNat']
  omega
end Gx
namespace Gx
open Go
set_option linter.unusedVariables false
set_option linter.unusedSimpArgs false
theorem w64 {n : Int} (h0 : -9223372036854775808 ≤ n) (h1 : n ≤ 9223372036854775807) : IntKind.wrap .i64 n = n:=by
  rw [IntKind.wrap_i64]; omega
theorem take_snoc {l : List UInt8} {j : Nat} (h : j < l.length) : l.take (j + 1) = l.take j ++ [l[j]]:=by
  rw [List.take_succ_eq_append_getElem h]
structure Upd (b : Nat) (h h' : Heap) : Prop where
  size : h'.size = h.size
  ne : ∀ i,i ≠ b → h'[i]? = h[i]?
theorem Upd.refl (b : Nat) (h : Heap) : Upd b h h:=⟨rfl,fun _ _=>rfl⟩
theorem Upd.trans {b : Nat} {h h' h'' : Heap} (a : Upd b h h') (c : Upd b h' h'') : Upd b h h'':=⟨c.size.trans a.size,fun i hi=>(c.ne i hi).trans (a.ne i hi)⟩
theorem Upd.hset (h : Heap) (b o : Nat) (v : Value) : Upd b h (hset h ⟨b,o,none⟩ v):=⟨hset_size,fun i hi=>hset_ne hi⟩
theorem Upd.hsetL (h : Heap) (b o : Nat) (vs : List Value) (j : Nat) : Upd b h (hsetL h ⟨b,o,none⟩ vs j):=⟨hsetL_size _ _ _,fun i hi=>hsetL_ne hi _ _ _⟩
theorem Ext.upd {h h' h'' : Heap} {b : Nat} (e : Ext h h') (u : Upd b h' h'') (hb : h.size ≤ b) : Ext h h'':=⟨by rw [u.size]; exact e.size,fun i hi=>by rw [u.ne i (by omega)]; exact e.same i hi⟩

def BB (h : Heap) (b : Nat) (t : TypeId) (l : List UInt8) : Prop:=h[b]? = some (.cells (bcells l) t (0,0))
theorem BB.cell {h : Heap} {b : Nat} {t : TypeId} {l : List UInt8} (hb : BB h b t l) {i : Nat} (hi : i < l.length) : hcell h ⟨b,i,none⟩ = some (bv l[i]):=by
  rw [hcell_blk hb,bcells_get,List.getElem?_eq_getElem hi]; rfl
theorem BB.frozen {h : Heap} {b : Nat} {t : TypeId} {l : List UInt8} (hb : BB h b t l) (i : Nat) : hfrozen h ⟨b,i,none⟩ = false:=hfrozen_blk hb
theorem BB.set {h : Heap} {b : Nat} {t : TypeId} {l : List UInt8} (hb : BB h b t l) (i : Nat) (x : UInt8) : BB (hset h ⟨b,i,none⟩ (bv x)) b t (l.set i x):=by
  unfold BB
  rw [hset_at hb,bcells_set]
theorem BB.upd {h h' : Heap} {b c : Nat} {t : TypeId} {l : List UInt8} (hb : BB h b t l) (u : Upd c h h') (hne : b ≠ c) : BB h' b t l:=by
  unfold BB
  rw [u.ne b hne]; exact hb
theorem BB.bys {h : Heap} {b : Nat} {t : TypeId} {l : List UInt8} (hb : BB h b t l) (o n cap : Nat) (hl : o + n ≤ l.length) : Bys h ⟨some ⟨b,o,none⟩,n,cap⟩ ((l.drop o).take n):=by
  refine ⟨by simp; omega,.inr ⟨_,rfl,fun j v hj=>?_⟩⟩
  rw [add_mk]
  have hlt : j < ((l.drop o).take n).length:=by
    rcases Nat.lt_or_ge j ((l.drop o).take n).length with h' | h'
    · exact h'
    · rw [List.getElem?_eq_none (by simpa using h')] at hj; cases hj
  have hlt' : j < n ∧ o + j < l.length:=by simp at hlt; omega
  rw [hb.cell hlt'.2]
  rw [List.getElem?_map,List.getElem?_eq_getElem hlt] at hj
  simp at hj
  rw [← hj]
theorem w64n {n : Nat} (h : n ≤ 9223372036854775807) : IntKind.wrap .i64 (n : Int) = (n : Int):=w64 (by omega) (by omega)
theorem list_set_mid {α : Type} {a b : List α} {x y : α} {o : Nat} (h : a.length = o) : (a ++ x :: b).set o y = a ++ y :: b:=by
  subst h; simp
theorem zip_lay (c : List Value) : ∀ (cs : Array Value) (off k : Nat),(c.zipIdx k).foldl (fun cs (x : Value × Nat)=>cs.setIfInBounds (off + x.2) x.1) cs = lay cs (off + k) c:=by
  induction c with
  | nil=>intro cs off k; rfl
  | cons v r ih =>
    intro cs off k
    rw [List.zipIdx_cons,List.foldl_cons,ih]
    rfl
theorem fill_cons {place : Nat → Option (Nat × Nat)} {cells : Array Value} {i off size : Nat} {v : Value} {rest : List (Nat × Value)} (hp : place i = some (off,size)) (hs : v.cells.size = size) (hl : off + size ≤ cells.size) :
    Instr.fill place cells ((i,v) :: rest) = Instr.fill place (lay cells off v.cells.toList) rest:=by
  conv=>lhs; unfold Instr.fill
  simp only [hp]
  rw [if_neg (by rw [hs]; simp; omega)]
  congr 1
  rw [← Array.foldl_toList,Array.toList_zipIdx]
  exact zip_lay _ _ _ 0
theorem lay_full {cs : Array Value} {vs : List Value} (h : vs.length = cs.size) : lay cs 0 vs = vs.toArray:=by
  apply Array.ext'
  rw [lay_toList _ _ _ (by omega)]
  simp [h]
theorem fillL1_b {β : Type} {h : Heap} {Q : β → Heap → Prop} {sz : Nat} {z c : Array Value} {f : Array Value → M β} (hc : c.size = sz) (H : (f c).wp h Q) : (fillL sz 1 z [(0,.agg c)] >>= f).wp h Q:=by
  refine ⟨c,?_,H⟩
  have hz : (zRow z (1 * sz)).size = sz:=by simp [zRow]
  show Instr.fill (fun i=>some (i * sz,sz)) (zRow z (1 * sz)) [(0,Value.agg c)] = some c
  rw [fill_cons (off:=0) (size:=sz) (v:=Value.agg c) (by simp) hc (by omega)]
  show some _ = some c
  rw [show (Value.agg c).cells = c from rfl,lay_full (by rw [Array.length_toList]; omega)]
structure Row (lo : Nat) (h : Heap) (r : Sl) (sz b : Nat) (ty : TypeId) (cells : Array Value) (vs : List Value) : Prop where
  base : r.base = some ⟨b,0,none⟩
  lo : lo ≤ b
  blk : h[b]? = some (.cells cells ty (0,0))
  size : cells.size = r.cap * sz
  cap : r.len ≤ r.cap
  len : vs.length = r.len * sz
  get : ∀ (j : Nat) v,vs[j]? = some v → cells[j]? = some v
def Gw (lo : Nat) (h : Heap) (r : Sl) (sz : Nat) (vs : List Value) : Prop:=(r = Sl.nil ∧ vs = []) ∨ ∃ b ty cells,Row lo h r sz b ty cells vs
theorem Gw.nil (lo : Nat) (h : Heap) (sz : Nat) : Gw lo h Sl.nil sz []:=.inl ⟨rfl,rfl⟩
def Sl.on (r : Sl) (i : Nat) : Prop:=∃ a,r.base = some a ∧ a.block = i
theorem Gw.same {lo : Nat} {h h' : Heap} {r : Sl} {sz : Nat} {vs : List Value} (H : Gw lo h r sz vs) (e : ∀ i,Sl.on r i → h'[i]? = h[i]?) : Gw lo h' r sz vs:=by
  rcases H with H | ⟨b,ty,cells,H⟩
  · exact .inl H
  · exact .inr ⟨b,ty,cells,H.base,H.lo,(e b ⟨_,H.base,rfl⟩).trans H.blk,H.size,H.cap,H.len,H.get⟩
theorem Gw.lt {lo : Nat} {h : Heap} {r : Sl} {sz : Nat} {vs : List Value} (H : Gw lo h r sz vs) {i : Nat} (hi : Sl.on r i) : i < h.size ∧ lo ≤ i:=by
  obtain ⟨a,ha,rfl⟩:=hi
  rcases H with ⟨rfl,_⟩ | ⟨b,ty,cells,H⟩
  · cases ha
  · rw [H.base] at ha
    cases ha
    exact ⟨blk_lt H.blk,H.lo⟩
theorem Gw.reads {lo : Nat} {h : Heap} {r : Sl} {sz : Nat} {vs : List Value} (H : Gw lo h r sz vs) : Reads h r.base vs:=by
  rcases H with ⟨_,rfl⟩ | ⟨b,ty,cells,H⟩
  · exact .inl rfl
  · refine .inr ⟨_,H.base,fun j v hj=>?_⟩
    rw [add_mk,Nat.zero_add,hcell_blk H.blk]
    exact H.get j v hj
theorem Gw.cell {lo : Nat} {h : Heap} {r : Sl} {sz : Nat} {vs : List Value} (H : Gw lo h r sz vs) {j : Nat} {v : Value} (hj : vs[j]? = some v) : ∃ b,r.base = some ⟨b,0,none⟩ ∧ hcell h ⟨b,j,none⟩ = some v:=by
  rcases H with ⟨_,rfl⟩ | ⟨b,ty,cells,H⟩
  · cases hj
  · exact ⟨b,H.base,by rw [hcell_blk H.blk]; exact H.get j v hj⟩
theorem Gw.len {lo : Nat} {h : Heap} {r : Sl} {sz : Nat} {vs : List Value} (H : Gw lo h r sz vs) : vs.length = r.len * sz:=by
  rcases H with ⟨rfl,rfl⟩ | ⟨b,ty,cells,H⟩
  · simp [Sl.nil]
  · exact H.len
theorem zRow_size (z : Array Value) (n : Nat) : (zRow z n).size = n:=by simp [zRow]
theorem ap_grow {lo : Nat} {h : Heap} {Q : Sl → Heap → Prop} {e sz bytes : Nat} {z : Array Value} {r x : Sl} {vs news : List Value} (hz : z.size = sz) (H : Gw lo h r sz vs) (hn : news.length = x.len * sz) (hr : Reads h x.base news) (h1 : ∀ v ∈ news,one v = true)
    (hb : (r.len + x.len) * bytes ≤ 140737488355328) (hm : r.len + x.len ≤ 9223372036854775807) (hlo : lo ≤ h.size)
    (hq : ∀ h' r',Gw lo h' r' sz (vs ++ news) → r'.len = r.len + x.len → h.size ≤ h'.size → (∀ i,i < h.size → ¬ Sl.on r i → h'[i]? = h[i]?) → (∀ i,Sl.on r' i → Sl.on r i ∨ h.size ≤ i) → Q r' h') : (apL e sz bytes z r x).wp h Q:=by
  refine ⟨news,hn,hr,?_⟩
  unfold apGo
  split
  · rename_i hc
    rcases H with ⟨rfl,rfl⟩ | ⟨b,ty,cells,H⟩
    · have h0 : x.len = 0:=by simp [Sl.nil] at hc; exact hc
      have : news = []:=List.length_eq_zero_iff.1 (by rw [hn,h0]; simp)
      subst this
      refine ⟨fun a ha=>(by cases ha),by simp,?_⟩
      rw [h0]
      exact hq h _ (.inl ⟨rfl,rfl⟩) (by rw [h0]) (Nat.le_refl _) (fun i _ _=>rfl) (fun i hi=>.inl hi)
    · have hsz : r.len * sz + news.length ≤ cells.size:=by
        rw [hn,H.size,← Nat.add_mul]
        exact Nat.mul_le_mul_right _ hc
      have hblk : (hputL h r.base (r.len * sz) news)[b]? = some (.cells (lay cells (r.len * sz) news) ty (0,0)):=by
        rw [H.base]
        show (hsetL h ((⟨b,0,none⟩ : Addr).add (r.len * sz)) news 0)[b]? = _
        rw [add_mk,Nat.zero_add,hsetL_at _ _ _ _ H.blk,Nat.add_zero]
      have hne : ∀ i,i ≠ b → (hputL h r.base (r.len * sz) news)[i]? = h[i]?:=fun i hi=>by
        rw [H.base]
        show (hsetL h ((⟨b,0,none⟩ : Addr).add (r.len * sz)) news 0)[i]? = _
        rw [add_mk,hsetL_ne hi]
      have hsize : (hputL h r.base (r.len * sz) news).size = h.size:=by
        rw [H.base]
        exact hsetL_size _ _ _
      refine ⟨fun a ha j hj=>?_,h1,hq _ _ (.inr ⟨b,ty,_,H.base,H.lo,hblk,?_,hc,?_,fun j v hj=>?_⟩) rfl (by rw [hsize]; exact Nat.le_refl _) (fun i hi hno=>hne i (fun e=>hno ⟨_,H.base,e.symm⟩)) (fun i hi=>.inl hi)⟩
      · rw [H.base] at ha; cases ha
        rw [add_mk,add_mk,Nat.zero_add,hcell_blk H.blk,hfrozen_blk H.blk]
        exact ⟨⟨_,Array.getElem?_eq_getElem (by omega)⟩,rfl⟩
      · rw [lay_size]; exact H.size
      · rw [List.length_append,H.len,hn,Nat.add_mul]
      · rw [← Array.getElem?_toList,lay_toList _ _ _ hsz]
        have hlen : (cells.toList.take (r.len * sz)).length = r.len * sz:=by rw [List.length_take,Array.length_toList]; omega
        by_cases hj1 : j < vs.length
        · rw [List.getElem?_append_left hj1] at hj
          have:=H.get j v hj
          rw [List.append_assoc,List.getElem?_append_left (by rw [hlen,← H.len]; exact hj1),List.getElem?_take,if_pos (by rw [← H.len]; exact hj1),Array.getElem?_toList]
          exact this
        · rw [List.getElem?_append_right (by omega)] at hj
          have hjn : j - vs.length < news.length:=(List.getElem?_eq_some_iff.1 hj).1
          rw [List.append_assoc,List.getElem?_append_right (by rw [hlen,← H.len]; omega),hlen,List.getElem?_append_left (by rw [← H.len]; exact hjn),← H.len]
          exact hj
  · rename_i hc
    refine ⟨hb,hm,vs,H.len,H.reads,fun cap hcap=>?_⟩
    have hl:=H.len
    refine hq _ _ (.inr ⟨h.size,e,_,rfl,hlo,get_push_eq,?_,hcap,?_,fun j v hj=>?_⟩) rfl (by simp) (fun i hi _=>get_push_lt hi) (fun i hi=>.inr ?_)
    · rw [Array.size_append,Array.size_append,zRow_size,List.size_toArray,List.size_toArray,hl,hn,hz]
      show r.len * sz + x.len * sz + (cap - (r.len + x.len)) * sz = cap * sz
      rw [← Nat.add_mul,← Nat.add_mul]
      congr 1
      omega
    · rw [List.length_append,hl,hn,Nat.add_mul]
    · have hlt : j < (vs ++ news).length:=(List.getElem?_eq_some_iff.1 hj).1
      rw [Array.getElem?_append_left (by simpa using hlt)]
      rw [← hj]
      simp
    · obtain ⟨a,ha,rfl⟩:=hi
      cases ha
      exact Nat.le_refl _
structure Km (S : Nat → Prop) (h h' : Heap) : Prop where
  size : h.size ≤ h'.size
  same : ∀ i,i < h.size → ¬ S i → h'[i]? = h[i]?
theorem Km.refl (S : Nat → Prop) (h : Heap) : Km S h h:=⟨Nat.le_refl _,fun _ _ _=>rfl⟩
theorem Km.trans {S : Nat → Prop} {h h' h'' : Heap} (a : Km S h h') (b : Km S h' h'') : Km S h h'' :=
  ⟨Nat.le_trans a.size b.size,fun i hi hn=>(b.same i (Nat.lt_of_lt_of_le hi a.size) hn).trans (a.same i hi hn)⟩
theorem Km.ext {S : Nat → Prop} {h h' : Heap} (a : Ext h h') : Km S h h':=⟨a.size,fun i hi _=>a.same i hi⟩
theorem Km.upd {S : Nat → Prop} {h h' : Heap} {b : Nat} (u : Upd b h h') (hb : S b) : Km S h h':=⟨by rw [u.size]; exact Nat.le_refl _,fun i hi hn=>u.ne i (fun e=>hn (e ▸ hb))⟩
theorem Km.blk {S : Nat → Prop} {h h' : Heap} (k : Km S h h') {b : Nat} {o : Obj} (hb : h[b]? = some o) (hn : ¬ S b) : h'[b]? = some o:=(k.same b (blk_lt hb) hn).trans hb
theorem Ext.km {S : Nat → Prop} {h h' h'' : Heap} (e : Ext h h') (k : Km S h' h'') (hF : ∀ i,S i → h.size ≤ i) : Ext h h'' :=
  ⟨Nat.le_trans e.size k.size,fun i hi=>(k.same i (Nat.lt_of_lt_of_le hi e.size) (fun ho=>by have:=hF i ho; omega)).trans (e.same i hi)⟩
theorem Gw.bys {lo : Nat} {h : Heap} {r : Sl} {l : List UInt8} (H : Gw lo h r 1 (l.map bv)) : Bys h r l:=⟨by have:=H.len; simp at this; exact this.symm,H.reads⟩
theorem Gw.cap {lo : Nat} {h : Heap} {r : Sl} {sz : Nat} {vs : List Value} (H : Gw lo h r sz vs) : r.len ≤ r.cap:=by
  rcases H with ⟨rfl,_⟩ | ⟨b,ty,cells,H⟩
  · exact Nat.le_refl _
  · exact H.cap
theorem Gw.ext {lo : Nat} {h h' : Heap} {r : Sl} {sz : Nat} {vs : List Value} (H : Gw lo h r sz vs) (e : Ext h h') : Gw lo h' r sz vs:=H.same fun i hi=>e.same i (H.lt hi).1
theorem Gw.weak {lo lo' : Nat} {h : Heap} {r : Sl} {sz : Nat} {vs : List Value} (H : Gw lo h r sz vs) (hl : lo' ≤ lo) : Gw lo' h r sz vs:=by
  rcases H with H | ⟨b,ty,cells,H⟩
  · exact .inl H
  · exact .inr ⟨b,ty,cells,H.base,Nat.le_trans hl H.lo,H.blk,H.size,H.cap,H.len,H.get⟩
theorem one_v (s : Sl) : one s.v = true:=by cases s; rfl
theorem stR {β : Type} {h : Heap} {Q : β → Heap → Prop} {b off : Nat} {cs vs : Array Value} {ty : TypeId} {f : Unit → M β} (hb : h[b]? = some (.cells cs ty (0,0))) (hl : off + vs.size ≤ cs.size) (h1 : ∀ v ∈ vs.toList,one v = true)
    (H : ∀ h',Upd b h h' → h'[b]? = some (.cells (lay cs off vs.toList) ty (0,0)) → (f ()).wp h' Q) : (stG ⟨b,off,none⟩ vs >>= f).wp h Q:=by
  refine stG_b (fun i hi=>?_) h1 (H _ (Upd.hsetL _ _ _ _ _) (by rw [hsetL_at _ _ _ _ hb,Nat.add_zero]))
  rw [add_mk,hcell_blk hb]
  exact ⟨⟨_,Array.getElem?_eq_getElem (by omega)⟩,hfrozen_blk hb⟩
theorem ldR {β : Type} {h : Heap} {Q : β → Heap → Prop} {b n : Nat} {cs : Array Value} {ty : TypeId} {f : Array Value → M β} (hb : h[b]? = some (.cells cs ty (0,0))) (hn : cs.size = n) (H : (f cs).wp h Q) : (ldG n ⟨b,0,none⟩ >>= f).wp h Q :=
  ldG_b hn (fun i hi=>by rw [add_mk,Nat.zero_add,hcell_blk hb]) H
theorem Ext.modify {h h' : Heap} {b : Nat} {f : Obj → Obj} (e : Ext h h') (hb : h.size ≤ b) : Ext h (h'.modify b f) :=
  ⟨by rw [Array.size_modify]; exact e.size,fun i hi=>by
    rw [Array.getElem?_modify,if_neg (by omega)]; exact e.same i hi⟩
end Gx
namespace Gx
open Go
set_option linter.unusedVariables false
set_option linter.unusedSimpArgs false
theorem Upd.set_ (h : Heap) (l : Nat) (o : Obj) : Upd l h (h.setIfInBounds l o):=⟨by simp,fun i hi=>by rw [Array.getElem?_setIfInBounds,if_neg (fun e=>hi e.symm)]⟩
theorem set_self {h : Heap} {l : Nat} {o o' : Obj} (hb : h[l]? = some o) : (h.setIfInBounds l o')[l]? = some o':=by
  rw [Array.getElem?_setIfInBounds,if_pos rfl,if_pos (blk_lt hb)]
def SeqW (P : Program) {α : Type} (enc : α → List Value) (xs : List α) (g : Value) (J : Nat → Heap → Prop) : Prop :=
  ∀ (l : Nat) (Inv : Nat → Heap → Prop) (Stop : Heap → Prop) (h : Heap),(∀ i h1,Inv i h1 → J i h1) → Inv 0 h →
    (∀ i (hi : i < xs.length) h1,Inv i h1 → (callV P (fun b : Bool=>.bool b) (yV l) (enc xs[i])).wp h1 (fun b h2=>if b = true then Inv (i + 1) h2 else Stop h2)) →
    (callV P (fun _ : Unit=>.tuple #[]) g [yV l]).wp h (fun _ h1=>Inv xs.length h1 ∨ Stop h1)
end Gx
namespace Gx
open Go Gx.Last
set_option linter.unusedVariables false
structure EnvD (ds : List Deferred) (m : Nat) (a : Act) (l : List (Nat × Value)) : Prop where
  env : Env ⟨m,[]⟩ { tmps:=a.tmps,defers:=[] } l
  def_ : a.defers = ds
section
variable {P : Program} {ops : Array Oper} {Q : Exit → Act → World → Prop} {a : Act} {w w0 : World} {l : List (Nat × Value)} {rest : List Oper} {o : Oper} {ds : List Deferred} {m : Nat}
theorem EnvD.put (hE : EnvD ds m a l) (d : Nat) (v : Value) (hd : Nat.blt d m = true) : EnvD ds m (a.put (some d) v) ((d,v) :: l):=⟨hE.env.put d v hd,hE.def_⟩
theorem g_nil (h : Q .normal a w) : wpListIn (Fw none) 1 P ops Q [] a w:=h
theorem g_run {v : Value} {w1 : World} (hg : o.guard = none) (hrun : (execOp a.eval o).run P w = .ok (.value v) w1) (h : wpListIn (Fw none) 1 P ops Q rest (a.put o.dst v) w1) : wpListIn (Fw none) 1 P ops Q (o :: rest) a w:=by
  refine wpListIn_plain hg fun K' hK=>⟨fun _ _=>trivial,?_⟩
  rw [sem_v hrun (fun d h=>by cases h)]
  exact hK _ _ h
theorem g_val {d : Nat} {v : Value} (hd : o.dst = some d) (hg : o.guard = none) (hE : EnvD ds m a l) (hn : Nat.blt d m = true) (hrun : ∀ b : Act,Env ⟨m,[]⟩ b l → (execOp b.eval o).run P w = .ok (.value v) w)
    (h : ∀ a',EnvD ds m a' ((d,v) :: l) → wpListIn (Fw none) 1 P ops Q rest a' w) : wpListIn (Fw none) 1 P ops Q (o :: rest) a w:=by
  refine g_run hg (show (execOp a.eval o).run P w = .ok (.value v) w from hrun { tmps:=a.tmps,defers:=[] } hE.env) ?_
  rw [hd]
  exact h _ (hE.put d v hn)
theorem g_valh {d : Nat} {v : Value} {h1 : Heap} (hd : o.dst = some d) (hg : o.guard = none) (hE : EnvD ds m a l) (hn : Nat.blt d m = true) (hR : Rest w0 w) (hrun : ∀ b : Act,Env ⟨m,[]⟩ b l → (execOp b.eval o).run P w = .ok (.value v) { w with heap:=h1 })
    (h : ∀ a' w',EnvD ds m a' ((d,v) :: l) → Rest w0 w' → w'.heap = h1 → wpListIn (Fw none) 1 P ops Q rest a' w') : wpListIn (Fw none) 1 P ops Q (o :: rest) a w:=by
  refine g_run hg (show (execOp a.eval o).run P w = .ok (.value v) { w with heap:=h1 } from hrun { tmps:=a.tmps,defers:=[] } hE.env) ?_
  rw [hd]
  exact h _ _ (hE.put d v hn) (hR.trans ⟨rfl,rfl,rfl,Nat.le_refl _⟩) rfl
theorem g_sth {h1 : Heap} (hd : o.dst = none) (hg : o.guard = none) (hE : EnvD ds m a l) (hR : Rest w0 w) (hrun : ∀ b : Act,Env ⟨m,[]⟩ b l → (execOp b.eval o).run P w = .ok .skip { w with heap:=h1 })
    (h : ∀ a' w',EnvD ds m a' l → Rest w0 w' → w'.heap = h1 → wpListIn (Fw none) 1 P ops Q rest a' w') : wpListIn (Fw none) 1 P ops Q (o :: rest) a w:=by
  refine wpListIn_plain hg fun K' hK=>⟨fun _ _=>trivial,?_⟩
  rw [sem_v (show (execOp a.eval o).run P w = .ok .skip { w with heap:=h1 } from hrun { tmps:=a.tmps,defers:=[] } hE.env) (fun d h=>by cases h)]
  refine hK _ _ ?_
  rw [hd]
  exact h _ _ hE (hR.trans ⟨rfl,rfl,rfl,Nat.le_refl _⟩) rfl
theorem g_callX {d : Option Nat} {f : FuncId} {as : Array Operand} {ts : Array TypeId} {ty : TypeId} {pos : String} {aft : Array Edge} {vs : List Value} {ρ : Type} {enc : ρ → Value} {F : M (Value ⊕ ρ)} {Qx : Value ⊕ ρ → Heap → Prop}
    (hE : EnvD ds m a l) (hR : Rest w0 w) (hc : Callee? P f) (ha : opvs l as.toList = some vs) (hS : SoundX P f vs.toArray enc F) (H : F.wp w.heap Qx)
    (hp : ∀ v w',Rest w0 w' → Qx (.inl v) w'.heap → Q (.panic [{ v:=v,recovered:=false }]) a w')
    (h : ∀ r a' w',a' = a.put d (enc r) → Rest w0 w' → Qx (.inr r) w'.heap → wpListIn (Fw none) 1 P ops Q rest a' w') :
    wpListIn (Fw none) 1 P ops Q (⟨d,.call { callee:=.value (.func f),args:=as,argTypes:=ts },ty,pos,aft,none⟩ :: rest) a w:=by
  refine wpListIn_plain rfl fun K' hK=>⟨fun _ _=>trivial,?_⟩
  have hrun : (execOp a.eval ⟨d,.call { callee:=.value (.func f),args:=as,argTypes:=ts },ty,pos,aft,none⟩).run P w = .ok (.enter f vs.toArray) w:=r_call (a:={ tmps:=a.tmps,defers:=[] }) hE.env hc ha
  rw [sem_v hrun (fun d h=>by cases h),Oper.uponIn_enter]
  refine ⟨fun _=>Nat.le_refl 1,calls_fw ((hS w _ H).mono ?_)⟩
  rintro e w' ⟨r,he,hq,hr⟩
  cases r with
  | inl v=>subst he; exact hp v w' (hR.trans hr) hq
  | inr r=>subst he; exact hK _ _ (h r _ w' rfl (hR.trans hr) hq)
theorem g_defer {x : Operand} {fv : Fn} {cap : Array Value} {ty : TypeId} {pos : String} {aft : Array Edge} (hE : EnvD ds m a l) (hx : opv l x = some (.func fv #[] cap))
    (h : ∀ a',EnvD ({ target:=.fn fv cap,args:=#[] } :: ds) m a' l → wpListIn (Fw none) 1 P ops Q rest a' w) :
    wpListIn (Fw none) 1 P ops Q (⟨none,.defer { callee:=.value x,args:=#[],argTypes:=#[] },ty,pos,aft,none⟩ :: rest) a w:=by
  refine wpListIn_plain rfl fun K' hK=>⟨fun _ _=>trivial,?_⟩
  have hrun : (execOp a.eval ⟨none,.defer { callee:=.value x,args:=#[],argTypes:=#[] },ty,pos,aft,none⟩).run P w = .ok (.defer { target:=.fn fv cap,args:=#[] }) w:=by
    have hx' : a.eval x = .func fv #[] cap:=Env.opv (a:={ tmps:=a.tmps,defers:=[] }) hE.env hx
    simp [execOp,resolve,Deferred.ofValue,hx']
  rw [show (Fw none).round = none from rfl,Oper.semAt_none,hrun,Oper.uponIn_defer]
  exact hK _ _ (h _ ⟨hE.env,by show _ :: a.defers = _; rw [hE.def_]⟩)
theorem g_region {id : Nat} {ops : Array Oper} (h : wpListIn (Fw none) 1 P ops Q ops.toList a w) : (Code.region id ops false).wpIn (Fw none) 1 P Q a w:=wpIn_region_list h
theorem g_cond {t : Nat} {x y : Code} (b : Bool) (hE : EnvD ds m a l) (hb : look l t = some (.bool b)) (ht : b = true → x.wpIn (Fw none) 1 P Q a w) (hf : b = false → y.wpIn (Fw none) 1 P Q a w) : (Code.cond (.tmp t) x y).wpIn (Fw none) 1 P Q a w :=
  wpIn_cond_split (show a.eval (.tmp t) = .bool b from Env.eval (a:={ tmps:=a.tmps,defers:=[] }) hE.env hb) ht hf
end
end Gx
