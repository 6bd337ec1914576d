import Derived.Test.YtddfgnmjecogdaaDoorMD
import Derived.Laws.Externs
import Derived.KernelRfl
import Derived.Orders
open Go.Deferred renaming ofValue→UT
open Go.Sem renaming run_bind→la,run_pure→lh
open Go.Result renaming andThen_ok→lj
open Bool renaming and_eq_true→dv,false_eq_true→rh,or_eq_true→kx,not_eq_true'→ky,false_or→rl,not_true→UU
open Go.Region renaming ready→UW,wanted→QR,schedule→UX,binds→UY,linearise→UZ
open Go.Frame renaming finish_atR→U0,atR→U1
open Array renaming getD_eq_getD_getElem?→PQ,replicate→U2,getElem?_eq_some_iff→U3,getElem?_eq_none→U4,toList_map→kb,toList_append→U5,getElem?_eq_getElem→ja,getElem?_replicate→U6,empty_append→U7
open Option.some renaming injEq→dC
open List renaming range'→Pl,getElem?_eq_getElem→dp,getElem?_eq_some_iff→fb,mem_append_right→U8,getElem?_append_left→px,mem_append_left→U9,getD_eq_getElem?_getD→dt,getElem?_cons_zero→o0,map_congr_left→a6,mem_cons→pk,getElem?_append_right→Va,mem_of_getElem?→pb,reverse_singleton→Vb,map_cons→pA,singleton_append→Vc,getElem?_take→dT,getElem?_cons_succ→o6,getElem?_replicate→Vd,mem_range'_1→Ve,replicate→dq,eq_nil_of_length_eq_zero→Vf,take_append_of_le_length→pw,mem_append→pn,mem_map→gg,length_erase_of_mem→Vg,range'_zero→Vh,append_nil→Vi,getElem?_eq_none→fg,mem_erase_of_ne→Vj,getElem?_map→fv,map_toArray→H2,mem_toArray→Vk,all_eq_true→a7,length_take→fl,nil_append→Vl,mem_range→Vm,toArray→H4,map_nil→H3,range→gl
open Nat renaming testBit→db,eq_of_beq_eq_true→bm,lt_or_ge→ik,not_lt_zero→Hn,le_of_ble_eq_true→gv,le_refl→df,lt_trichotomy→Vn,beq_refl→Hm,sub_self→Vo,strongRecOn→Vp,mod_lt→sg,add_assoc→iu,add_comm→Vq,beq→be,zero_le→Vr
open Prod.mk renaming injEq→kz
open Go.Op renaming operands→Vs
open Go.Region.linearise renaming go→Vt
open Go.Steps renaming refl→Vu
open Option renaming bind_some→Hc,map_some→kl
section
namespace Go.Am
open Go.RowKit
section
variable {P:Program} {E:Env} {g:Gh} {w:World}
theorem dU : ∀(us:mW) (m:Mem),(apply m us).length=m.length
 |[],_=>rfl
 |(i,b)::us,m=>by simp[apply,dU us]
def uQ (P:Program) (E:Env) (g:Gh) (c:bB) (fr:Frame) (w:World) (l:List bB):Prop:=
 ∀cs,∃c'∈l,∃g' fr' w',Steps P (lone fr cs w) (lone fr' cs w')∧cm P E g' c' fr' w'∧cr g c.st.mem w g' c'.st.mem w'∧bn g g' c.st.fix∧c'.f=c.f∧c'.st.fix=c.st.fix∧c'.st.bK=c.st.bK
def Ay (P:Program) (E:Env) (g:Gh) (c:bB) (fr:Frame) (w:World):Ev→Prop
 |.next c'=>ef P E g c fr w c'
 |.must b c'=>b=true→ef P E g c fr w c'
 |.test b y z=>(b=true→ef P E g c fr w y)∧(b=false→ef P E g c fr w z)
 |.call f args m ord dst c'=>(∀v m1,aG P E f args m v m1→ef P E g c fr w {c' with st:=back ord dst c'.st v m1}) ∧ ∀u m1,GS P E f args m u m1→ef P E g c fr w (m6 ord c' u m1)
 |.late f args m ord pv c'=> ∀m1,GV P E f args m pv m1→ef P E g c fr w {c' with st:=back ord none c'.st (.bk []) m1}
 |.round args m ord dst c'=> ∀v m1,Ef P E args m v m1→ef P E g c fr w {c' with st:=back ord dst c'.st v m1}
 |.range f args m ord L c'=> ∀v m1,aG P E f args m v m1 → ∀m2 pd,fT (back ord none c'.st v m1).mem L=some (m2,pd)→ef P E g c fr w (behind c' m2 pd)
 |.draw bL ops c'=> ∀(O:FuncId→List AV→Mem→Option (AV×Mem)) (st':St),(∀g args m v m1,O g args m=some (v,m1)→aG P E g args m v m1)→jJ P E c'.f bL O ops c'.st=some (st',true) →
    ef P E g c fr w {c' with st:={st' with bT:=c'.st.bT,bK:=c'.st.bK}}
 |.fork l=>uQ P E g c fr w l
 |.done (.ret v m')=>fr.fn=c.f∧m'=c.st.mem ∧ ∃cv w2,Fk P c.st.bK fr w cv w2∧VA g w2 v cv∧Rel g m' w2∧cr g m' w g m' w2∧c.st.fix≤m'.length
 |.done (.ot v m')=>fr.fn=c.f∧m'=c.st.mem ∧ ∃cv,fr.leaving P w (.panicked [{v:=cv,recovered:=false}])∧VA g w v cv∧Rel g m' w∧c.st.fix≤m'.length
 |.fail=>True
theorem nf {x:It} {k:List It} (hx:It.pl x) (hk : ∀y∈k,It.pl y) : ∀y∈x::k,It.pl y:=by
 intro y hy
 cases hy with
 |head=>exact hx
 |tail _ hy=>exact hk y hy
theorem cm.mk {c:bB} {b:Frame} {a:Act} (hnf : ∀x∈c.todo,It.pl x) (h1:b.fn=c.f) (h2:dZ g c.st.bK b) (h3:Mk g c.st.bT a.defers) (h4:bS E g c.st a w):cm P E g c (b.atR a (dz c.todo)) w:=by
 unfold cm
 split
 · rename_i hk;exact absurd (hnf _ (by rw[hk];exact .head _)) id
 · rename_i hk;exact absurd (hnf _ (by rw[hk];exact .head _)) id
 · rename_i hk;exact absurd (hnf _ (by rw[hk];exact .head _)) id
 · rename_i hk;exact absurd (hnf _ (by rw[hk];exact .head _)) id
 · exact⟨b,a,rfl,h1,h2,h3,h4,hnf⟩
theorem ef.quiet {c c':bB} {b:Frame} {a:Act} {fr:Frame} (hst : ∀cs,Steps P (lone fr cs w) (lone (b.atR a (dz c'.todo)) cs w))
  (hnf : ∀x∈c'.todo,It.pl x) (h1:b.fn=c.f) (hf:c'.f=c.f) (h2:dZ g c'.st.bK b) (h3:Mk g c'.st.bT a.defers) (h4:bS E g c'.st a w) (hm:c'.st.mem=c.st.mem) (hx:c'.st.fix=c.st.fix) (hr:c'.st.bK=c.st.bK:=by rfl):ef P E g c fr w c':=by
 intro cs
 exact⟨g,_,w,hst cs,cm.mk hnf (h1.trans hf.symm) h2 h3 h4,by rw[hm];exact cr.refl _ _ _,bn.refl _ _,hf,hx,hr⟩
theorem put_defers {a:Act} {d:Option Tmp} {v:Value}:(a.put d v).defers=a.defers:=by cases d<;>rfl
theorem L0 {st:St} {d:Option Tmp} {v:AV}:(Am.put st d v).bT=st.bT:=by cases d<;>rfl
theorem iK {st:St} {d:Option Tmp} {v:AV}:(Am.put st d v).bK=st.bK:=by cases d<;>rfl
theorem dZ.put {g g':Gh} {w w':World} {st st':St} {b:Frame} {d:Option Tmp} {u:AV} (h:dZ g st.bK b) (e:Ext g w g' w') (hm:st'.bK=st.bK):dZ g' (Am.put st' d u).bK b:=by
 rw[iK,hm]
 exact h.ext fun i c q=>(e.aP i c q).1
theorem Mk.put {g g':Gh} {w w':World} {st st':St} {a:Act} {d:Option Tmp} {v:Value} {u:AV} (h:Mk g st.bT a.defers) (e:Ext g w g' w') (hm:st'.bT=st.bT):Mk g' (Am.put st' d u).bT (a.put d v).defers:=by
 rw[put_defers,L0,hm]
 exact h.ext fun i c q=>(e.aP i c q).1
theorem wg {a:Act} {o:Oper} {c:Call} {x:Operand} {f:FuncId} {fa ca:Array Value} (ho:o.op = .call c) (hc:c.callee = .value x) (hx:a.eval x = .func (.func f) fa ca)
  {fn:Func} (hf:P.funcs[f]? = some fn) (hb:fn.body.isSome=true) (hn:(fn.name == "runtime.NumGoroutine")=false) :
  (execOp a.eval o).run P w = .ok (.enter f (fa++c.args.map a.eval++ca)) w:=by
 have On:fn.body.isNone=false:=by cases hq:fn.body<;>simp_all
 simp only[execOp,ho,resolve,hc,hx,UT,la,lh,lj,invoke,callFunc,run_program,hf,hn,rh,if_false,On]
theorem Db {b:Frame} {a:Act} {k:List Item} {cs:List Frame} {w':World} {ops:Array Oper} {i:Nat} {rest:List Nat} {o:Oper} {l:Nat} {f:FuncId} {tmps:Array Value} {as bd:Code} (ho:ops[i]? = some o)
  (hw:QR o (yielded ops a.tmps)=true) (hr:(execOp a.eval o).run P w = .ok (.round l f tmps as bd) w') :
  _root_.Go.step P (lone (b.atR a (.inRegion ops (i::rest)::k)) cs w) = .next (lone (Frame.round l f tmps as bd .normal) (b.atR a (.inRegion ops (i::rest)::k)::cs) w'):=by
 have hg:=stepGR_op (P:=P) (b:=b) (k:=k) (cs:=cs) (w:=w) (rest:=rest) ho hw
 exact step_lone_go (by rw[hg,semAt_eq hr fun _ e=>by cases e];simp[stepG.apply,hr,U1])
theorem yg {a:Act} {o:Oper} {c:Call} {x:Operand} {l:Nat} (ho:o.op = .call c) (hc:c.callee = .value x) (hx:a.eval x = .func (.yield l) #[] #[]) {n:Next} {w':World}
  (hy:(Instr.yield l (c.args.map a.eval)).run P w = .ok n w'):(execOp a.eval o).run P w = .ok n w':=by
 simp only[execOp,ho,resolve,hc,hx,UT,la,lh,lj,invoke,callFunc,U7]
 exact hy
theorem GW {st:St} {a:Act} {b:Frame} {k:List Item} {ops:Array Oper} {i:Nat} {rest:List Nat} {o:Oper} {args:List AV} {v:AV} {m1:Mem}
  (hs:bS E g st a w) (hd:Mk g st.bT a.defers) (hb:dZ g st.bK b) (ho:ops[i]? = some o) (hw:QR o (yielded ops a.tmps)=true) (ht:uK (ev E st.tm) o=some args)
  (hf:fits st o.dst=true) (hlt:iP (close st.mem 0 args) st.mem.length=true)
  (eY:Ef P E (eA (idx (close st.mem 0 args)) args) (pack st.mem (close st.mem 0 args)) v m1) :
  ∀cs,∃g' a' w',Steps P (lone (b.atR a (.inRegion ops (i::rest)::k)) cs w) (lone (b.atR a' (.inRegion ops rest::k)) cs w') ∧
   Mk g' (back (close st.mem 0 args) o.dst st v m1).bT a'.defers∧dZ g' (back (close st.mem 0 args) o.dst st v m1).bK b∧bS E g' (back (close st.mem 0 args) o.dst st v m1) a' w' ∧
   cr g st.mem w g' (back (close st.mem 0 args) o.dst st v m1).mem w'∧bn g g' st.fix∧(back (close st.mem 0 args) o.dst st v m1).fix=st.fix:=by
 intro cs
 have BR:=fY hs
 unfold uK at ht
 split at ht
 · rename_i call hop
   split at ht
   · rename_i x yh
     split at ht
     · rename_i bl hx
       simp only[dC] at ht
       subst ht
       have x8:=BR x
       rw[hx] at x8
       generalize hcx:a.eval x=cx at x8
       cases x8 with
       |vy _ l hl=>
        have hin:bl∈close st.mem 0 (.vy bl::call.args.toList.map (ev E st.tm)):=by
         obtain⟨_,t,h2⟩:=dD (iz (.vy bl::call.args.toList.map (ev E st.tm))) (upTo 0) (jR 0)
         obtain⟨_,t',h4⟩:=mh st.mem (st.mem.length+1) (iE (upTo 0) (iz (.vy bl::call.args.toList.map (ev E st.tm)))) 0 (dD _ _ (jR 0)).1
         unfold close
         rw[h4]
         refine U9 _ ?_
         show bl∈iE [] (bl::iz (call.args.toList.map (ev E st.tm)))
         simp only[iE,has,cond_false,Vl]
         obtain⟨_,t2,h5⟩:=dD (iz (call.args.toList.map (ev E st.tm))) [bl] (by simp)
         rw[h5]
         exact U9 _ (by simp)
        have hargs:bN g w (call.args.toList.map (ev E st.tm)) (call.args.map a.eval).toList:=by
         rw[kb];exact gz BR _
        generalize hxs:call.args.toList.map (ev E st.tm)=xs at *
        obtain⟨hnd,_⟩:=eE st.mem 0 (.vy bl::xs)
        generalize close st.mem 0 (.vy bl::xs)=ord at *
        obtain⟨GQ,C9⟩:=hs.rel.pack hnd
        have mj:=cT.pack g ord
        obtain⟨j,Tj,hj2⟩:=List.getElem_of_mem hin
        have NP:ord[j]? = some bl:=by rw[dp Tj,hj2]
        have hidx:idx ord bl=some j:=pK hnd NP
        have Tk:eA (idx ord) (.vy bl::xs) = .vy j::eA (idx ord) xs:=by simp only[eA,Am.jo,hidx]
        have Tl:(g.pack ord).aP j=some l:=by simp[Gh.pack,NP,hl]
        obtain⟨f,tmps,as,bd,w',g',cv,y,q1,q4,q5,q6,q7,q8⟩:=eY (g.pack ord) w j l (eA (idx ord) xs) (call.args.map a.eval) (b.atR a (.inRegion ops (i::rest)::k)) cs Tk GQ Tl
         (bN.jo mj hargs) (hs.cL.mono fun _ _ p=>⟨p,rfl⟩)
        have hlen:(Am.pack st.mem ord).length=ord.length:=by simp[Am.pack]
        rw[hlen] at q7 q8
        obtain⟨r1,r2,r3,r4⟩:=hs.rel.back hnd (fH hlt) q5 q6 q7 q8
        have hstep:=Db (b:=b) (k:=k) (cs:=cs) (rest:=rest) ho hw (yg hop yh hcx y)
        have nD:(b.atR a (.inRegion ops (i::rest)::k)).finish cv=b.atR (a.put o.dst cv) (.inRegion ops rest::k):=by rw[U0,ho];rfl
        rw[nD] at q1
        have nG:st.fix≤(cQ (bf ord st.mem.length) ord m1 st.mem).length:=by
         rw[dH _ _ _ _ q8];have:=hs.fix;omega
        refine⟨_,a.put o.dst cv,w',.head hstep q1,hd.put (st':={st with mem:=_}) r2 rfl,hb.put (st':={st with mem:=_}) r2 rfl,hs.put hf (q4.jo r4) r2 r1 nG,?_,bn.qJ r2 _,?_⟩
        · have:(back ord o.dst st v m1).mem=cQ (bf ord st.mem.length) ord m1 st.mem:=by
           unfold back Am.put;cases o.dst<;>rfl
          rw[this];exact r3
        · unfold back Am.put;cases o.dst<;>rfl
     · cases ht
   · cases ht
 · cases ht
theorem Fl {f:FuncId} (h:DZ P f=true) (x:Value):(callFunc f #[x]).run P w = .ok (.value x) w:=by
 unfold DZ at h
 split at h
 · rename_i fn hf
   simp only[dv] at h
   obtain⟨h1,h2,h3⟩:=h
   have h2:=of_decide_eq_true h2
   have h3:=of_decide_eq_true h3
   have hn:(fn.name == "runtime.NumGoroutine")=false:=by rw[h2];decide
   have q1:Extern.findNext fn=none:=by
    simp only[Extern.findNext,h2,h3]
    kernel_rfl
   have q2:Extern.find fn=some Extern.AbiNoEscape.same:=by
    simp only[Extern.find,h2,h3]
    kernel_rfl
   rw[run_callFunc_extern hf hn h1 q1 q2]
   rfl
 · cases h
theorem BS {ρ:Operand→AV} {bF:Operand→Value} (hr : ∀x,VA g w (ρ x) (bF x)) {o:Oper} {v:AV} (h:Gr P ρ o=some v) : ∃cv,(execOp bF o).run P w = .ok (.value cv) w∧VA g w v cv:=by
 unfold Gr at h
 split at h
 · rename_i c ho
   split at h
   · rename_i f x hc ha
     have kj:c.args = #[x]:=by have:=congrArg H4 ha;simpa using this
     split at h
     · rename_i q hq
       cases he:DZ P q with
       |false=>rw[he] at h;cases h
       |true=>
        rw[he] at h
        simp only[cond_true,dC] at h
        subst h
        have hf:=hr f
        rw[hq,VA.fns] at hf
        obtain⟨fa,ca,QI,q1,q2⟩:=hf
        have e1:fa = #[]:=by cases fa with | mk l=>cases l with | nil=>rfl | cons _ _=>exact q1.elim
        have e2:ca = #[]:=by cases ca with | mk l=>cases l with | nil=>rfl | cons _ _=>exact q2.elim
        subst e1;subst e2
        refine⟨bF x,?_,hr x⟩
        simp only[execOp,ho,resolve,hc,QI,kj,UT,la,lh,lj,invoke,H2,pA,H3,Array.append_empty,U7]
        exact Fl he _
     · cases h
   · cases h
 · cases h
theorem BT {v:AV} {cv:Value} (h:yH v=true) (hv:VA g w v cv) : ∃t x,cv = .iface t x:=by
 cases hv with
 |kA t v cv h=>exact⟨t,cv,rfl⟩
 |p v cv h'=>cases h' with
  |kA t v cv h=>exact⟨t,cv,rfl⟩
  |_=>cases h
 |_=>cases h
theorem Dc {b:Frame} {a:Act} {k:List Item} {cs:List Frame} {ops:Array Oper} {i:Nat} {rest:List Nat} {o:Oper} {v:Value} (ho:ops[i]? = some o) (hw:QR o (yielded ops a.tmps)=true)
  (hr:(o.semAt b.roundOf a.eval).run P w = .halt (.panic v) w) :
  _root_.Go.step P (lone (b.atR a (.inRegion ops (i::rest)::k)) cs w) = .next (lone {b.atR a (.inRegion ops (i::rest)::k) with mode:=cJ (some v) false} cs w):=by
 have hg:=stepGR_op (P:=P) (b:=b) (k:=k) (cs:=cs) (w:=w) (rest:=rest) ho hw
 refine step_lone_go ?_
 rw[hg]
 simp[stepG.apply,hr,Frame.raise,U1,cJ]
theorem nH : ∀{l:List AV} {q:List (Nat×Nat)} {cs:List Value},yG l=some q→bN g w l cs→Qi g q cs
 |[],q,[],h,_=>by
  simp only[yG,dC] at h;subst h;trivial
 |.mp b off::l,q,cv::cs,h,hv=>by
  simp only[yG] at h
  split at h
  · rename_i l' hl
    simp only[dC] at h;subst h
    have h1:=hv.1
    cases h1 with
    |mp _ _ c hc=>exact⟨⟨c,hc,rfl⟩,nH hl hv.2⟩
  · cases h
 |[],_,_::_,_,hv=>hv.elim
 |_::_,_,[],_,hv=>hv.elim
 |.af::_,_,_::_,h,_ | .p _::_,_,_::_,h,_ | .os .. :: _,_,_::_,h,_ | .ms .. :: _,_,_::_,h,_ | .fn .. :: _,_,_::_,h,_ | .agg _::_,_,_::_,h,_ | .bk _::_,_,_::_,h,_
 |.kA .. :: _,_,_::_,h,_ | .vm _::_,_,_::_,h,_ | .vy _::_,_,_::_,h,_=>by cases h
theorem GX {c:bB} {b:Frame} {a:Act} {k0:List It} {ops:Array Oper} {i bL:Nat} {o:Oper} (hs:bS E g c.st a w) (sk:b.fn=c.f) (hbk:dZ g c.st.bK b) (hd:Mk g c.st.bT a.defers)
  (ho:ops[i]? = some o) (hw:QR o (yielded ops a.tmps)=true) (Lj : ∀x∈k0,It.pl x) :
  Ay P E g c (b.atR a (.inRegion ops (i::Pl (i+1) (ops.size-(i+1)))::dz k0)) w (Gs E c o (.ops bL ops (i+1) false::k0)):=by
 have BR:=fY hs
 have throw : ∀(x:Operand),yH (ev E c.st.tm x)=true→(∀v,a.eval x=v→(∃t y,v = .iface t y)→(o.semAt b.roundOf a.eval).run P w = .halt (.panic v) w) →
   ef P E g c (b.atR a (.inRegion ops (i::Pl (i+1) (ops.size-(i+1)))::dz k0)) w {c with todo:=[.gW (ev E c.st.tm x)]}:=by
  intro x hx hrun cs
  have hr:=hrun _ rfl (BT hx (BR x))
  exact⟨g,_,w,.one (Dc ho hw hr),⟨b,a,_,a.eval x,rfl,sk,hbk,hd,hs,BR x⟩,cr.refl _ _ _,bn.refl _ _,rfl,rfl,rfl⟩
 unfold Gs
 split
 · rename_i x hop
   cases hx:yH (ev E c.st.tm x) with
   |false=>trivial
   |true=>
    refine throw x hx fun v hv ⟨t,y,e⟩=> ?_
    have L1:o.semAt b.roundOf a.eval=execOp a.eval o:=by unfold Oper.semAt;rw[hop];cases b.roundOf<;>rfl
    rw[L1]
    subst hv
    simp only[execOp,hop,e,Instr.panic]
    rfl
 · rename_i d hop
   split
   · rename_i x hc ha
     have kj:d.args = #[x]:=by have:=congrArg H4 ha;simpa using this
     cases hx:yH (ev E c.st.tm x) with
     |false=>trivial
     |true=>
      refine throw x hx fun v hv ⟨t,y,e⟩=> ?_
      have L1:o.semAt b.roundOf a.eval=execOp a.eval o:=by unfold Oper.semAt;rw[hop];cases b.roundOf<;>rfl
      rw[L1]
      subst hv
      simp only[execOp,hop,resolve,hc,kj,la,lh,lj,invoke,H2,pA,H3,e]
      rfl
   · trivial
 · rename_i d hop
   split
   · trivial
   · rename_i f hmk yh wh
     split
     · rename_i gf first captured hf
       split
       · rename_i l m hl hm
         intro hfit cs
         have hvf:=BR f
         rw[hf,VA.fns] at hvf
         obtain⟨fa,ca,QI,za,hca⟩:=hvf
         have hro:=hbk.Ax fun i e=>wh i e
         have hrun:(o.semAt b.roundOf a.eval).run P w = .ok (.defer {target:= .fn (.func gf) ca,args:=fa++d.args.map a.eval}) w:=by
          rw[hro]
          simp only[Oper.semAt,execOp,hop,resolve,yh,QI,UT,la,lh,lj]
         have hargs:bN g w (first++d.args.toList.map (ev E c.st.tm)) (fa++d.args.map a.eval).toList:=by
          simp only[U5,kb]
          exact za.append (gz BR _)
         rw[hmk] at hd
         have hds:a.defers=[]:=by
          cases hq:a.defers with
          |nil=>rfl
          |cons _ _=>rw[hq] at hd;exact hd.elim
         have hstep:_root_.Go.step P (lone (b.atR a (.inRegion ops (i::Pl (i+1) (ops.size-(i+1)))::dz k0)) cs w) =
          .next (lone (b.atR ({a with defers:=[{target:= .fn (.func gf) ca,args:=fa++d.args.map a.eval}]}.put o.dst undef) (.inRegion ops (Pl (i+1) (ops.size-(i+1)))::dz k0)) cs w):=by
          have hg:=stepGR_op (P:=P) (b:=b) (k:=dz k0) (cs:=cs) (w:=w) (rest:=Pl (i+1) (ops.size-(i+1))) ho hw
          have nD:({b.atR a (.inRegion ops (i::Pl (i+1) (ops.size-(i+1)))::dz k0) with defers:={target:= .fn (.func gf) ca,args:=fa++d.args.map a.eval}::a.defers}:Frame).finish undef =
           b.atR ({a with defers:=[{target:= .fn (.func gf) ca,args:=fa++d.args.map a.eval}]}.put o.dst undef) (.inRegion ops (Pl (i+1) (ops.size-(i+1)))::dz k0):=by
           have:=U0 b {a with defers:=[{target:= .fn (.func gf) ca,args:=fa++d.args.map a.eval}]} ops i (Pl (i+1) (ops.size-(i+1))) (dz k0) undef
           rw[ho] at this
           rw[hds]
           exact this
          refine step_lone_go ?_
          rw[hg]
          simp only[stepG.apply,Sem.runT_eq,hrun,GStep.bare_after]
          exact congrArg (fun fr=>GStep.go {frame:=fr,callers:=cs,status:= .running,dying:=none} w) nD
         have hs':bS E g {c.st with bT:=[.late gf l m]} {a with defers:=[{target:= .fn (.func gf) ca,args:=fa++d.args.map a.eval}]} w:=⟨hs.tm,hs.nt,hs.rel,hs.fix,hs.cL⟩
         have hd':Mk g [.late gf l m] [{target:= .fn (.func gf) ca,args:=fa++d.args.map a.eval}]:=⟨⟨_,_,nH hl hargs,nH hm hca,rfl⟩,trivial⟩
         refine⟨g,_,w,.one hstep,cm.mk (c:={c with todo:= .ops bL ops (i+1) false::k0,st:=put {c.st with bT:=[.late gf l m]} o.dst (.bk [])}) (nf trivial Lj) sk
          (hbk.put (st:=c.st) (st':={c.st with bT:=[.late gf l m]}) (Ext.refl g w) rfl)
          (Mk.put (st:={c.st with bT:=[.late gf l m]}) (st':={c.st with bT:=[.late gf l m]}) (a:={a with defers:=[{target:= .fn (.func gf) ca,args:=fa++d.args.map a.eval}]}) hd' (Ext.refl g w) rfl)
          (hs'.put (cv:=undef) (v:= .bk []) (m':=c.st.mem) hfit (VA.je.2 trivial) (Ext.refl g w) hs.rel hs.fix),?_,bn.refl _ _,rfl,?_,iK⟩
         · have:(put {c.st with bT:=[.late gf l m]} o.dst (.bk [])).mem=c.st.mem:=by unfold Am.put;cases o.dst<;>rfl
           show cr g c.st.mem w g (put {c.st with bT:=[.late gf l m]} o.dst (.bk [])).mem w
           rw[this];exact cr.refl _ _ _
         · show(put {c.st with bT:=[.late gf l m]} o.dst (.bk [])).fix=c.st.fix
           unfold Am.put;cases o.dst<;>rfl
       · trivial
     · trivial
   · trivial
 · trivial
theorem Eg {c:bB} {b:Frame} {a:Act} {k0:List It} {ops:Array Oper} {i bL:Nat} {o:Oper} (hs:bS E g c.st a w) (sk:b.fn=c.f) (hbk:dZ g c.st.bK b) (hd:Mk g c.st.bT a.defers)
  (ho:ops[i]? = some o) (hw:QR o (yielded ops a.tmps)=true) (Lj : ∀x∈k0,It.pl x) :
  Ay P E g c (b.atR a (.inRegion ops (Pl i (ops.size-i))::dz k0)) w (Gt P E c bL o (.ops bL ops (i+1) false::k0)):=by
 have hi:i<ops.size:=by
  rcases ik i ops.size with q | q
  · exact q
  · rw[U4 q] at ho;cases ho
 rw[nC hi]
 unfold Gt
 have BR:=fY hs
 split
 · rename_i f args ht
   split
   · rename_i v QJ
     intro hok cs
     obtain⟨cv,k1,k2⟩:=BS BR QJ
     have hstep:=oD (b:=b) (k:=dz k0) (cs:=cs) (rest:=Pl (i+1) (ops.size-(i+1))) ho hw (.inl k1)
     refine⟨g,_,w,.one hstep,cm.mk (a:=a.put o.dst cv) (c:={c with todo:= .ops bL ops (i+1) false::k0,st:=put {c.st with mem:=c.st.mem} o.dst v}) (nf trivial Lj) sk (hbk.put (st':={c.st with mem:=_}) (Ext.refl g w) rfl) (hd.put (st':={c.st with mem:=_}) (Ext.refl g w) rfl) (hs.put hok k2 (Ext.refl g w) hs.rel hs.fix),?_,bn.refl _ _,rfl,?_,iK⟩
     · have:(put c.st o.dst v).mem=c.st.mem:=(by unfold Am.put;cases o.dst<;>rfl)
       show cr g c.st.mem w g (put c.st o.dst v).mem w
       rw[this];exact cr.refl _ _ _
     · show(put c.st o.dst v).fix=c.st.fix
       unfold Am.put;cases o.dst<;>rfl
   cases hb:(fits c.st o.dst&&iP (close c.st.mem 0 args) c.st.mem.length) with
   |false=>simp only[hb,cond_false];trivial
   |true=>
    simp only[hb,cond_true]
    simp only[dv] at hb
    unfold target at ht
    split at ht
    · rename_i call hop
      split at ht
      · rename_i x yh
        split at ht
        · rename_i f' first captured hx
          simp only[dC,kz] at ht
          obtain⟨rfl,rfl⟩:=ht
          have x8:=BR x
          rw[hx,VA.fns] at x8
          obtain⟨fa,ca,x8,za,hca⟩:=x8
          have hargs:bN g w (first++call.args.toList.map (ev E c.st.tm)++captured) (fa++call.args.map a.eval++ca).toList:=by
           simp only[U5,kb]
           exact(za.append (gz BR _)).append hca
          generalize first++call.args.toList.map (ev E c.st.tm)++captured=args at *
          obtain⟨hnd,_⟩:=eE c.st.mem 0 args
          generalize close c.st.mem 0 args=ord at *
          obtain⟨GQ,C9⟩:=hs.rel.pack hnd
          have mj:=cT.pack g ord
          have hlen:(Am.pack c.st.mem ord).length=ord.length:=by simp[Am.pack]
          constructor
          · intro v m1 eY cs
            obtain⟨⟨fn,JE,Dd,GY⟩,eY⟩:=eY
            have hrun:=wg (P:=P) (w:=w) hop yh x8 JE Dd GY
            obtain⟨w',g',cv,fr,q1,q2,q3,q4,q5,q6,q7,q8⟩:=eY (g.pack ord) w (fa++call.args.map a.eval++ca) (b.atR a (.inRegion ops (i::Pl (i+1) (ops.size-(i+1)))::dz k0)::cs) GQ
             (bN.jo mj hargs) (hs.cL.mono fun _ _ p=>⟨p,rfl⟩)
            rw[hlen] at q7 q8
            obtain⟨r1,r2,r3,r4⟩:=hs.rel.back hnd (fH hb.2) q5 q6 q7 q8
            have hstep:=pL (b:=b) (k:=dz k0) (cs:=cs) (rest:=Pl (i+1) (ops.size-(i+1))) ho hw hrun
            have hleave:=step_leave_returned (P:=P) (c:=b.atR a (.inRegion ops (i::Pl (i+1) (ops.size-(i+1)))::dz k0)) (cs:=cs) q2
            have nD:(b.atR a (.inRegion ops (i::Pl (i+1) (ops.size-(i+1)))::dz k0)).finish cv=b.atR (a.put o.dst cv) (.inRegion ops (Pl (i+1) (ops.size-(i+1)))::dz k0):=by
             rw[U0,ho];rfl
            rw[nD] at hleave
            have nG:c.st.fix≤(cQ (bf ord c.st.mem.length) ord m1 c.st.mem).length:=by
             rw[dH _ _ _ _ q8];have:=hs.fix;omega
            refine⟨_,_,w',.head hstep (q1.trans (.one hleave)),cm.mk (a:=a.put o.dst cv) (c:={c with todo:= .ops bL ops (i+1) false::k0,st:=back ord o.dst c.st v m1}) (nf trivial Lj) sk (hbk.put (st':={c.st with mem:=_}) r2 rfl) (hd.put (st':={c.st with mem:=_}) r2 rfl) (hs.put hb.1 (q4.jo r4) r2 r1 nG),?_,bn.qJ r2 _,rfl,?_,iK⟩
            · have:(back ord o.dst c.st v m1).mem=cQ (bf ord c.st.mem.length) ord m1 c.st.mem:=by
               unfold back Am.put;cases o.dst<;>rfl
              show cr g c.st.mem w _ (back ord o.dst c.st v m1).mem w'
              rw[this];exact r3
            · show(back ord o.dst c.st v m1).fix=c.st.fix
              unfold back Am.put;cases o.dst<;>rfl
          · intro u m1 eY cs
            obtain⟨⟨fn,JE,Dd,GY⟩,eY⟩:=eY
            have hrun:=wg (P:=P) (w:=w) hop yh x8 JE Dd GY
            obtain⟨w',g',cv,fr,q1,q2,q3,q4,q5,q6,q7,q8⟩:=eY (g.pack ord) w (fa++call.args.map a.eval++ca) (b.atR a (.inRegion ops (i::Pl (i+1) (ops.size-(i+1)))::dz k0)::cs) GQ
             (bN.jo mj hargs) (hs.cL.mono fun _ _ p=>⟨p,rfl⟩)
            rw[hlen] at q7 q8
            obtain⟨r1,r2,r3,r4⟩:=hs.rel.back hnd (fH hb.2) q5 q6 q7 q8
            have hstep:=pL (b:=b) (k:=dz k0) (cs:=cs) (rest:=Pl (i+1) (ops.size-(i+1))) ho hw hrun
            have hleave:=step_leave_panicked (P:=P) (c:=b.atR a (.inRegion ops (i::Pl (i+1) (ops.size-(i+1)))::dz k0)) (cs:=cs) q2
            have nG:c.st.fix≤(cQ (bf ord c.st.mem.length) ord m1 c.st.mem).length:=by
             rw[dH _ _ _ _ q8];have:=hs.fix;omega
            refine⟨_,_,w',.head hstep (q1.trans (.one hleave)),⟨b,a,_,cv,rfl,sk,hbk.ext fun i c q=>(r2.aP i c q).1,hd.ext fun i c q=>(r2.aP i c q).1,⟨fun k=>(hs.tm k).mono r2,hs.nt,r1,nG,hs.cL.mono r2.pure⟩,q4.jo r4⟩,r3,bn.qJ r2 _,rfl,rfl,rfl⟩
        · cases ht
      · cases ht
    · cases ht
 · dsimp only
   split
   · rename_i args ht
     cases hb:(fits c.st o.dst&&iP (close c.st.mem 0 args) c.st.mem.length) with
     |false=>trivial
     |true=>
      simp only[cond_true]
      simp only[dv] at hb
      intro v m1 eY cs
      obtain⟨g',a',w',r1,r2,r3,r4,r5,r6,r7⟩:=GW (P:=P) (k:=dz k0) (rest:=Pl (i+1) (ops.size-(i+1))) hs hd hbk ho hw ht hb.1 hb.2 eY cs
      exact⟨g',_,w',r1,cm.mk (a:=a') (c:={c with todo:= .ops bL ops (i+1) false::k0,st:=back (close c.st.mem 0 args) o.dst c.st v m1}) (nf trivial Lj) sk r3 r2 r4,r5,r6,rfl,r7,iK⟩
   · split
     · rename_i v us ok he
       intro hok cs
       simp only[dv] at hok
       obtain⟨rfl,hfit⟩:=hok
       have hres:Rel g (reserve o c.st.mem) w∧cr g c.st.mem w g (reserve o c.st.mem) w:=by
        unfold reserve
        cases makes o with
        |true=>exact hs.rel.reserve
        |false=>exact⟨hs.rel,cr.refl _ _ _⟩
       have hfree:makes o=true→(reserve o c.st.mem)[c.st.mem.length]? = some .free:=by
        intro hm
        simp[reserve,hm]
       obtain⟨cv,w',g',k1,k2,k3,k4,k5⟩:=oC hres.1 BR (fun _=>rfl) hfree he
       have hstep:=oD (b:=b) (k:=dz k0) (cs:=cs) (rest:=Pl (i+1) (ops.size-(i+1))) ho hw k1
       have nG:c.st.fix≤(apply (reserve o c.st.mem) us).length:=by
        rw[dU]
        have:=hs.fix
        unfold reserve
        cases makes o<;>simp<;>omega
       refine⟨g',_,w',.one hstep,cm.mk (a:=a.put o.dst cv) (c:={c with todo:= .ops bL ops (i+1) false::k0,st:=put {c.st with mem:=apply (reserve o c.st.mem) us} o.dst v}) (nf trivial Lj) sk (hbk.put (st':={c.st with mem:=_}) k4 rfl) (hd.put (st':={c.st with mem:=_}) k4 rfl) (hs.put hfit k2 k4 k3 nG),?_,bn.qJ k4 _,rfl,?_,iK⟩
       · have:(put {c.st with mem:=apply (reserve o c.st.mem) us} o.dst v).mem=apply (reserve o c.st.mem) us:=by unfold Am.put;cases o.dst<;>rfl
         show cr g c.st.mem w _ (put {c.st with mem:=apply (reserve o c.st.mem) us} o.dst v).mem w'
         rw[this];exact hres.2.trans k5
       · show(put {c.st with mem:=apply (reserve o c.st.mem) us} o.dst v).fix=c.st.fix
         unfold Am.put;cases o.dst<;>rfl
     · split
       · rename_i QK
         cases hfit:fits c.st o.dst with
         |false=>trivial
         |true=>
          simp only[cond_true]
          intro cs
          obtain⟨bb,k1⟩:=Av BR (fun _=>rfl) QK
          have hstep:=oD (b:=b) (k:=dz k0) (cs:=cs) (rest:=Pl (i+1) (ops.size-(i+1))) ho hw (.inl k1)
          refine⟨{c with todo:= .ops bL ops (i+1) false::k0,st:=put c.st o.dst (sB bb)},by cases bb<;>simp,g,_,w,.one hstep,cm.mk (a:=a.put o.dst (.bool bb)) (c:={c with todo:= .ops bL ops (i+1) false::k0,st:=put c.st o.dst (sB bb)}) (nf trivial Lj) sk (hbk.put (st':=c.st) (Ext.refl g w) rfl) (hd.put (st':=c.st) (Ext.refl g w) rfl) (hs.put hfit (.p _ _ (.sc _)) (Ext.refl _ _) hs.rel hs.fix),?_,bn.refl _ _,rfl,?_,iK⟩
          · have:(put c.st o.dst (sB bb)).mem=c.st.mem:=by unfold Am.put;cases o.dst<;>rfl
            show cr g c.st.mem w _ (put c.st o.dst (sB bb)).mem w
            rw[this];exact cr.refl _ _ _
          · show(put c.st o.dst (sB bb)).fix=c.st.fix
            unfold Am.put;cases o.dst<;>rfl
       · exact GX hs sk hbk hd ho hw Lj
end
end Go.Am
end
section
namespace Go.Am
section
variable {P:Program} {E:Env}
theorem tU {ρ ρ':Operand→AV} : ∀{l:List Operand},(∀x∈l,ρ x=ρ' x)→tC ρ l=tC ρ' l
 |[],_=>rfl
 |x::r,h=>by simp only[tC,h x (.head _),tU fun y hy=>h y (.tail _ hy)]
theorem nI {ρ ρ':Operand→AV} {x:Option Operand} (h : ∀y∈x,ρ y=ρ' y) (d:Nat):bound ρ x d=bound ρ' x d:=by
 cases x with
 |none=>rfl
 |some x=>simp only[bound,h x (by simp)]
theorem zb {rd:Nat→aH} {wr:Bool} {aO:Nat} {ρ ρ':Operand→AV} {o:Oper} (hq:gk o=true) (h : ∀x∈o.op.operands,ρ x=ρ' x):tG P rd wr aO ρ o=tG P rd wr aO ρ' o:=by
 have hsel : ∀cs b,o.op ≠ .select cs b:=by
  intro cs b e
  simp[gk,e] at hq
 have hsc:scalar P ρ o=scalar P ρ' o:=by
  unfold scalar
  rw[tU (ρ:=ρ) (ρ':=ρ') fun x hx=>h x (by simpa using hx),
   execOp_congr (ρ:=fun x=>(CQ (ρ x)).getD undef) (ρ':=fun x=>(CQ (ρ' x)).getD undef) o hsel fun x hx=>by rw[h x hx]]
 obtain⟨dst,op,type,pos,after,guard⟩:=o
 cases op<;>simp only[gk,rh] at hq<;>simp only[Vs] at h<;>simp only[tG]
 case move x=>rw[h x (by simp)]
 case assign x=>rw[h x (by simp)]
 case pick c a b=>rw[h c (by simp),h a (by simp),h b (by simp)]
 case build t ps=>
  have:ps.toList.map (fun q=>(q.1,ρ q.2))=ps.toList.map fun q=>(q.1,ρ' q.2):=
   a6 fun q hq=>by rw[h q.2 (by simp only[Vk,gg];exact⟨q,hq,rfl⟩)]
  rw[this]
 case load t a=>rw[h a (by simp)]
 case nilCheck x=>rw[h x (by simp)];simp only[jF,hsc]
 case binOp op t x y r=>rw[h x (by simp),h y (by simp)];simp only[qm,hsc]
 case unOp op t x=>rw[h x (by simp)];simp only[vc,hsc]
 case convert s d x=>rw[h x (by simp)];simp only[convertOp,hsc]
 case makeInterface t x=>rw[h x (by simp)]
 case makeFunc f first captured=>
  rw[a6 (l:=first.toList) fun x hx=>h x (by simp_all),a6 (l:=captured.toList) fun x hx=>h x (by simp_all)]
 case slice t x lo hi mx=>
  rw[h x (by simp)]
  have h1:=nI (ρ:=ρ) (ρ':=ρ') (x:=lo) fun y hy=>h y (by simp_all)
  have h2:=nI (ρ:=ρ) (ρ':=ρ') (x:=hi) fun y hy=>h y (by simp_all)
  have h3:=nI (ρ:=ρ) (ρ':=ρ') (x:=mx) fun y hy=>h y (by simp_all)
  cases mx with
  |none=>
   simp only[om,h1,h2]
   repeat' first | rfl | split
   all_goals simp_all
  |some m=>
   simp only[om,h1,h2]
   repeat' first | rfl | split
   all_goals simp_all
 case fieldAddr t x f=>rw[h x (by simp)]
 case field t x f=>rw[h x (by simp)]
 case indexAddr t x i=>rw[h x (by simp),h i (by simp)]
 case index t x i=>rw[h x (by simp),h i (by simp)]
 case extract x i=>rw[h x (by simp)]
 case call c=>
  obtain⟨callee,args,tys⟩:=c
  cases callee with
  |value _=>simp at hq
  |invoke _ _=>simp at hq
  |builtin b=>
   simp only[Call.operands] at h
   obtain⟨args⟩:=args
   have Tm : ∀mn,jG P ρ ⟨dst,.call ⟨.builtin b,⟨args⟩,tys⟩,type,pos,after,guard⟩ mn args=jG P ρ' ⟨dst,.call ⟨.builtin b,⟨args⟩,tys⟩,type,pos,after,guard⟩ mn args:=by
    intro mn
    unfold jG
    rw[hsc,a6 (l:=args) fun x hx=>h x (by simp_all)]
   cases b<;>simp only[rh] at hq<;>simp only[Tm]
   cases args with
   |nil=>rfl
   |cons x r=>cases r with
    |nil=>simp only[h x (by simp)]
    |cons _ _=>rfl
theorem qM (st:St) (dst:Option Tmp) (v:AV) (t:Nat):look (put st dst v).tm t=if dst=some t then v else look st.tm t:=by
 cases dst with
 |none=>simp[put]
 |some d=>simp only[put,jx,dC]
theorem Az (st:St) (dst:Option Tmp) (v:AV):(put st dst v).mem=st.mem∧(put st dst v).nt=st.nt∧(put st dst v).fix=st.fix:=by
 cases dst<;>exact⟨rfl,rfl,rfl⟩
theorem mq {a b:List Nat} (h:meet a b=false) {i:Nat} (ha:i∈a) (hb:i∈b):False:=by
 simp only[meet,List.any_eq_false] at h
 have:=h i ha
 simp only[List.any_eq_true,not_exists,not_and] at this
 exact this i hb (Hm i)
theorem BU : ∀(l:List Oper) (acc:List Nat),∃M,masks acc l=acc++M∧M.length=l.length ∧ ∀i o,l[i]? = some o→M[i]? = some (pz (acc++M.take i) o)
 |[],acc=>⟨[],by simp[masks]⟩
 |o::r,acc=>by
  obtain⟨M,h1,h2,h3⟩:=BU r (acc++[pz acc o])
  refine⟨pz acc o::M,by simp[masks,h1],by simp[h2],?_⟩
  intro i p hp
  cases i with
  |zero=>simp only[o0,dC] at hp;subst hp;simp
  |succ i=>
   simp only[o6] at hp
   have:=h3 i p hp
   simpa using this
theorem De {acc:List Nat} {o:Oper} {j:Nat} (h:db (pz acc o) j=true) : ∃e∈o.after,UY .any e=true∧(e.on=j∨db (acc.getD e.on 0) j=true):=by
 unfold pz at h
 have key : ∀(l:List Edge) (s:Nat),db (l.foldl (fun s e=>cond (UY .any e) (s|||(2 ^ e.on|||acc.getD e.on 0)) s) s) j=true →
   db s j=true ∨ ∃e∈l,UY .any e=true∧(e.on=j∨db (acc.getD e.on 0) j=true):=by
  intro l
  induction l with
  |nil=>intro s h;exact .inl h
  |cons e r ih=>
   intro s h
   simp only[List.foldl_cons] at h
   rcases ih _ h with h | ⟨e',he',q⟩
   · cases hb:UY .any e with
     |false=>rw[hb] at h;exact .inl h
     |true=>
      rw[hb] at h
      simp only[cond_true,Nat.testBit_or,kx] at h
      rcases h with h | h | h
      · exact .inl h
      · refine .inr ⟨e,.head _,hb,.inl ?_⟩
        rw[Nat.testBit_two_pow] at h
        exact of_decide_eq_true h
      · exact .inr ⟨e,.head _,hb,.inr h⟩
   · exact .inr ⟨e',.tail _ he',q⟩
 rcases key _ _ h with h | ⟨e,he,q⟩
 · simp at h
 · exact⟨e,by simpa using he,q⟩
theorem oW {q:Oper→Bool} {ops:Array Oper} {L:List Nat} : ∀{r mS:List Oper},jH q ops L mS.length mS r=true →
  ∀i o,(mS++r)[i]? = some o→mS.length≤i →
   q o=true∧(∀e∈o.after,UY .any e=true→e.on<i) ∧ ∀j p,j<i→(mS++r)[j]? = some p→pF ops L i o j p=true
 |[],mS,_,i,o,ho,hi=>by
  simp only[Vi] at ho
  rw[fg hi] at ho;cases ho
 |q0::r,mS,h,i,o,ho,hi=>by
  simp only[jH,dv] at h
  obtain⟨⟨⟨h1,h2⟩,h3⟩,h4⟩:=h
  by_cases hc:i=mS.length
  · subst hc
    have:o=q0:=by simpa using ho.symm
    subst this
    refine⟨h1,?_,?_⟩
    · intro e he hb
      have:=a7.1 h2 e (by simpa using he)
      simp only[hb,UU,rl] at this
      rwa [Nat.blt_eq] at this
    · intro j p hj hp
      have key : ∀(l:List Oper) (k:Nat),uM ops L mS.length o k l=true → ∀m p,l[m]? = some p→pF ops L mS.length o (k+m) p=true:=by
       intro l
       induction l with
       |nil=>intro k _ m p hp;simp at hp
       |cons x l ih=>
        intro k hk m p hp
        simp only[uM,dv] at hk
        cases m with
        |zero=>simp only[o0,dC] at hp;subst hp;exact hk.1
        |succ m=>
         simp only[o6] at hp
         have:=ih (k+1) hk.2 m p hp
         rwa [iu,Vq 1 m] at this
      have hp':mS[j]? = some p:=by rwa [px hj] at hp
      simpa using key mS 0 h3 j p hp'
  · have h4':jH q ops L (mS++[q0]).length (mS++[q0]) r=true:=by simpa using h4
    have:=oW h4' i o (by simpa using ho) (by simp;omega)
    simpa using this
def Ll (P:Program) (E:Env) (rd:Nat→aH) (wr:Bool) (aO:Nat) (ops:Array Oper) (st:St) (o:Oper) (v:AV):Prop:=
 ((dP ops st.tm o = .yes ∨ ∃d b want,dP ops st.tm o = .ask d b want∧(b==want)=true)∧tG P rd wr aO (ev E st.tm) o=some (v,[],true)) ∨
 ((dP ops st.tm o = .no ∨ ∃d b want,dP ops st.tm o = .ask d b want∧(b==want)=false)∧v = .bk [])
inductive AA (P:Program) (E:Env) (rd:Nat→aH) (wr:Bool) (aO:Nat) (ops:Array Oper):List Oper→St→List AV→St→Prop
 |nil (st:St):AA P E rd wr aO ops [] st [] st
 |cons (o:Oper) (r:List Oper) (st:St) (v:AV) (vs:List AV) (st':St) (hf:fits st o.dst=true) (h:Ll P E rd wr aO ops st o v)
   (hr:AA P E rd wr aO ops r (put st o.dst v) vs st'):AA P E rd wr aO ops (o::r) st (v::vs) st'
theorem nJ {rd:Nat→aH} {wr:Bool} {aO:Nat} {ops:Array Oper} : ∀{l:List Oper} {st st':St},kH P E rd wr aO ops l st=some (st',true) → ∃vs,AA P E rd wr aO ops l st vs st'
 |[],st,st',h=>by
  simp only[kH,dC,kz,and_true] at h
  subst h
  exact⟨[],.nil st⟩
 |o::r,st,st',h=>by
  have skip:(match kH P E rd wr aO ops r (put st o.dst (.bk [])) with
   |some (st',ok)=>some (st',fits st o.dst&&ok)
   |none=>none)=some (st',true)→fits st o.dst=true ∧ ∃vs,AA P E rd wr aO ops r (put st o.dst (.bk [])) vs st':=by
   intro h
   split at h
   · rename_i AB ok hq
     simp only[dC,kz,dv] at h
     obtain⟨rfl,h1,rfl⟩:=h
     exact⟨h1,nJ hq⟩
   · cases h
  have qp:(match tG P rd wr aO (ev E st.tm) o with
   |some (v,[],ok)=>match kH P E rd wr aO ops r (put st o.dst v) with
    |some (st',ok')=>some (st',ok&&(fits st o.dst&&ok'))
    |none=>none
   |_=>none)=some (st',true) → ∃v,tG P rd wr aO (ev E st.tm) o=some (v,[],true)∧fits st o.dst=true ∧ ∃vs,AA P E rd wr aO ops r (put st o.dst v) vs st':=by
   intro h
   split at h
   · rename_i v ok hop
     split at h
     · rename_i AB ok' hq
       simp only[dC,kz,dv] at h
       obtain⟨rfl,rfl,h1,rfl⟩:=h
       exact⟨v,hop,h1,nJ hq⟩
     · cases h
   · cases h
  unfold kH at h
  dsimp only at h
  cases hw:dP ops st.tm o with
  |yes=>
   rw[hw] at h
   obtain⟨v,h1,h2,vs,h3⟩:=qp h
   exact⟨v::vs,.cons o r st v vs st' h2 (.inl ⟨.inl hw,h1⟩) h3⟩
  |no=>
   rw[hw] at h
   obtain⟨h2,vs,h3⟩:=skip h
   exact⟨.bk []::vs,.cons o r st _ vs st' h2 (.inr ⟨.inl hw,rfl⟩) h3⟩
  |lost=>rw[hw] at h;cases h
  |ask d b want=>
   rw[hw] at h
   dsimp only at h
   cases hb:b==want with
   |true=>
    rw[hb] at h
    obtain⟨v,h1,h2,vs,h3⟩:=qp h
    exact⟨v::vs,.cons o r st v vs st' h2 (.inl ⟨.inr ⟨d,b,want,hw,hb⟩,h1⟩) h3⟩
   |false=>
    rw[hb] at h
    obtain⟨h2,vs,h3⟩:=skip h
    exact⟨.bk []::vs,.cons o r st _ vs st' h2 (.inr ⟨.inr ⟨d,b,want,hw,hb⟩,rfl⟩) h3⟩
def BV (l:List Oper):Prop:= ∀(i j:Nat) (p q:Oper) (t:Tmp),i<j→l[i]? = some p→l[j]? = some q→p.dst=some t→q.dst≠some t
def dc (l:List Oper) (vs:List AV) (st:St) (i:Nat) (iL:St):Prop:=
 iL.mem=st.mem∧iL.nt=st.nt∧iL.fix=st.fix∧(∀j p v t,j<i→l[j]? = some p→vs[j]? = some v→p.dst=some t→look iL.tm t=v) ∧
 (∀t,(∀j p,j<i→l[j]? = some p→p.dst≠some t)→look iL.tm t=look st.tm t)
theorem dc.cons {o:Oper} {r:List Oper} {v:AV} {vs:List AV} {st iL:St} {i:Nat} (hu:BV (o::r)) (h:dc r vs (put st o.dst v) i iL):dc (o::r) (v::vs) st (i+1) iL:=by
 obtain⟨h1,h2,h3,h4,h5⟩:=h
 obtain⟨q1,q2,q3⟩:=Az st o.dst v
 refine⟨h1.trans q1,h2.trans q2,h3.trans q3,?_,?_⟩
 · intro j p w t hj hp hw ht
   cases j with
   |zero=>
    simp only[o0,dC] at hp hw
    subst hp;subst hw
    rw[h5 t fun j p _ hp=>hu 0 (j+1) o p t (by omega) rfl (by simpa using hp) ht,qM,if_pos ht]
   |succ j=>exact h4 j p w t (by omega) (by simpa using hp) (by simpa using hw) ht
 · intro t ht
   rw[h5 t fun j p hj hp=>ht (j+1) p (by omega) (by simpa using hp),qM,if_neg (ht 0 o (by omega) rfl)]
theorem AA.spec {rd:Nat→aH} {wr:Bool} {aO:Nat} {ops:Array Oper} {l:List Oper} {st st':St} {vs:List AV} (h:AA P E rd wr aO ops l st vs st') (hu:BV l) :
  vs.length=l.length∧dc l vs st l.length st' ∧ ∀i o,l[i]? = some o → ∃v iL,vs[i]? = some v∧Ll P E rd wr aO ops iL o v∧fits iL o.dst=true∧dc l vs st i iL:=by
 induction h with
 |nil st=>exact⟨rfl,⟨rfl,rfl,rfl,fun j _ _ _ hj=>absurd hj (Hn _),fun _ _=>rfl⟩,fun i o ho=>by simp at ho⟩
 |cons o r st v vs st' hf hk hr ih=>
  have CI:BV r:=fun i j p q t hij hp hq=>hu (i+1) (j+1) p q t (by omega) (by simpa using hp) (by simpa using hq)
  obtain⟨h1,h2,h3⟩:=ih CI
  refine⟨by simp[h1],h2.cons hu,?_⟩
  intro i p hp
  cases i with
  |zero=>
   simp only[o0,dC] at hp
   subst hp
   exact⟨v,st,rfl,hk,hf,rfl,rfl,rfl,fun j _ _ _ hj=>absurd hj (Hn _),fun _ _=>rfl⟩
  |succ i=>
   obtain⟨w,iL,q1,q2,q3,q4⟩:=h3 i p (by simpa using hp)
   exact⟨w,iL,by simpa using q1,q2,q3,q4.cons hu⟩
structure mV (ops:Array Oper) (L:List Nat) (vs:List AV) (gq dW:St) (S:Array Bool):Prop where
 size:S.size=ops.size
 mem:dW.mem=gq.mem
 nt:dW.nt=gq.nt
 fix:dW.fix=gq.fix
 a : ∀(j:Nat) (p:Oper) (v:AV) (t:Tmp),S.getD j false=true→ops.toList[j]? = some p→vs[j]? = some v→p.dst=some t→look dW.tm t=v
 b : ∀t:Tmp,(∀(j:Nat) (p:Oper),S.getD j false=true→ops.toList[j]? = some p→p.dst≠some t)→look dW.tm t=look gq.tm t
 cl : ∀i j:Nat,S.getD i false=true→db (L.getD i 0) j=true→S.getD j false=true
structure uw (ops:Array Oper) (L:List Nat):Prop where
 mask : ∀i o,ops.toList[i]? = some o→L[i]? = some (pz (L.take i) o)
 low : ∀(i:Nat) o,ops.toList[i]? = some o → ∀e∈o.after,UY .any e=true→e.on<i
 pair : ∀(i:Nat) o,ops.toList[i]? = some o → ∀j p,j<i→ops.toList[j]? = some p→pF ops L i o j p=true
theorem uw.of {q:Oper→Bool} {ops:Array Oper} (h:jH q ops (masks [] ops.toList) 0 [] ops.toList=true):uw ops (masks [] ops.toList) ∧ ∀(i:Nat) o,ops.toList[i]? = some o→q o=true:=by
 obtain⟨M,h1,_,h3⟩:=BU ops.toList []
 simp only[Vl] at h1 h3
 rw[h1] at h ⊢
 have hs:=fun i o ho=>oW (mS:=[]) h i o ho (Vr _)
 exact⟨⟨h3,fun i o ho=>(hs i o ho).2.1,fun i o ho=>(hs i o ho).2.2⟩,fun i o ho=>(hs i o ho).1⟩
theorem uw.uniq {ops:Array Oper} {L:List Nat} (h:uw ops L):BV ops.toList:=by
 intro i j p q t hij hp hq ht ht'
 have:=h.pair j q hq i p hij hp
 simp only[pF,dv,ky] at this
 exact mq this.1 (i:=t) (by simp[ht']) (by simp[ht])
theorem lD {S:Array Bool} {j:Nat} (h:j<S.size) (d d':Bool):S.getD j d=S.getD j d':=by
 simp[PQ,ja h]
theorem JF {S:Array Bool} {j:Nat} (h:S.getD j false=true):j<S.size:=by
 rcases ik j S.size with q | q
 · exact q
 · rw[PQ,U4 q] at h;cases h
section
variable {ops:Array Oper} {L:List Nat} {vs:List AV} {gq dW iL:St} {S:Array Bool}
theorem mV.ahead (hI:mV ops L vs gq dW S) (hO:uw ops L) {i:Nat} (hi:i∈UW .any ops S) {j:Nat} (hb:db (L.getD i 0) j=true):S.getD j false=true:=by
 obtain⟨_,o,ho,hr⟩:=mem_ready.1 hi
 have ho':ops.toList[i]? = some o:=by simpa using ho
 have hm:=hO.mask i o ho'
 rw[dt,hm,Option.getD_some] at hb
 obtain⟨e,he,xJ,h⟩:=De hb
 rcases h with h | h
 · exact h▸hr e he xJ
 · have hlt:=hO.low i o ho' e he xJ
   refine hI.cl e.on j (hr e he xJ) ?_
   rw[dt,dT,if_pos hlt,←dt] at h
   exact h
theorem mV.slots (hI:mV ops L vs gq dW S) (hO:uw ops L) {i:Nat} {o:Oper} (ho:ops.toList[i]? = some o) (hi:i∈UW .any ops S) (hl:vs.length=ops.toList.length) (Df:dc ops.toList vs gq i iL)
  {t:Tmp} (ht:t∈Am.slots ops o):look dW.tm t=look iL.tm t:=by
 obtain⟨_,_,_,hA,hB⟩:=Df
 have hu:=hO.uniq
 have hni:S.getD i false=false:=by
  obtain⟨h,_⟩:=mem_ready.1 hi
  cases hq:S.getD i false with
  |false=>rfl
  |true=>rw[lD (JF hq) false true,h] at hq;cases hq
 by_cases hw : ∃(j:Nat) (p:Oper),ops.toList[j]? = some p∧p.dst=some t
 · obtain⟨j,p,hp,hd⟩:=hw
   have only : ∀(k:Nat) (q:Oper),ops.toList[k]? = some q→q.dst=some t→k=j:=by
    intro k q hq Jf
    rcases Vn k j with h | h | h
    · exact absurd hd (hu k j q p t h hq hp Jf)
    · exact h
    · exact absurd Jf (hu j k p q t h hp hq hd)
   rcases Vn j i with h | h | h
   · have BW:=hO.pair i o ho j p h hp
     simp only[pF,dv,kx,ky] at BW
     have L2:db (L.getD i 0) j=true:=by
      rcases BW.2 with q | q
      · exact q
      · exact(mq q.1 (i:=t) (by simp[hd]) ht).elim
     have hS:=hI.ahead hO hi L2
     have GD : ∃v,vs[j]? = some v:=by
      have:j<vs.length:=by rw[hl];exact(fb.1 hp).1
      exact⟨vs[j],dp this⟩
     obtain⟨v,hv⟩:=GD
     rw[hI.a j p v t hS hp hv hd,hA j p v t h hp hv hd]
   · subst h
     rw[hI.b t,hB t]
     · intro k q hk hq Jf
       have:=only k q hq Jf
       omega
     · intro k q hk hq Jf
       have:=only k q hq Jf
       subst this
       rw[hni] at hk;cases hk
   · have BW:=hO.pair j p hp i o h ho
     simp only[pF,dv,kx,ky] at BW
     have L2:db (L.getD j 0) i=true:=by
      rcases BW.2 with q | q
      · exact q
      · exact(mq q.2 (i:=t) (by simp[hd]) ht).elim
     rw[hI.b t,hB t]
     · intro k q hk hq Jf
       have:=only k q hq Jf
       omega
     · intro k q hk hq Jf
       have:=only k q hq Jf
       subst this
       have:=hI.cl k i hk L2
       rw[hni] at this;cases this
 · have hno : ∀(k:Nat) (q:Oper),ops.toList[k]? = some q→q.dst≠some t:=fun k q hq hd=>hw ⟨k,q,hq,hd⟩
   rw[hI.b t fun k q _ hq=>hno k q hq,hB t fun k q _ hq=>hno k q hq]
theorem mV.step (hI:mV ops L vs gq dW S) (hO:uw ops L) {i:Nat} {o:Oper} {v:AV} (ho:ops.toList[i]? = some o) (hv:vs[i]? = some v) (hi:i∈UW .any ops S) :
  mV ops L vs gq (put dW o.dst v) (S.setIfInBounds i true):=by
 obtain⟨q1,q2,q3⟩:=Az dW o.dst v
 have hu:=hO.uniq
 have uo : ∀j,(S.setIfInBounds i true).getD j false=true→j=i∨S.getD j false=true:=by
  intro j hj
  by_cases h:i=j
  · exact .inl h.symm
  · rw[getD_set_ne false h] at hj;exact .inr hj
 have QL : ∀j,S.getD j false=true→(S.setIfInBounds i true).getD j false=true:=fun j hj=>getD_set_true hj
 refine⟨by simp[hI.size],q1.trans hI.mem,q2.trans hI.nt,q3.trans hI.fix,?_,?_,?_⟩
 · intro j p w t hj hp hw hd
   rw[qM]
   by_cases hji:j=i
   · subst hji
     rw[ho] at hp;cases hp
     rw[hv] at hw;cases hw
     rw[if_pos hd]
   · have hne:o.dst≠some t:=by
      rcases Nat.lt_or_gt_of_ne hji with h | h
      · exact hu j i p o t h hp ho hd
      · exact fun Tn=>hu i j o p t h ho hp Tn hd
     rw[if_neg hne]
     rcases uo j hj with h | h
     · exact absurd h hji
     · exact hI.a j p w t h hp hw hd
 · intro t ht
   have CH:i<S.size:=by rw[hI.size];have:=(fb.1 ho).1;simpa using this
   have hne:o.dst≠some t:=ht i o (by simp[PQ,CH]) ho
   rw[qM,if_neg hne]
   exact hI.b t fun j p hj hp=>ht j p (QL j hj) hp
 · intro k j hk hb
   rcases uo k hk with h | h
   · subst h;exact QL j (hI.ahead hO hi hb)
   · exact QL j (hI.cl k j h hb)
theorem mV.all (hI:mV ops L vs gq dW S) (hO:uw ops L) (hr:UW .any ops S=[]) : ∀i,i<ops.size→S.getD i false=true:=by
 intro i
 induction i using Vp with
 |ind i ih=>
  intro hi
  have ho:ops[i]? = some ops[i]:=ja hi
  have ho':ops.toList[i]? = some ops[i]:=by simp[hi]
  cases hq:S.getD i false with
  |true=>rfl
  |false=>
   have:i∈UW .any ops S:=mem_ready.2 ⟨by rw[lD (by rw[hI.size];exact hi) true false];exact hq,ops[i],ho,fun e he hb=>ih e.on (hO.low i _ ho' e he hb) (by have:=hO.low i _ ho' e he hb;omega)⟩
   rw[hr] at this;cases this
theorem mV.ends (hI:mV ops L vs gq dW S) (hl:vs.length=ops.toList.length) {st':St} (hst:dc ops.toList vs gq ops.toList.length st') (hall : ∀i,i<ops.size→S.getD i false=true) :
  dW.mem=st'.mem∧dW.nt=st'.nt∧dW.fix=st'.fix ∧ ∀t,look dW.tm t=look st'.tm t:=by
 obtain⟨h1,h2,h3,hA,hB⟩:=hst
 refine⟨hI.mem.trans h1.symm,hI.nt.trans h2.symm,hI.fix.trans h3.symm,fun t=> ?_⟩
 by_cases hw : ∃(j:Nat) (p:Oper),ops.toList[j]? = some p∧p.dst=some t
 · obtain⟨j,p,hp,hd⟩:=hw
   have hjl:=(fb.1 hp).1
   have GD:vs[j]? = some vs[j]:=dp (by rw[hl];exact hjl)
   rw[hI.a j p _ t (hall j (by simpa using hjl)) hp GD hd,hA j p _ t hjl hp GD hd]
 · rw[hI.b t fun k q _ hq hd=>hw ⟨k,q,hq,hd⟩,hB t fun k q _ hq hd=>hw ⟨k,q,hq,hd⟩]
end
theorem bS.same {g:Gh} {w:World} {st st':St} {a:Act} (h:bS E g st a w) (h1:st.mem=st'.mem) (h2:st.nt=st'.nt) (h3:st.fix=st'.fix) (h4 : ∀t,look st.tm t=look st'.tm t):bS E g st' a w:=
 ⟨fun k=>h4 k▸h.tm k,h2▸h.nt,h1▸h.rel,by rw[←h1,←h3];exact h.fix,h.cL⟩
theorem tV {ops:Array Oper} {tm Oo:rM} {o:Oper} (h : ∀t∈slots ops o,look tm t=look Oo t):dP ops tm o=dP ops Oo o:=by
 unfold dP
 unfold slots at h
 cases hg:o.guard with
 |none=>rfl
 |some q=>
  obtain⟨j,want⟩:=q
  simp only[hg] at h
  dsimp only
  cases hj:ops[j]? with
  |none=>rfl
  |some oj=>
   simp only[hj] at h
   dsimp only
   cases hd:oj.dst with
   |none=>rfl
   |some d=>simp only[h d (by simp[hd])]
theorem BX {tm Oo:rM} {ops:Array Oper} {o:Oper} (h : ∀t∈slots ops o,look tm t=look Oo t) : ∀x∈o.op.operands,ev E tm x=ev E Oo x:=by
 intro x hx
 cases x with
 |tmp t=>exact h t (U8 _ (List.mem_filterMap.2 ⟨.tmp t,by simpa using hx,rfl⟩))
 |_=>rfl
theorem Fm {b:Frame} {k:List Item} {ops:Array Oper} {L:List Nat} {vs:List AV} {gq st':St} {wr:Bool} {aO:Nat} (hO:uw ops L) (hQ : ∀(i:Nat) o,ops.toList[i]? = some o→gk o=true) (hn:gq.mem[aO]? = some .free)
  (hrun:AA P E (fun i=>gq.mem.getD i .dead) wr aO ops ops.toList gq vs st') : ∀(fuel t:Nat) (S:Array Bool) (dW:St) (a:Act) (g:Gh) (w:World) (u:List Nat),
    mV ops L vs gq dW S→bS E g dW a w→u.length=fuel→(∀i,i<ops.size→S.getD i false=false→i∈u) →
    ∃g' a' w',(∀cs,Steps P (lone (b.atR a (.inRegion ops (Vt .any ops fuel t S [])::k)) cs w) (lone (b.atR a' (.inRegion ops []::k)) cs w'))∧a'.defers=a.defers∧bS E g' st' a' w' ∧
     cr g gq.mem w g' gq.mem w'∧bn g g' gq.fix ∧ ∀i c,g.aP i=some c→g'.aP i=some c:=by
 obtain⟨hl,hend,hspec⟩:=hrun.spec hO.uniq
 intro fuel
 induction fuel with
 |zero=>
  intro t S dW a g w u hI hs L3 hu
  have hall : ∀i,i<ops.size→S.getD i false=true:=by
   intro i hi
   cases hq:S.getD i false with
   |true=>rfl
   |false=>
    have:=hu i hi hq
    rw[Vf L3] at this;cases this
  obtain⟨e1,e2,e3,e4⟩:=hI.ends hl hend hall
  exact⟨g,a,w,fun cs=>Vu _ _,rfl,hs.same e1 e2 e3 e4,cr.refl _ _ _,bn.refl _ _,fun _ _ h=>h⟩
 |succ fuel ih=>
  intro t S dW a g w u hI hs L3 hu
  simp only[Vt]
  show ∃g' a' w',(∀cs,Steps P (lone (b.atR a (.inRegion ops (match(UW .any ops S)[t%(UW .any ops S).length]? with
   |some i=>Vt .any ops fuel (t / (UW .any ops S).length) (S.setIfInBounds i true) [i]
   |none=>[].reverse)::k)) cs w) (lone (b.atR a' (.inRegion ops []::k)) cs w'))∧_
  cases hi:(UW .any ops S)[t%(UW .any ops S).length]? with
  |none=>
   have GZ:UW .any ops S=[]:=by
    cases hr:UW .any ops S with
    |nil=>rfl
    |cons x xs=>
     rw[hr] at hi
     have hlt:t%(x::xs).length<(x::xs).length:=sg _ (by simp)
     rw[dp hlt] at hi;cases hi
   obtain⟨e1,e2,e3,e4⟩:=hI.ends hl hend (hI.all hO GZ)
   exact⟨g,a,w,fun cs=>Vu _ _,rfl,hs.same e1 e2 e3 e4,cr.refl _ _ _,bn.refl _ _,fun _ _ h=>h⟩
  |some i=>
   have JG:=pb hi
   obtain⟨QM,o,ho,_⟩:=mem_ready.1 JG
   have ho':ops.toList[i]? = some o:=by simpa using ho
   obtain⟨v,iL,hv,hk,hf,Df⟩:=hspec i o ho'
   have wj : ∀t∈slots ops o,look dW.tm t=look iL.tm t:=fun t ht=>hI.slots hO ho' JG hl Df ht
   have hilt:i<ops.size:=(U3.1 ho).1
   have G0:i∈u:=hu i hilt (by rw[lD (by rw[hI.size];exact hilt) false true];exact QM)
   have CI : ∀j,j<ops.size→(S.setIfInBounds i true).getD j false=false→j∈u.erase i:=by
    intro j hj hq
    have hne:j≠i:=by
     intro e
     subst e
     rw[show(S.setIfInBounds j true).getD j false=true by simp[PQ,hI.size,hj]] at hq
     cases hq
    rw[getD_set_ne false (fun e=>hne e.symm)] at hq
    exact(Vj hne).2 (hu j hj hq)
   have JH:(u.erase i).length=fuel:=by rw[Vg G0,L3];rfl
   have Qj:=hI.step hO ho' hv JG
   have Qk:fits dW o.dst=true:=by
    have:fits dW o.dst=fits iL o.dst:=by unfold fits;rw[hI.nt,Df.2.1]
    rw[this];exact hf
   dsimp only
   rw[linearise_go_acc,Vb,Vc]
   have Fo:=tV wj
   obtain⟨w1,w2,w3⟩:=oF hs (ops:=ops) (o:=o)
   rcases hk with⟨hw,hop⟩ | ⟨hw,rfl⟩
   · have iM:QR o (yielded ops a.tmps)=true:=by
      rcases hw with hw | ⟨d,b',want,hw,hb⟩
      · exact w1 (Fo.trans hw)
      · rw[(w3 d b' want (Fo.trans hw)).1];exact hb
     have QN:tG P (fun i=>dW.mem.getD i .dead) wr aO (ev E dW.tm) o=some (v,[],true):=by
      rw[hI.mem,zb (hQ i o ho') (BX wj)];exact hop
     obtain⟨cv,w',g',k1,k2,k3,k4,k5⟩:=oC hs.rel (fY hs) (fun _=>rfl) (fun _=>by rw[hI.mem];exact hn) QN
     have hs':=hs.put Qk k2 k4 k3 hs.fix
     obtain⟨g2,a2,QO,r1,r2,r3,r4,r5,r6⟩:=ih (t / (UW .any ops S).length) _ _ _ _ _ _ Qj hs' JH CI
     refine⟨g2,a2,QO,fun cs=> .head (oD ho iM k1) (r1 cs),r2.trans put_defers,r3,?_,(bn.qJ k4 _).trans r5,fun i c q=>r6 i c (k4.aP i c q).1⟩
     have To:cr g gq.mem w g' gq.mem w':=by rw[←hI.mem];exact k5
     exact To.trans r4
   · have iM:QR o (yielded ops a.tmps)=false:=by
      rcases hw with hw | ⟨d,b',want,hw,hb⟩
      · exact w2 (Fo.trans hw)
      · rw[(w3 d b' want (Fo.trans hw)).1];exact hb
     have hs':=hs.put (v:= .bk []) (cv:=undef) Qk (VA.je.2 trivial) (Ext.refl g w) hs.rel hs.fix
     obtain⟨g2,a2,QO,r1,r2,r3,r4,r5,r6⟩:=ih (t / (UW .any ops S).length) _ _ _ _ _ _ Qj hs' JH CI
     refine⟨g2,a2,QO,fun cs=> .head ?_ (r1 cs),r2.trans put_defers,r3,r4,r5,r6⟩
     have hst:=stepR_op_skip (P:=P) (b:=b) (a:=a) (k:=k) (cs:=cs) (w:=w) (ops:=ops) (i:=i) (rest:=Vt .any ops fuel (t / (UW .any ops S).length) (S.setIfInBounds i true) []) (by simp[ho,iM])
     simpa only[ho,Hc] using hst
theorem bS.drew {g:Gh} {w:World} {st:St} {a:Act} (h:bS E g st a w) (n:Nat):bS E g st a {w with drawn:=n}:=by
 have he:Ext g w g {w with drawn:=n}:=⟨fun _ _ e=>⟨e,rfl,rfl⟩,fun _ _ e=>⟨e,rfl⟩⟩
 refine⟨fun k=>(h.tm k).mono he,h.nt,(h.rel.jK (w':={w with drawn:=n}) rfl rfl rfl rfl).1,h.fix,h.cL.mono he.pure⟩
theorem JI {g:Gh} {w:World} {b:Frame} {a:Act} {k:List Item} {ops:Array Oper} {f bL:Nat} {st st':St} (hs:bS E g st a w) (h:vo P E f bL ops st=some (st',true)) :
  ∃g' a' w',(∀cs,Steps P (lone (b.atR a (.code (.region bL ops true)::k)) cs w) (lone (b.atR a' k) cs w'))∧a'.defers=a.defers∧bS E g' st' a' w' ∧
   cr g st.mem w g' st'.mem w'∧bn g g' st.fix∧st'.fix=st.fix ∧ ∀i c,g.aP i=some c→g'.aP i=some c:=by
 unfold vo at h
 dsimp only at h
 split at h
 · rename_i AB ok hq
   cases G1:(ops.toList.all gk&&Gu E f ops) with
   |false=>rw[G1] at hq;cases hq
   |true=>
   rw[G1] at hq
   simp only[cond_true] at hq
   have hall:ops.toList.all gk=true:=(dv _ _▸G1).1
   simp only[dC,kz,dv] at h
   obtain⟨rfl,rfl,G2,L4⟩:=h
   obtain⟨vs,hrun⟩:=nJ hq
   obtain⟨hO,hQ⟩:=uw.of G2
   obtain⟨L5,NQ⟩:=hs.rel.reserve
   have hs1:bS E g {st with mem:=st.mem++[.free]} a w:=⟨hs.tm,hs.nt,L5,by simp;have:=hs.fix;omega,hs.cL⟩
   have hgd : ∀j,(U2 ops.size false).getD j false=false:=by
    intro j
    rw[PQ,U6]
    split<;>rfl
   have hI:mV ops (masks [] ops.toList) vs {st with mem:=st.mem++[.free]} {st with mem:=st.mem++[.free]} (U2 ops.size false):=
    ⟨by simp,rfl,rfl,rfl,fun j _ _ _ hj=>(by rw[hgd] at hj;cases hj),fun _ _=>rfl,fun i _ hi=>(by rw[hgd] at hi;cases hi)⟩
   have Je:=hs1.drew (w.drawn+1)
   obtain⟨g',a',w',r1,r2,r3,r4,r5,r6⟩:=Fm (P:=P) (E:=E) (b:=b) (k:=k) hO hQ (by simp) hrun ops.size (w.tape w.drawn (.order b.fn bL)) _ _ a g _ (gl ops.size) hI Je (by simp) (fun i hi _=>Vm.2 hi)
   have hend:=(hrun.spec hO.uniq).2.1
   refine⟨g',a',w',fun cs=> ?_,r2,r3,?_,r5,hend.2.2.1,r6⟩
   · refine .head stepR_region_draw ?_
     have G3:UX (P.follows .mixedOrders) ops (w.tape w.drawn (.order b.fn bL))=Vt .any ops ops.size (w.tape w.drawn (.order b.fn bL)) (U2 ops.size false) []:=by
      simp only[UX,L4,if_true,UZ]
     rw[G3]
     exact(r1 cs).trans (.one stepR_region_end)
   · rw[hend.1]
     have hst:cr g (st.mem++[.free]) w g (st.mem++[.free]) {w with drawn:=w.drawn+1}:=⟨df _,fun _ _ _=>rfl,fun _ _ h=>⟨h,rfl⟩,fun _ _ h=> .inl h,fun _ h=> .inl h,rfl,rfl,rfl⟩
     exact(NQ.trans hst).trans r4
 · cases h
end
open Go.RowKit
section
variable {P:Program} {E:Env}
theorem oX {rd rd':Nat→aH} {a:AV} (h : ∀b∈refs a,rd b=rd' b) (n:Nat):lU rd a n=lU rd' a n:=by
 cases a with
 |mp b off=>simp only[lU,h b (by simp[refs])]
 |p v=>cases v<;>rfl
 |_=>rfl
theorem fq {rd rd':Nat→aH} {a:AV} (h : ∀b∈refs a,rd b=rd' b) (sz:Nat):contents rd sz a=contents rd' sz a:=by
 cases a with
 |ms b off len s c=>
  cases c with
  |none=>simp only[contents,h b (by simp[refs])]
  |some c=>simp only[contents,h b (by simp[refs])]
 |p v=>
  cases v with
  |sc v=>cases v<;>rfl
  |_=>rfl
 |_=>rfl
theorem ux {rd rd':Nat→aH} {a:AV} (h : ∀b∈refs a,rd b=rd' b) (sz:Nat):cw rd sz a=cw rd' sz a:=by
 have hc:=fq h sz
 unfold cw
 rw[hc]
 cases contents rd' sz a with
 |some r=>rfl
 |none=>
  cases a with
  |ms b off len s c=>
   cases c with
   |none=>rfl
   |some c=>simp only[h b (by simp[refs])]
  |_=>rfl
theorem pM {rd rd':Nat→aH} {x n:AV} (h : ∀b∈refs x,rd b=rd' b) {ts:List TypeId}:ej P rd ts x n=ej P rd' ts x n:=by
 have hg:Gq rd x=Gq rd' x:=by
  cases x with
  |mp b off=>cases off with
   |zero=>simp only[Gq,h b (by simp[refs])]
   |succ _=>rfl
  |_=>rfl
 unfold ej
 simp only[hg]
theorem yj {rd rd':Nat→aH} {a:AV} (h : ∀b∈refs a,rd b=rd' b) {aO:Nat} {ρ:Operand→AV} {o:Oper} {s d:TypeId}:convertOp P rd aO ρ o s d a=convertOp P rd' aO ρ o s d a:=by
 have hc:=fun sz=>fq (a:=a) h sz
 unfold convertOp
 split<;>first
  |rfl
  |(rename_i b off len sz cap hd;have hb:=h b (by simp[refs]);simp only[hb];done)
  |(rename_i b off hd;have hb:=h b (by simp[refs]);simp only[hb];done)
  |(rename_i u b hd;have hb:=h b (by simp[refs]);simp only[hb];done)
  |simp only[hc]
theorem append_congr {rd rd':Nat→aH} {s x:AV} (h : ∀b∈refs s++refs x,rd b=rd' b) {aO:Nat} {ts:Array TypeId}:iO P rd aO ts s x=iO P rd' aO ts s x:=by
 have hc:=fun sz=>fq (a:=x) (fun b hb=>h b (U8 _ hb)) sz
 have ht : ∀tok len sz cs,s = .os tok len sz cs→oo rd aO tok=oo rd' aO tok:=by
  rintro tok len sz cs rfl
  cases tok with
  |none=>rfl
  |some t=>simp only[oo,h t (by simp[refs])]
 unfold iO
 simp only[hc]
 repeat' first | rfl | split
 all_goals first
  |rfl
  |(rw[ht _ _ _ _ rfl])
  |simp_all
theorem wk {rd rd':Nat→aH} {s x:AV} (h : ∀b∈refs s++refs x,rd b=rd' b) {aO:Nat} {ts:Array TypeId}:fk P rd aO ts s x=fk P rd' aO ts s x:=by
 have hc:=fun sz=>ux (a:=x) (fun b hb=>h b (U8 _ hb)) sz
 have hp : ∀sz,jE rd sz x=jE rd' sz x:=fun sz=>by unfold jE;rw[fq (a:=x) (fun b hb=>h b (U8 _ hb)) sz]
 cases s with
 |ms b off len sz cap=>
  have hb:=h b (by simp[refs])
  unfold fk
  simp only[hc,hp]
  cases off with
  |zero=>cases cap<;>simp only[hb]
  |succ off=>rfl
 |os tok len sz cells=>
  cases tok with
  |none=>
   unfold fk
   simp only[hc,hp]
  |some t=>
   unfold fk
   simp only[hc]
 |_=>
  unfold fk
  simp only[hc]
theorem sn {rd rd':Nat→aH} {wr:Bool} {s x:AV} (h : ∀b∈refs s++refs x,rd b=rd' b) {aO:Nat} {ts:Array TypeId} :
  (match LG s||wr with | true=>fk P rd aO ts (mY s) x | false=>iO P rd aO ts (mY s) x)=(match LG s||wr with | true=>fk P rd' aO ts (mY s) x | false=>iO P rd' aO ts (mY s) x):=by
 have hs : ∀b∈refs (mY s),b∈refs s:=by
  intro b hb
  unfold mY at hb
  split at hb
  · simp[refs] at hb
  · exact hb
 have h' : ∀b∈refs (mY s)++refs x,rd b=rd' b:=fun b hb=>h b ((pn.1 hb).elim (fun q=>U9 _ (hs b q)) fun q=>U8 _ q)
 rw[wk h',append_congr h']
theorem Dg {rd rd':Nat→aH} {d s:AV} (h : ∀b∈refs d++refs s,rd b=rd' b) {ts:Array TypeId}:rN P rd ts d s=rN P rd' ts d s:=by
 have hc:=fun sz=>fq (a:=s) (fun b hb=>h b (U8 _ hb)) sz
 have ht : ∀b off len sz cap,d = .ms b off len sz cap→rd b=rd' b:=by
  rintro b off len sz cap rfl
  exact h b (by simp[refs])
 unfold rN
 simp only[hc]
 repeat' first | rfl | split
 all_goals first
  |rfl
  |(rename_i h1 h2;rw[ht _ _ _ _ _ rfl] at h1;simp_all)
  |(rename_i h1;rw[ht _ _ _ _ _ rfl] at h1;simp_all)
  |simp_all
theorem AD {rd rd':Nat→aH} {x:AV} (h : ∀b∈refs x,rd b=rd' b) {t:TypeId} {k:AV} {ok:Bool}:lz P rd t x k ok=lz P rd' t x k ok:=by
 have hm:mapOf rd x=mapOf rd' x:=by
  cases x with
  |vm b=>simp only[mapOf,h b (by simp[refs])]
  |p v=>
   cases v with
   |sc v=>
    cases v with
    |map r=>cases r<;>rfl
    |_=>rfl
   |_=>rfl
  |_=>rfl
 have hu:rO rd x=rO rd' x:=by
  cases x with
  |vm b=>simp only[rO,h b (by simp[refs])]
  |_=>rfl
 unfold lz uH
 simp only[hm,hu]
theorem uy {rd rd':Nat→aH} {x:AV} (h : ∀b∈refs x,rd b=rd' b) {t:TypeId} {k v:AV}:gC P rd t x k v=gC P rd' t x k v:=by
 cases x with
 |vm b=>
  have hb:=h b (by simp[refs])
  cases k with
  |p u=>
   cases u with
   |sc u=>simp only[gC,hb]
   |_=>rfl
  |agg l=>
   show iD P rd t (.vm b) (.agg l) v=iD P rd' t (.vm b) (.agg l) v
   unfold iD
   generalize CQ (AV.agg l)=kk
   generalize P.underlying t=tt
   cases kk with
   |none=>rfl
   |some key=>
    cases tt with
    |none=>rfl
    |some d=>cases d<;>first
     |rfl
     |simp only[hb]
  |_=>rfl
 |_=>cases k<;>rfl
theorem wm {rd rd':Nat→aH} {x:AV} (h : ∀b∈refs x,rd b=rd' b):pg rd x=pg rd' x:=by
 cases x with
 |vm b=>simp only[pg,h b (by simp[refs])]
 |_=>rfl
theorem Dh {rd rd':Nat→aH} {x:AV} (h : ∀b∈refs x,rd b=rd' b) {t:TypeId} {k:AV} {ok:Bool}:rP P rd t x k ok=rP P rd' t x k ok:=by
 unfold rP
 rw[wm h,AD h]
theorem zc {rd rd':Nat→aH} {x:AV} (h : ∀b∈refs x,rd b=rd' b) {t:TypeId} {k v:AV}:vi P rd t x k v=vi P rd' t x k v:=by
 unfold vi
 rw[wm h,uy h]
theorem JK {rd rd':Nat→aH} {wr:Bool} {aO:Nat} {ρ ρ':Operand→AV} {o:Oper} (hq:yI o=true) (h : ∀x∈o.op.operands,ρ x=ρ' x) (hrd : ∀b∈E8 ρ o,rd b=rd' b):tG P rd wr aO ρ o=tG P rd' wr aO ρ' o:=by
 have h1:tG P rd wr aO ρ o=tG P rd' wr aO ρ o:=by
  obtain⟨dst,op,type,pos,after,guard⟩:=o
  cases op<;>try rfl
  case load t a=>simp only[tG,kS,oX (a:=ρ a) hrd]
  case store t a v=>
   simp only[tG,ql]
   have hrd : ∀b∈refs (ρ a),rd b=rd' b:=hrd
   generalize ρ a=x at hrd ⊢
   cases x with
   |mp b off=>
    cases fj P t with
    |none=>rfl
    |some n=>simp only[hrd b (by simp[refs])]
   |_=>rfl
  case convert s d x=>exact yj hrd
  case lookup t x i ok=>exact congrArg jl (Dh hrd)
  case mapUpdate t x k v=>exact zc hrd
  case insert t x k v=>exact zc hrd
  case next=>simp[yI,gk] at hq
  case call c=>
   obtain⟨callee,args,tys⟩:=c
   cases callee with
   |value _=>rfl
   |invoke _ _=>rfl
   |builtin b=>cases b<;>first
    |rfl
    |(obtain⟨args⟩:=args;rcases args with _ | ⟨x,_ | ⟨y,r⟩⟩<;>rfl)
    |(obtain⟨args⟩:=args;rcases args with _ | ⟨x,_ | ⟨y,_ | ⟨z,r⟩⟩⟩<;>first | rfl | exact sn fun b hb=>hrd b (by simpa[E8,iz] using hb) | exact Dg fun b hb=>hrd b (by simpa[E8,iz] using hb) | exact pM fun b hb=>hrd b (by simp[E8,iz,hb]))
    |simp[yI,gk] at hq
  case makeMap t r=>cases r<;>rfl
 rw[h1]
 cases SB:gk o with
 |true=>exact zb SB h
 |false=>
  simp only[yI,SB,rl] at hq
  obtain⟨dst,op,type,pos,after,guard⟩:=o
  cases op<;>simp only[rh] at hq<;>simp only[Vs] at h<;>simp only[tG]
  case box t v=>rw[h v (by simp)]
  case buildSlice t n ps=>
   have:ps.toList.map (fun q=>(q.1,ρ q.2))=ps.toList.map fun q=>(q.1,ρ' q.2):=
    a6 fun q hq=>by rw[h q.2 (by simp only[Vk,gg];exact⟨q,hq,rfl⟩)]
   rw[this]
  case makeSlice t l c=>rw[h l (by simp),h c (by simp)]
  case store t a v=>rw[h a (by simp),h v (by simp)]
  case makeMap t r=>cases r<;>rfl
  case lookup t x i ok=>rw[h x (by simp),h i (by simp)]
  case mapUpdate t x k v=>rw[h x (by simp),h k (by simp),h v (by simp)]
  case insert t x k v=>rw[h x (by simp),h k (by simp),h v (by simp)]
  case call c=>
   obtain⟨callee,args,tys⟩:=c
   cases callee with
   |value _=>simp at hq
   |invoke _ _=>simp at hq
   |builtin b=>
    simp only[Call.operands] at h
    obtain⟨args⟩:=args
    cases b<;>simp only[rh] at hq
    all_goals
     rcases args with _ | ⟨x,_ | ⟨y,_ | ⟨z,r⟩⟩⟩<;>first | rfl | simp only[h x (by simp),h y (by simp)] | simp only[h x (by simp)]
theorem AE {ρ ρ':Operand→AV} {o:Oper} (h : ∀x∈o.op.operands,ρ x=ρ' x):target ρ o=target ρ' o:=by
 obtain⟨dst,op,type,pos,after,guard⟩:=o
 cases op<;>try rfl
 case call c=>
  obtain⟨callee,args,tys⟩:=c
  cases callee with
  |value f=>
   simp only[Vs,Call.operands] at h
   have h1:ρ f=ρ' f:=h f (by simp)
   have h2:args.toList.map ρ=args.toList.map ρ':=a6 fun x hx=>h x (by simp_all)
   simp only[target,h1,h2]
  |_=>rfl
theorem iH : ∀(us:mW) (m:Mem) (b:Nat),b∉us.map (·.1)→(apply m us)[b]? = m[b]?
 |[],_,_,_=>rfl
 |(i,x)::us,m,b,h=>by
  simp only[pA,pk,not_or] at h
  simp only[apply]
  rw[iH us _ b h.2,List.getElem?_set_ne (fun e=>h.1 e.symm)]
theorem BY : ∀(us:mW) (m m':Mem) (b:Nat),m.length=m'.length→b∈us.map (·.1)→(apply m us)[b]? = (apply m' us)[b]?
 |(i,x)::us,m,m',b,hl,h=>by
  simp only[apply]
  by_cases hb:b∈us.map (·.1)
  · exact BY us _ _ b (by simp[hl]) hb
  · rw[iH us _ b hb,iH us _ b hb]
    simp only[pA,pk] at h
    have:b=i:=h.resolve_right hb
    subst this
    simp only[List.getElem?_set,hl,if_true]
abbrev gD.w (d:gD):List Nat:=d.us.map (·.1)
structure jT (ds:List gD) (base:Mem) (S:Nat→Prop) (M:Mem):Prop where
 len:M.length=base.length
 out : ∀b,(∀j d,S j→ds[j]? = some d→b∉d.w)→M[b]? = base[b]?
 last : ∀j d b,S j→ds[j]? = some d→b∈d.w→(∀k e,S k→j<k→ds[k]? = some e→b∉e.w)→M[b]? = (apply base d.us)[b]?
theorem jT.nil {ds:List gD} {base:Mem} {S:Nat→Prop} (h : ∀j,¬S j):jT ds base S base:=⟨rfl,fun _ _=>rfl,fun j _ _ hj=>absurd hj (h j)⟩
theorem jT.step {ds:List gD} {base M:Mem} {S S':Nat→Prop} {i:Nat} {d:gD} (h:jT ds base S M) (hd:ds[i]? = some d) (hS : ∀j,S' j↔S j∨j=i) (hi : ¬S i)
  (QS : ∀j e,S j→i<j→ds[j]? = some e → ∀b∈d.w,b∉e.w):jT ds base S' (apply M d.us):=by
 refine⟨by rw[dU];exact h.len,fun b hb=> ?_,fun j e b hj he xJ hl=> ?_⟩
 · rw[iH _ _ _ (hb i d ((hS i).2 (.inr rfl)) hd)]
   exact h.out b fun j e hj he=>hb j e ((hS j).2 (.inl hj)) he
 · rcases(hS j).1 hj with hj' | rfl
   · have hbd:b∉d.w:=by
      intro q
      rcases Vn j i with hlt | heq | hgt
      · exact hl i d ((hS i).2 (.inr rfl)) hlt hd q
      · subst heq;exact hi hj'
      · exact QS j e hj' hgt he b q xJ
     rw[iH _ _ _ hbd]
     exact h.last j e b hj' he xJ fun k x hk Jg hx=>hl k x ((hS k).2 (.inl hk)) Jg hx
   · rw[hd] at he;cases he
     exact BY _ _ _ _ h.len xJ
theorem Eh {p:Nat→Prop} {n:Nat} (hb : ∀k,p k→k<n) : ∀(r j:Nat),n-j=r→p j → ∃j,p j ∧ ∀k,p k → ¬j<k:=by
 intro r
 induction r using Vp with
 |ind r ih=>
  intro j hr hj
  by_cases h : ∃k,p k∧j<k
  · obtain⟨k,hk,Jg⟩:=h
    have:=hb k hk
    exact ih (n-k) (by omega) k rfl hk
  · exact⟨j,hj,fun k hk Jg=>h ⟨k,hk,Jg⟩⟩
theorem jT.agree {ds:List gD} {base M M':Mem} {S T:Nat→Prop} (h:jT ds base S M) (h':jT ds base T M') {b:Nat} (QT : ∀j d,ds[j]? = some d→b∈d.w→(S j↔T j)):M[b]? = M'[b]? :=by
 by_cases hw : ∃j d,S j∧ds[j]? = some d∧b∈d.w
 · obtain⟨j0,d0,q1,q2,q3⟩:=hw
   obtain⟨j,⟨hj,d,hd,hbd⟩,hl⟩:=Eh (p:=fun j=>S j ∧ ∃d,ds[j]? = some d∧b∈d.w) (n:=ds.length) (fun k ⟨_,d,hd,_⟩=>(fb.1 hd).1) _ j0 rfl ⟨q1,d0,q2,q3⟩
   rw[h.last j d b hj hd hbd fun k e hk Jg he xJ=>hl k ⟨hk,e,he,xJ⟩ Jg,
    h'.last j d b ((QT j d hd hbd).1 hj) hd hbd fun k e hk Jg he xJ=>hl k ⟨(QT k e he xJ).2 hk,e,he,xJ⟩ Jg]
 · rw[h.out b fun j d hj hd hbd=>hw ⟨j,d,hj,hd,hbd⟩,h'.out b fun j d hj hd hbd=>hw ⟨j,d,(QT j d hd hbd).2 hj,hd,hbd⟩]
def mP (m:Mem):List gD→Mem
 |[]=>m
 |d::r=>mP (apply m d.us) r
theorem qN (m:Mem) : ∀(ds es:List gD),mP m (ds++es)=mP (mP m ds) es
 |[],_=>rfl
 |d::ds,es=>qN (apply m d.us) ds es
theorem wo (ds:List gD) (base:Mem) : ∀i,i≤ds.length→jT ds base (· < i) (mP base (ds.take i))
 |0,_=>jT.nil fun _ h=>absurd h (Hn _)
 |i+1,h=>by
  have hi:i<ds.length:=h
  rw[List.take_succ_eq_append_getElem hi,qN]
  exact(wo ds base i (by omega)).step (d:=ds[i]) (dp hi) (fun j=>by omega) (by omega) fun j e hj hij=>absurd hj (by omega)
def lE (nx:Nat) (m:Mem):Prop:= ∀i,nx≤i→i<m.length→m[i]? = some .free
def Ql (P:Program) (E:Env) (wr:Oper→Bool) (st:St) (nx:Nat) (o:Oper) (d:gD) (jI:Nat):Prop:=
 (∃g args v m1,target (ev E st.tm) o=some (g,args)∧aG P E g (eA (idx (close st.mem 0 args)) args) (pack st.mem (close st.mem 0 args)) v m1∧(close st.mem 0 args).length≤m1.length ∧
   (∀i∈close st.mem 0 args,i<nx)∧jI=nx+(m1.length-(close st.mem 0 args).length)∧jI≤st.mem.length∧d=ou st.mem.length nx (close st.mem 0 args) v m1) ∨
 (target (ev E st.tm) o=none∧yI o=true∧tG P (fun i=>st.mem.getD i .dead) (wr o) nx (ev E st.tm) o=some (d.v,d.us,true)∧d.fp=d.w++(E8 (ev E st.tm) o++cond (makes o) [nx] []) ∧
   (∀b∈d.w,b<jI)∧jI=cond (makes o) (nx+1) nx∧jI≤st.mem.length∧d.ld=LI P (ev E st.tm) o d.v)
def BZ (P:Program) (E:Env) (wr:Oper→Bool) (ops:Array Oper) (st:St) (nx:Nat) (o:Oper) (d:gD) (jI:Nat):Prop:=
 ((dP ops st.tm o = .yes ∨ ∃s b want,dP ops st.tm o = .ask s b want∧(b==want)=true)∧Ql P E wr st nx o d jI) ∨
 ((dP ops st.tm o = .no ∨ ∃s b want,dP ops st.tm o = .ask s b want∧(b==want)=false)∧d=⟨.bk [],[],[],fun _ _=>false⟩∧jI=nx)
inductive yl (P:Program) (E:Env) (wr:Oper→Bool) (ops:Array Oper):List Oper→St→Nat→List gD→St→Nat→Prop
 |nil (st:St) (nx:Nat):yl P E wr ops [] st nx [] st nx
 |cons (o:Oper) (r:List Oper) (st:St) (nx:Nat) (d:gD) (jI:Nat) (ds:List gD) (st':St) (oS:Nat) (hf:fits st o.dst=true) (h:BZ P E wr ops st nx o d jI)
   (hr:yl P E wr ops r (put {st with mem:=apply st.mem d.us} o.dst d.v) jI ds st' oS):yl P E wr ops (o::r) st nx (d::ds) st' oS
theorem Di {t:Option AV} {r:Option (gD×Nat×Bool)} {d:gD} {nx:Nat} (h:D2 t r=some (d,nx,true)):r=some (d,nx,true):=by
 unfold D2 at h
 split at h
 · exact h
 · split at h
   · rename_i v d0 n0 ok
     simp only[dC,kz,dv] at h
     obtain⟨rfl,rfl,h1,h2⟩:=h
     have e:=l6 h2
     subst h1
     obtain⟨v0,us,fp,ld⟩:=d0
     simp only at e
     subst e
     rfl
   · cases h
theorem Fp {f bL:Nat} {O:FuncId→List AV→Mem→Option (AV×Mem)} (hO : ∀g args m v m1,O g args m=some (v,m1)→aG P E g args m v m1) {nx jI:Nat} {o:Oper} {st:St} {d:gD}
  (h:jd P E f bL O nx o st=some (d,jI,true)):Ql P E (fun o=>E.wr f (o.dst.getD 0)) st nx o d jI:=by
 have h:=Di h
 unfold ox at h
 split at h
 · rename_i g args ht
   dsimp only at h
   split at h
   · rename_i v m1 ho
     simp only[dC,kz,dv] at h
     obtain⟨rfl,rfl,h1,h2,h3⟩:=h
     exact .inl ⟨g,args,v,m1,ht,hO _ _ _ _ _ ho,gv h1,fH h2,rfl,gv h3,rfl⟩
   · cases h
 · rename_i ht
   split at h
   · rename_i v us ok hop
     simp only[dC,kz,dv] at h
     obtain⟨rfl,rfl,rfl,h1,h2,h3⟩:=h
     exact .inr ⟨ht,h1,hop,rfl,fH h2,rfl,gv h3,rfl⟩
   · cases h
theorem so {f bL:Nat} {O:FuncId→List AV→Mem→Option (AV×Mem)} (hO : ∀g args m v m1,O g args m=some (v,m1)→aG P E g args m v m1) {ops:Array Oper} : ∀{l:List Oper} {nx oS:Nat} {st st':St} {ds:List gD},
  iA P E f bL O ops l nx st=some (st',oS,ds,true)→yl P E (fun o=>E.wr f (o.dst.getD 0)) ops l st nx ds st' oS
 |[],nx,oS,st,st',ds,h=>by
  simp only[iA,dC,kz,and_true] at h
  obtain⟨rfl,rfl,rfl⟩:=h
  exact .nil st nx
 |o::r,nx,oS,st,st',ds,h=>by
  have skip:(match iA P E f bL O ops r nx (put st o.dst (.bk [])) with
   |some (st',oS,ds,ok)=>some (st',oS,(⟨.bk [],[],[],fun _ _=>false⟩:gD)::ds,fits st o.dst&&ok)
   |none=>none)=some (st',oS,ds,true)→(dP ops st.tm o = .no ∨ ∃s b want,dP ops st.tm o = .ask s b want∧(b==want)=false)→yl P E (fun o=>E.wr f (o.dst.getD 0)) ops (o::r) st nx ds st' oS:=by
   intro h hw
   split at h
   · rename_i AB jI Qs ok hq
     simp only[dC,kz,dv] at h
     obtain⟨rfl,rfl,rfl,h1,rfl⟩:=h
     exact .cons o r st nx _ nx _ _ _ h1 (.inr ⟨hw,rfl,rfl⟩) (so hO hq)
   · cases h
  have qp:(match jd P E f bL O nx o st with
   |some (d,jI,ok)=>match iA P E f bL O ops r jI (put {st with mem:=apply st.mem d.us} o.dst d.v) with
    |some (st',oS,ds,ok')=>some (st',oS,d::ds,ok&&(fits st o.dst&&ok'))
    |none=>none
   |none=>none)=some (st',oS,ds,true)→(dP ops st.tm o = .yes ∨ ∃s b want,dP ops st.tm o = .ask s b want∧(b==want)=true)→yl P E (fun o=>E.wr f (o.dst.getD 0)) ops (o::r) st nx ds st' oS:=by
   intro h hw
   split at h
   · rename_i d jI ok hop
     split at h
     · rename_i AB UI Qs ok' hq
       simp only[dC,kz,dv] at h
       obtain⟨rfl,rfl,rfl,rfl,h1,rfl⟩:=h
       exact .cons o r st nx d jI _ _ _ h1 (.inl ⟨hw,Fp hO hop⟩) (so hO hq)
     · cases h
   · cases h
  unfold iA at h
  dsimp only at h
  cases hw:dP ops st.tm o with
  |yes=>rw[hw] at h;exact qp h (.inl hw)
  |no=>rw[hw] at h;exact skip h (.inl hw)
  |lost=>rw[hw] at h;cases h
  |ask s b want=>
   rw[hw] at h
   dsimp only at h
   cases hb:b==want with
   |true=>rw[hb] at h;exact qp h (.inr ⟨s,b,want,hw,hb⟩)
   |false=>rw[hb] at h;exact skip h (.inr ⟨s,b,want,hw,hb⟩)
theorem ze {N nx:Nat} {ord:List Nat} {v:AV} {m1:Mem} {b:Nat} (h:b∈(ou N nx ord v m1).w):b∈(ou N nx ord v m1).fp:=by
 simp only[ou,gD.w,gg] at h ⊢
 obtain⟨q,hq,rfl⟩:=h
 exact(List.of_mem_zip hq).1
theorem Ql.facts {wr:Oper→Bool} {st:St} {nx jI:Nat} {o:Oper} {d:gD} (h:Ql P E wr st nx o d jI):nx≤jI∧jI≤st.mem.length∧(∀b∈d.w,b<jI) ∧ ∀b∈d.w,b∈d.fp:=by
 rcases h with⟨g,args,v,m1,_,_,h1,h2,rfl,h3,rfl⟩ | ⟨_,_,_,h1,h2,rfl,h3,_⟩
 · refine⟨by omega,h3,fun b hb=> ?_,fun b hb=>ze hb⟩
   have:=ze hb
   simp only[ou,pn,Ve] at this
   rcases this with q | q
   · have:=h2 b q;omega
   · omega
 · refine⟨by cases makes o<;>simp,h3,h2,fun b hb=> ?_⟩
   rw[h1]
   exact U9 _ hb
theorem BZ.facts {wr:Oper→Bool} {ops:Array Oper} {st:St} {nx jI:Nat} {o:Oper} {d:gD} (h:BZ P E wr ops st nx o d jI) (hn:nx≤st.mem.length):nx≤jI∧jI≤st.mem.length∧(∀b∈d.w,b<jI) ∧ ∀b∈d.w,b∈d.fp:=by
 rcases h with⟨_,h⟩ | ⟨_,rfl,rfl⟩
 · exact h.facts
 · exact⟨df _,hn,by simp,by simp⟩
theorem dc.qO {l:List Oper} {vs:List AV} {S S' T T':St} {i:Nat} (h:dc l vs S i T) (h1:S'.tm=S.tm) (h2:S'.nt=S.nt) (h3:S'.fix=S.fix) (h4:T'.tm=T.tm) (h5:T'.nt=T.nt) (h6:T'.fix=T.fix) (h7:T'.mem=S'.mem):dc l vs S' i T':=by
 obtain⟨_,q2,q3,q4,q5⟩:=h
 refine⟨h7,by rw[h5,h2];exact q2,by rw[h6,h3];exact q3,?_,?_⟩
 · intro j p v t a b c d;rw[h4];exact q4 j p v t a b c d
 · intro t ht;rw[h4,h1];exact q5 t ht
theorem tW (st:St) (m:Mem) (dst:Option Tmp) (v:AV):put {st with mem:=m} dst v={put st dst v with mem:=m}:=by cases dst<;>rfl
theorem yl.spec {wr:Oper→Bool} {ops:Array Oper} {l:List Oper} {st st':St} {nx oS:Nat} {ds:List gD} (h:yl P E wr ops l st nx ds st' oS) (hu:BV l) (hn:nx≤st.mem.length) (hfr:lE nx st.mem) :
  ds.length=l.length∧dc l (ds.map (·.v)) st l.length {st' with mem:=st.mem}∧st'.mem=mP st.mem ds∧st'.bT=st.bT ∧
    ∀(i:Nat) (o:Oper),l[i]? = some o → ∃d iL wq B0,ds[i]? = some d∧BZ P E wr ops iL wq o d B0∧fits iL o.dst=true∧dc l (ds.map (·.v)) st i {iL with mem:=st.mem}∧iL.mem=mP st.mem (ds.take i)∧lE wq iL.mem∧wq≤iL.mem.length:=by
 induction h with
 |nil st nx=>exact⟨rfl,⟨rfl,rfl,rfl,fun j _ _ _ hj=>absurd hj (Hn _),fun _ _=>rfl⟩,rfl,rfl,fun i o ho=>by simp at ho⟩
 |cons o r st nx d jI ds st' oS hf hk hr ih=>
  have CI:BV r:=fun i j p q t hij hp hq=>hu (i+1) (j+1) p q t (by omega) (by simpa using hp) (by simpa using hq)
  obtain⟨f1,f2,f3,f4⟩:=hk.facts hn
  have hm:(put {st with mem:=apply st.mem d.us} o.dst d.v).mem=apply st.mem d.us:=by rw[tW]
  have QU:lE jI (apply st.mem d.us):=by
   intro i hi hl
   rw[dU] at hl
   rw[iH _ _ _ fun q=>by have:=f3 i q;omega]
   exact hfr i (by omega) hl
  obtain⟨h1,h2,h3,h5,h4⟩:=ih CI (by rw[hm,dU];exact f2) (by rw[hm];exact QU)
  have shift : ∀{i:Nat} {T:St},dc r (ds.map (·.v)) (put {st with mem:=apply st.mem d.us} o.dst d.v) i {T with mem:=(put {st with mem:=apply st.mem d.us} o.dst d.v).mem} →
    dc (o::r) ((d::ds).map (·.v)) st (i+1) {T with mem:=st.mem}:=by
   intro i T hs
   refine dc.cons (vs:=ds.map (·.v)) (v:=d.v) hu (hs.qO (S':=put st o.dst d.v) (T':={T with mem:=st.mem}) ?_ ?_ ?_ rfl rfl rfl ?_)
   · cases o.dst<;>rfl
   · cases o.dst<;>rfl
   · cases o.dst<;>rfl
   · exact(Az st o.dst d.v).1.symm
  refine⟨by simp[h1],shift h2,by rw[h3,hm];rfl,h5.trans (by cases o.dst<;>rfl),?_⟩
  intro i p hp
  cases i with
  |zero=>
   simp only[o0,dC] at hp
   subst hp
   exact⟨d,st,nx,jI,rfl,hk,hf,⟨rfl,rfl,rfl,fun j _ _ _ hj=>absurd hj (Hn _),fun _ _=>rfl⟩,rfl,hfr,hn⟩
  |succ i=>
   obtain⟨e,iL,wq,B0,q1,q2,q3,q4,q5,q6,q7⟩:=h4 i p (by simpa using hp)
   refine⟨e,iL,wq,B0,by simpa using q1,q2,q3,shift q4,?_,q6,q7⟩
   rw[q5,hm];rfl
def JL (d e:gD):Prop:=e.us=[] ∧ ∀b∈d.w,b∈e.fp → ∃x,fU d.us b=some x∧e.ld b x=true
theorem wu : ∀{l:List Nat} {i:Nat},i∈l→has l i=true
 |j::r,i,h=>by
  simp only[has]
  cases hb:be j i with
  |true=>rfl
  |false=>
   rcases pk.1 h with e | h
   · subst e;rw[Hm] at hb;cases hb
   · exact wu h
theorem Dj {d e:gD} (h:Aa d e=true):JL d e:=by
 simp only[Aa,dv,a7] at h
 refine⟨?_,fun b hb hf=> ?_⟩
 · have h1:=h.1
   cases hu:e.us with
   |nil=>rfl
   |cons _ _=>rw[hu] at h1;cases h1
 · have:=h.2 b hb
   rw[wu hf,UU,rl] at this
   split at this
   · rename_i x hx
     exact⟨x,hx,this⟩
   · cases this
theorem wv : ∀{us:mW} {b:Nat},fU us b=none→b∉us.map (·.1)
 |[],_,_=>by simp
 |(i,x)::r,b,h=>by
  simp only[fU] at h
  split at h
  · cases h
  · rename_i hr
    cases hb:be i b with
    |true=>rw[hb] at h;cases h
    |false=>
     simp only[pA,pk,not_or]
     exact⟨fun e=>(by subst e;rw[Hm] at hb;cases hb),wv hr⟩
theorem wz : ∀{us:mW} {m:Mem} {b:Nat} {x:aH},fU us b=some x→b<m.length→(apply m us)[b]? = some x
 |(i,y)::r,m,b,x,h,hb=>by
  simp only[fU] at h
  simp only[apply]
  split at h
  · rename_i z hz
    simp only[dC] at h
    subst h
    exact wz hz (by simpa using hb)
  · rename_i hr
    cases hib:be i b with
    |false=>rw[hib] at h;cases h
    |true=>
     rw[hib] at h
     simp only[cond_true,dC] at h
     subst h
     have:=bm hib
     subst this
     rw[iH r _ _ (wv hr),List.getElem?_set_self hb]
structure Dk (L:List Nat) (ds:List gD):Prop where
 pair : ∀(i j:Nat) (d e:gD),j<i→ds[i]? = some d→ds[j]? = some e→db (L.getD i 0) j=true∨((∀b∈e.w,b∉d.fp)∧((∀b∈d.w,b∉e.fp)∨JL d e))
theorem sq {a b:List Nat} (h:meet a b=false) : ∀i∈a,i∉b:=fun _ ha hb=>mq h ha hb
theorem tX {L:List Nat} : ∀{r mS:List gD},vp L mS.length mS r=true → ∀(i j:Nat) (d e:gD),mS.length≤i→j<i→(mS++r)[i]? = some d→(mS++r)[j]? = some e →
  db (L.getD i 0) j=true∨((∀b∈e.w,b∉d.fp)∧((∀b∈d.w,b∉e.fp)∨JL d e))
 |[],mS,_,i,j,d,e,hi,_,hd,_=>by
  simp only[Vi] at hd
  rw[fg hi] at hd;cases hd
 |d0::r,mS,h,i,j,d,e,hi,hj,hd,he=>by
  simp only[vp,dv] at h
  by_cases hc:i=mS.length
  · subst hc
    have:d=d0:=by simpa using hd.symm
    subst this
    have key : ∀(l:List gD) (k:Nat),qu L mS.length d k l=true → ∀m x,l[m]? = some x→Ab L mS.length d (k+m) x=true:=by
     intro l
     induction l with
     |nil=>intro k _ m x hx;simp at hx
     |cons y l ih=>
      intro k hk m x hx
      simp only[qu,dv] at hk
      cases m with
      |zero=>simp only[o0,dC] at hx;subst hx;exact hk.1
      |succ m=>
       simp only[o6] at hx
       have:=ih (k+1) hk.2 m x hx
       rwa [iu,Vq 1 m] at this
    have he':mS[j]? = some e:=by rwa [px hj] at he
    have:=key mS 0 h.1 j e he'
    simp only[Ab,Nat.zero_add,kx,dv,ky] at this
    rcases this with q | ⟨q1,q2 | q2⟩
    · exact .inl q
    · exact .inr ⟨sq q1,.inl (sq q2)⟩
    · exact .inr ⟨sq q1,.inr (Dj q2)⟩
  · have h':vp L (mS++[d0]).length (mS++[d0]) r=true:=by simpa using h.2
    exact tX h' i j d e (by simp;omega) hj (by simpa using hd) (by simpa using he)
theorem tY {m m':Mem} : ∀(f:Nat) (ord:List Nat) (k:Nat),ord.Nodup→(∀i∈reach m f ord k,m.getD i .dead=m'.getD i .dead)→reach m' f ord k=reach m f ord k
 |0,_,_,_,_=>rfl
 |f+1,ord,k,hnd,h=>by
  simp only[reach] at h ⊢
  cases hk:ord[k]? with
  |none=>rfl
  |some i=>
   simp only[hk] at h
   dsimp only
   have C8:=(dD (yD (m.getD i .dead)) ord hnd).1
   obtain⟨t1,h1⟩:=(dD (yD (m.getD i .dead)) ord hnd).2
   obtain⟨t2,h2⟩:=(mh m f _ (k+1) C8).2
   have hi:m.getD i .dead=m'.getD i .dead:=h i (by rw[h2,h1];exact U9 _ (U9 _ (pb hk)))
   rw[←hi]
   exact tY f _ (k+1) C8 h
theorem B2 {m m':Mem} {args:List AV} (hl:m.length=m'.length) (h : ∀i∈close m 0 args,m.getD i .dead=m'.getD i .dead):close m' 0 args=close m 0 args:=by
 unfold close at h ⊢
 rw[←hl]
 exact tY _ _ _ (dD _ _ (jR 0)).1 h
theorem Dl {m m':Mem} {ord:List Nat} (h : ∀i∈ord,m.getD i .dead=m'.getD i .dead):pack m' ord=pack m ord:=by
 unfold pack
 exact a6 fun i hi=>by rw[h i hi]
theorem oY (ρ:Nat→Option Nat) : ∀(ord:List Nat) (m1 m:Mem),ord.length=m1.length→cQ ρ ord m1 m=apply m (ord.zip (m1.map (gw ρ)))
 |[],[],m,_=>by simp[cQ,apply]
 |i::ord,b::m1,m,h=>by
  simp only[cQ,pA,List.zip_cons_cons,apply]
  exact oY ρ ord m1 _ (by simpa using h)
 |[],_::_,_,h=>by simp at h
 |_::_,[],_,h=>by simp at h
theorem Rel.L6 {g g1:Gh} {m m1:Mem} {w w':World} (h:Rel g m w) {ord R:List Nat} (hnd:(ord++R).Nodup) (hlt : ∀i∈ord++R,i<m.length) (hR : ∀i∈R,m[i]? = some .free)
  (h1:Rel g1 m1 w') (hs:cr (g.pack ord) (Am.pack m ord) w g1 m1 w') (hf:bn (g.pack ord) g1 ord.length) (hl:(ord++R).length=m1.length) :
  ∃g',Rel g' (apply m ((ord++R).zip (m1.map (gw (bf (ord++R) m.length))))) w'∧Ext g w g' w'∧cr g m w g' (apply m ((ord++R).zip (m1.map (gw (bf (ord++R) m.length))))) w'∧cT (bf (ord++R) m.length) g1 g':=by
 have own : ∀c,cA (g.pack ord) (Am.pack m ord) c→cA (g.pack (ord++R)) (Am.pack m (ord++R)) c:=by
  rintro c ⟨k,b,hk,ho,hc⟩
  obtain⟨i,hi,rfl⟩:=jQ hk
  have hi':(ord++R)[k]? = some i:=by rw[px (aV hi)];exact hi
  refine⟨k,gw (idx (ord++R)) (m.getD i .dead),?_,by rw[lC] at ho ⊢;exact ho,?_⟩
  · simp only[Am.pack,fv,hi',kl]
  · simpa[Gh.pack,hi,hi'] using hc
 have hs':cr (g.pack (ord++R)) (Am.pack m (ord++R)) w g1 m1 w':=
  ⟨hs.size,fun c hc hn=>hs.keep c hc fun q=>hn (own c q),hs.pure,fun c o p=>(hs.fresh c o p).imp id fun q=>q.imp (own c) id,fun c ho=>(hs.owned c ho).imp (own c) id,hs.os,hs.tape,hs.output⟩
 have hf':bn (g.pack (ord++R)) g1 (ord++R).length:=by
  intro k c hk hc
  rcases ik k ord.length with q | q
  · have e:(ord++R)[k]? = ord[k]? :=px q
    have:=hf k c q (by simpa[Gh.pack,e] using hc)
    simpa[Gh.pack,e] using this
  · have e:(ord++R)[k]? = R[k-ord.length]? :=Va q
    simp only[Gh.pack,e] at hc
    cases hr:R[k-ord.length]? with
    |none=>rw[hr] at hc;cases hc
    |some i=>
     rw[hr] at hc
     simp only[Hc] at hc
     rw[h.free i (hR i (pb hr))] at hc;cases hc
 obtain⟨r1,r2,r3,r4⟩:=h.back hnd hlt h1 hs' hf' (by omega)
 rw[oY _ _ _ _ hl] at r1 r3
 exact⟨_,r1,r2,r3,r4⟩
theorem wA {m m':Mem} {i:Nat} (h:m[i]? = m'[i]?):m.getD i .dead=m'.getD i .dead:=by
 rw[dt,dt,h]
end
section
variable {P:Program} {E:Env}
theorem mw : ∀(ds:List gD) (m:Mem),(mP m ds).length=m.length
 |[],_=>rfl
 |d::ds,m=>by rw[mP,mw ds,dU]
structure Lm (P:Program) (E:Env) (wr:Oper→Bool) (ops:Array Oper) (m:Nat) (gq:St) (ds:List gD) (st':St):Prop where
 len:ds.length=ops.toList.length
 ends:dc ops.toList (ds.map (·.v)) gq m {st' with mem:=gq.mem}
 mem:st'.mem=mP gq.mem (ds.take m)
 each : ∀(i:Nat) (o:Oper),ops.toList[i]? = some o→i<m → ∃d iL wq B0,ds[i]? = some d∧BZ P E wr ops iL wq o d B0∧fits iL o.dst=true∧dc ops.toList (ds.map (·.v)) gq i {iL with mem:=gq.mem}∧iL.mem=mP gq.mem (ds.take i)∧lE wq iL.mem∧wq≤iL.mem.length
 UJ : ∀(i:Nat) (e:gD),m≤i→ds[i]? = some e→e.us=[]
theorem mV.Oq {ops:Array Oper} {L:List Nat} {vs:List AV} {gq dW:St} {S:Array Bool} (hI:mV ops L vs gq dW S) (hl:vs.length=ops.toList.length) {st':St} {m:Nat} (hst:dc ops.toList vs gq m st') (hall : ∀i,i<m→S.getD i false=true) (hnot : ∀i,m≤i→S.getD i false=false) :
  dW.mem=st'.mem∧dW.nt=st'.nt∧dW.fix=st'.fix ∧ ∀t,look dW.tm t=look st'.tm t:=by
 obtain⟨h1,h2,h3,hA,hB⟩:=hst
 have lt : ∀j,S.getD j false=true→j<m:=fun j hj=>by
  rcases ik j m with q | q
  · exact q
  · rw[hnot j q] at hj;cases hj
 refine⟨hI.mem.trans h1.symm,hI.nt.trans h2.symm,hI.fix.trans h3.symm,fun t=> ?_⟩
 by_cases hw : ∃(j:Nat) (p:Oper),j<m∧ops.toList[j]? = some p∧p.dst=some t
 · obtain⟨j,p,hj,hp,hd⟩:=hw
   have hjl:=(fb.1 hp).1
   have GD:vs[j]? = some vs[j]:=dp (by rw[hl];exact hjl)
   rw[hI.a j p _ t (hall j hj) hp GD hd,hA j p _ t hj hp GD hd]
 · rw[hI.b t fun k q hk hq hd=>hw ⟨k,q,lt k hk,hq,hd⟩,hB t fun k q hk hq hd=>hw ⟨k,q,hk,hq,hd⟩]
theorem JM {ops:Array Oper} {S:Array Bool} (h : ∀i,i<ops.size→S.getD i false=true) (hs:S.size=ops.size) (fuel t:Nat):Vt .any ops fuel t S []=[]:=by
 cases fuel with
 |zero=>rfl
 |succ fuel=>
  have hr:UW .any ops S=[]:=by
   cases hr:UW .any ops S with
   |nil=>rfl
   |cons x xs=>
    have hx:x∈UW .any ops S:=by rw[hr];exact .head _
    obtain⟨h1,o,ho,_⟩:=mem_ready.1 hx
    have hlt:=(U3.1 ho).1
    have:=h x hlt
    rw[lD (by omega) false true,h1] at this
    cases this
  simp only[Vt]
  show(match(UW .any ops S)[t%(UW .any ops S).length]? with
   |some i=>Vt .any ops fuel (t / (UW .any ops S).length) (S.setIfInBounds i true) [i]
   |none=>[].reverse)=[]
  rw[hr]
  rfl
theorem JN {b:Frame} {k:List Item} (cs:List Frame) {ops:Array Oper} {L:List Nat} {ds:List gD} {gq st':St} {m:Nat} {wr:Oper→Bool} (hO:uw ops L) (hL:Dk L ds) (hrun:Lm P E wr ops m gq ds st')
  (hm:m=ops.size∨(m+1=ops.size ∧ ∀j,j<m→db (L.getD m 0) j=true)) : ∀(fuel t:Nat) (S:Array Bool) (dW:St) (a:Act) (g:Gh) (w:World) (u:List Nat),
    mV ops L (ds.map (·.v)) gq {dW with mem:=gq.mem} S→jT ds gq.mem (fun j=>S.getD j false=true) dW.mem→bS E g dW a w→u.length=fuel→(∀i,i<ops.size→S.getD i false=false→i∈u)→(∀i,m≤i→S.getD i false=false) →
    ∃g' a' w',Steps P (lone (b.atR a (.inRegion ops (Vt .any ops fuel t S [])::k)) cs w) (lone (b.atR a' (.inRegion ops (Pl m (ops.size-m))::k)) cs w')∧a'.defers=a.defers∧bS E g' st' a' w' ∧
     cr g dW.mem w g' st'.mem w'∧bn g g' gq.fix ∧ ∀i c,g.aP i=some c→g'.aP i=some c:=by
 obtain⟨QV,hend,hmem,hspec,Ot⟩:=hrun
 have hl:(ds.map (·.v)).length=ops.toList.length:=by simpa using QV
 have Tp:ds.length=ops.size:=by simpa using QV
 have LN:m≤ops.size:=by omega
 have fin : ∀(S:Array Bool) (dW:St) (a:Act) (g:Gh) (w:World),mV ops L (ds.map (·.v)) gq {dW with mem:=gq.mem} S→jT ds gq.mem (fun j=>S.getD j false=true) dW.mem→bS E g dW a w →
   (∀i,i<m→S.getD i false=true)→(∀i,m≤i→S.getD i false=false)→bS E g st' a w∧dW.mem=st'.mem:=by
  intro S dW a g w hI hM hs hall hnot
  obtain⟨_,e2,e3,e4⟩:=hI.Oq hl hend hall hnot
  have hm:dW.mem=st'.mem:=by
   apply List.ext_getElem?
   intro i
   rw[hmem]
   have h2:=wo ds gq.mem m (by omega)
   refine hM.agree h2 fun j d hd _=> ?_
   refine⟨fun hS=> ?_,fun hj=>hall j hj⟩
   rcases ik j m with q | q
   · exact q
   · rw[hnot j q] at hS;cases hS
  exact⟨hs.same hm e2 e3 e4,hm⟩
 have full : ∀(S:Array Bool),(∀i,i<ops.size→S.getD i false=true)→(∀i,m≤i→S.getD i false=false)→m=ops.size:=by
  intro S h1 h2
  rcases hm with q | ⟨q,_⟩
  · exact q
  · have:=h1 m (by omega);rw[h2 m (df _)] at this;cases this
 intro fuel
 induction fuel with
 |zero=>
  intro t S dW a g w u hI hM hs L3 hu hnot
  have hall : ∀i,i<ops.size→S.getD i false=true:=by
   intro i hi
   cases hq:S.getD i false with
   |true=>rfl
   |false=>
    have:=hu i hi hq
    rw[Vf L3] at this;cases this
  have QW:=full S hall hnot
  obtain⟨h1,h2⟩:=fin S dW a g w hI hM hs (fun i hi=>hall i (by omega)) hnot
  refine⟨g,a,w,?_,rfl,h1,by rw[h2];exact cr.refl _ _ _,bn.refl _ _,fun _ _ h=>h⟩
  rw[QW,Vo,Vh]
  exact Vu _ _
 |succ fuel ih=>
  intro t S dW a g w u hI hM hs L3 hu hnot
  simp only[Vt]
  show ∃g' a' w',Steps P (lone (b.atR a (.inRegion ops (match(UW .any ops S)[t%(UW .any ops S).length]? with
   |some i=>Vt .any ops fuel (t / (UW .any ops S).length) (S.setIfInBounds i true) [i]
   |none=>[].reverse)::k)) cs w) (lone (b.atR a' (.inRegion ops (Pl m (ops.size-m))::k)) cs w')∧_
  cases hi:(UW .any ops S)[t%(UW .any ops S).length]? with
  |none=>
   have GZ:UW .any ops S=[]:=by
    cases hr:UW .any ops S with
    |nil=>rfl
    |cons x xs=>
     rw[hr] at hi
     have hlt:t%(x::xs).length<(x::xs).length:=sg _ (by simp)
     rw[dp hlt] at hi;cases hi
   have hall:=hI.all hO GZ
   have QW:=full S hall hnot
   obtain⟨h1,h2⟩:=fin S dW a g w hI hM hs (fun i hi=>hall i (by omega)) hnot
   refine⟨g,a,w,?_,rfl,h1,by rw[h2];exact cr.refl _ _ _,bn.refl _ _,fun _ _ h=>h⟩
   rw[QW,Vo,Vh]
   exact Vu _ _
  |some i=>
   have JG:=pb hi
   obtain⟨QM,o,ho,_⟩:=mem_ready.1 JG
   have ho':ops.toList[i]? = some o:=by simpa using ho
   have hilt:i<ops.size:=(U3.1 ho).1
   by_cases QX:i<m
   case neg=>
    have hme:i=m∧m+1=ops.size ∧ ∀j,j<m→db (L.getD m 0) j=true:=by
     rcases hm with q | ⟨q1,q2⟩
     · omega
     · exact⟨by omega,q1,q2⟩
    obtain⟨rfl,hsz,Ou⟩:=hme
    have hall : ∀j,j<i→S.getD j false=true:=fun j hj=>hI.ahead hO JG (Ou j hj)
    obtain⟨h1,h2⟩:=fin S dW a g w hI hM hs hall hnot
    dsimp only
    rw[linearise_go_acc,Vb,Vc,JM (fun j hj=>by
     by_cases e:i=j
     · subst e;simp[PQ,hI.size,hj]
     · rw[getD_set_ne false e];exact hall j (by omega)) (by simp[hI.size])]
    refine⟨g,a,w,?_,rfl,h1,by rw[h2];exact cr.refl _ _ _,bn.refl _ _,fun _ _ h=>h⟩
    rw[show ops.size-i=1 by omega,List.range'_one]
    exact Vu _ _
   obtain⟨d,iL,wq,B0,hd,hk,hf,Df,Tq,Ov,QY⟩:=hspec i o ho' QX
   have hv:(ds.map (·.v))[i]? = some d.v:=by rw[fv,hd];rfl
   have wj : ∀t∈slots ops o,look dW.tm t=look iL.tm t:=fun t ht=>hI.slots hO ho' JG hl Df ht
   have hid:i<ds.length:=(fb.1 hd).1
   have hni:S.getD i false=false:=by rw[lD (by rw[hI.size];exact hilt) false true];exact QM
   have G0:i∈u:=hu i hilt hni
   have CI : ∀j,j<ops.size→(S.setIfInBounds i true).getD j false=false→j∈u.erase i:=by
    intro j hj hq
    have hne:j≠i:=by
     intro e
     subst e
     rw[show(S.setIfInBounds j true).getD j false=true by simp[PQ,hI.size,hj]] at hq
     cases hq
    rw[getD_set_ne false (fun e=>hne e.symm)] at hq
    exact(Vj hne).2 (hu j hj hq)
   have Ow : ∀j,m≤j→(S.setIfInBounds i true).getD j false=false:=by
    intro j hj
    rw[getD_set_ne false (by omega)]
    exact hnot j hj
   have JH:(u.erase i).length=fuel:=by rw[Vg G0,L3];rfl
   have uo : ∀j,(S.setIfInBounds i true).getD j false=true↔S.getD j false=true∨j=i:=by
    intro j
    by_cases h:i=j
    · subst h
      simp[PQ,hI.size,hilt]
    · rw[getD_set_ne false h]
      exact⟨.inl,fun q=>q.resolve_right fun e=>h e.symm⟩
   have hwf : ∀b∈d.w,b∈d.fp:=(hk.facts QY).2.2.2
   have Tr : ∀(j:Nat) (e:gD),ds[j]? = some e → ∀b∈e.w,b∈e.fp:=by
    intro j e he
    have hj:=(fb.1 he).1
    have NP:ops.toList[j]? = some ops.toList[j]:=dp (by omega)
    by_cases QZ:j<m
    case neg=>
     intro b hb
     rw[gD.w,Ot j e (by omega) he] at hb
     cases hb
    obtain⟨e',Ts,Tt,Q0,q1,q2,_,_,_,_,q3⟩:=hspec j _ NP QZ
    rw[he] at q1;cases q1
    exact(q2.facts q3).2.2.2
   have Qd:=wo ds gq.mem i (by omega)
   rw[←Tq] at Qd
   have Tu : ∀(j:Nat) (e:gD),ds[j]? = some e → ∀b∈e.w,b<gq.mem.length:=by
    intro j e he b hb
    have hj:=(fb.1 he).1
    have NP:ops.toList[j]? = some ops.toList[j]:=dp (by omega)
    by_cases QZ:j<m
    case neg=>
     rw[gD.w,Ot j e (by omega) he] at hb
     cases hb
    obtain⟨e',Ts,Tt,Q0,q1,q2,_,_,q4,_,q3⟩:=hspec j _ NP QZ
    rw[he] at q1;cases q1
    have h1:=(q2.facts q3).2.2.1 b hb
    have h2:=(q2.facts q3).2.1
    have h3:=mw (ds.take j) gq.mem
    rw[q4,h3] at h2
    omega
   have hag : ∀b∈d.fp,dW.mem[b]? = iL.mem[b]? ∨ (d.us=[] ∧ ∃x,dW.mem[b]? = some x∧d.ld b x=true):=by
    intro b hb
    by_cases hw : ∃j e,S.getD j false=true∧i<j∧ds[j]? = some e∧b∈e.w
    · obtain⟨j0,e0,q1,q2,q3,q4⟩:=hw
      obtain⟨j,⟨hj,e,he,xJ⟩,hl⟩:=Eh (p:=fun j=>S.getD j false=true ∧ ∃d,ds[j]? = some d∧b∈d.w) (n:=ds.length) (fun k ⟨_,d,hd,_⟩=>(fb.1 hd).1) _ j0 rfl ⟨q1,e0,q3,q4⟩
      have hij:i<j:=by
       rcases ik i j with q | q
       · exact q
       · exact absurd (show j<j0 by omega) (hl j0 ⟨q1,e0,q3,q4⟩)
      have B3:=hM.last j e b hj he xJ fun k x hk Jg hx Tv=>hl k ⟨hk,x,hx,Tv⟩ Jg
      rcases hL.pair j i e d hij he hd with q | ⟨_,q | q⟩
      · have:=hI.cl j i hj q;rw[hni] at this;cases this
      · exact absurd hb (q b xJ)
      · obtain⟨x,hx,Q1⟩:=q.2 b xJ hb
        rw[wz hx (Tu j e he b xJ)] at B3
        exact .inr ⟨q.1,x,B3,Q1⟩
    · refine .inl (hM.agree Qd fun j e he xJ=> ?_)
      rcases Vn j i with hlt | heq | hgt
      · rcases hL.pair i j d e hlt hd he with q | ⟨q,_⟩
        · exact⟨fun _=>hlt,fun _=>hI.ahead hO JG q⟩
        · exact absurd hb (q b xJ)
      · subst heq
        exact⟨fun q=>(by rw[hni] at q;cases q),fun q=>absurd q (Nat.lt_irrefl _)⟩
      · exact⟨fun q=>absurd ⟨j,e,q,hgt,he,xJ⟩ hw,fun q=>by omega⟩
   have G4:dW.mem.length=iL.mem.length:=hM.len.trans Qd.len.symm
   have Tw:jT ds gq.mem (fun j=>(S.setIfInBounds i true).getD j false=true) (apply dW.mem d.us):=by
    refine hM.step hd uo (by rw[hni];exact fun q=>by cases q) fun j e hS hij he b hb xJ=> ?_
    rcases hL.pair j i e d hij he hd with q | ⟨q,_⟩
    · have:=hI.cl j i hS q;rw[hni] at this;cases this
    · exact q b hb (Tr j e he b xJ)
   have Qj:=hI.step hO ho' hv JG
   have Qk:fits dW o.dst=true:=by
    have:fits dW o.dst=fits iL o.dst:=by unfold fits;rw[show dW.nt=gq.nt from hI.nt,show iL.nt=gq.nt from Df.2.1]
    rw[this];exact hf
   have SC:dW.fix=gq.fix:=hI.fix
   have hput : ∀m:Mem,put {dW with mem:=gq.mem} o.dst d.v={put {dW with mem:=m} o.dst d.v with mem:=gq.mem}:=by
    intro m;cases o.dst<;>rfl
   have Ln : ∀m:Mem,(put {dW with mem:=m} o.dst d.v).mem=m:=by intro m;cases o.dst<;>rfl
   have Ox:dW.fix≤(apply dW.mem d.us).length:=by rw[dU];exact hs.fix
   dsimp only
   rw[linearise_go_acc,Vb,Vc]
   have Fo:=tV wj
   have BR:=BX (E:=E) wj
   obtain⟨w1,w2,w3⟩:=oF hs (ops:=ops) (o:=o)
   have go : ∀(g2:Gh) (cv:Value) (w':World),VA g2 w' d.v cv→Rel g2 (apply dW.mem d.us) w'→Ext g w g2 w'→cr g dW.mem w g2 (apply dW.mem d.us) w' →
     Steps P (lone (b.atR a (.inRegion ops (i::Vt .any ops fuel (t / (UW .any ops S).length) (S.setIfInBounds i true) [])::k)) cs w)
      (lone (b.atR (a.put o.dst cv) (.inRegion ops (Vt .any ops fuel (t / (UW .any ops S).length) (S.setIfInBounds i true) [])::k)) cs w') →
     ∃g' a' w',Steps P (lone (b.atR a (.inRegion ops (i::Vt .any ops fuel (t / (UW .any ops S).length) (S.setIfInBounds i true) [])::k)) cs w) (lone (b.atR a' (.inRegion ops (Pl m (ops.size-m))::k)) cs w')∧a'.defers=a.defers∧bS E g' st' a' w' ∧
      cr g dW.mem w g' st'.mem w'∧bn g g' gq.fix ∧ ∀i c,g.aP i=some c→g'.aP i=some c:=by
    intro g2 cv w' k2 k3 k4 k5 Tx
    have hs':=hs.put Qk k2 k4 k3 Ox
    obtain⟨g3,a3,Ty,r1,r2,r3,r4,r5,r6⟩:=ih (t / (UW .any ops S).length) (S.setIfInBounds i true) _ _ _ _ (u.erase i) (by rw[←hput];exact Qj) (by rw[Ln];exact Tw) hs' JH CI Ow
    rw[Ln] at r4
    refine⟨g3,a3,Ty,Tx.trans r1,r2.trans put_defers,r3,k5.trans r4,(bn.qJ k4 _).trans r5,fun j c q=>r6 j c (k4.aP j c q).1⟩
   rcases hk with⟨hw,L7⟩ | ⟨hw,rfl,rfl⟩
   · have iM:QR o (yielded ops a.tmps)=true:=by
      rcases hw with hw | ⟨s',b',want,hw,hb⟩
      · exact w1 (Fo.trans hw)
      · rw[(w3 s' b' want (Fo.trans hw)).1];exact hb
     rcases L7 with⟨gf,args,v,m1,ht,eY,h1,h2,h3,h4,h5⟩ | ⟨ht,L8,hop,SD,Tz,h3,h4,Q1⟩
     · have sr : ∀b∈d.fp,dW.mem[b]? = iL.mem[b]? :=fun b hb=>(hag b hb).resolve_right fun⟨_,x,_,q⟩=>by rw[h5] at q;cases q
       have JO:target (ev E dW.tm) o=some (gf,args):=(AE BR).trans ht
       have L9:d.fp=close iL.mem 0 args++Pl wq (m1.length-(close iL.mem 0 args).length):=by rw[h5];rfl
       have Q2:close dW.mem 0 args=close iL.mem 0 args:=B2 G4.symm fun j hj=>(wA (sr j (by rw[L9];exact U9 _ hj))).symm
       have Oy:pack dW.mem (close iL.mem 0 args)=pack iL.mem (close iL.mem 0 args):=Dl fun j hj=>(wA (sr j (by rw[L9];exact U9 _ hj))).symm
       obtain⟨hnd,_⟩:=eE iL.mem 0 args
       generalize close iL.mem 0 args=ord at *
       rw[←Oy] at eY
       have hR : ∀j∈Pl wq (m1.length-ord.length),dW.mem[j]? = some .free:=by
        intro j hj
        rw[sr j (by rw[L9];exact U8 _ hj)]
        rw[Ve] at hj
        exact Ov j hj.1 (by omega)
       have Q3:(ord++Pl wq (m1.length-ord.length)).Nodup:=List.nodup_append.2 ⟨hnd,List.nodup_range',fun x hx y hy e=>by
        subst e
        rw[Ve] at hy
        have:=h2 x hx;omega⟩
       have LJ : ∀j∈ord++Pl wq (m1.length-ord.length),j<dW.mem.length:=by
        intro j hj
        rcases pn.1 hj with q | q
        · have:=h2 j q;omega
        · rw[Ve] at q;omega
       obtain⟨⟨fn,JE,Dd,GY⟩,eY⟩:=eY
       unfold target at JO
       split at JO
       · rename_i call Q4
         split at JO
         · rename_i x yh
           split at JO
           · rename_i f' first captured hx
             simp only[dC,kz] at JO
             obtain⟨rfl,Ma⟩:=JO
             have x8:=fY hs x
             rw[hx,VA.fns] at x8
             obtain⟨fa,ca,x8,za,hca⟩:=x8
             have Oz:=wg (P:=P) (w:=w) Q4 yh x8 JE Dd GY
             have hargs:bN g w args (fa++call.args.map a.eval++ca).toList:=by
              rw[←Ma]
              simp only[U5,kb]
              exact(za.append (gz (fY hs) _)).append hca
             obtain⟨GQ,C9⟩:=hs.rel.pack hnd
             have mj:=cT.pack g ord
             obtain⟨w',g',cv,fr,q1,q2,q3,q4,q5,q6,q7,q8⟩:=eY (g.pack ord) w (fa++call.args.map a.eval++ca) (b.atR a (.inRegion ops (i::Vt .any ops fuel (t / (UW .any ops S).length) (S.setIfInBounds i true) [])::k)::cs) GQ
              (bN.jo mj hargs) (hs.cL.mono fun _ _ p=>⟨p,rfl⟩)
             have hlen:(Am.pack dW.mem ord).length=ord.length:=by simp[Am.pack]
             rw[hlen] at q7 q8
             obtain⟨g2,r1,r2,r3,r4⟩:=hs.rel.L6 Q3 LJ hR q5 q6 q7 (by simp;omega)
             have Ao:d.us=(ord++Pl wq (m1.length-ord.length)).zip (m1.map (gw (bf (ord++Pl wq (m1.length-ord.length)) dW.mem.length))):=by rw[h5,G4];rfl
             have TA:d.v=jo (bf (ord++Pl wq (m1.length-ord.length)) dW.mem.length) v:=by rw[h5,G4];rfl
             rw[←Ao] at r1 r3
             have hstep:=pL (b:=b) (k:=k) (cs:=cs) (rest:=Vt .any ops fuel (t / (UW .any ops S).length) (S.setIfInBounds i true) []) ho iM Oz
             have hleave:=step_leave_returned (P:=P) (c:=b.atR a (.inRegion ops (i::Vt .any ops fuel (t / (UW .any ops S).length) (S.setIfInBounds i true) [])::k)) (cs:=cs) q2
             rw[U0,ho] at hleave
             exact go g2 cv w' (by rw[TA];exact q4.jo r4) r1 r2 r3 (.head hstep (q1.trans (.one hleave)))
           · cases JO
         · cases JO
       · cases JO
     · have both:(tG P (fun j=>dW.mem.getD j .dead) (wr o) wq (ev E dW.tm) o=some (d.v,d.us,true))∧(makes o=true→dW.mem[wq]? = some .free):=by
        by_cases hsp : ∃b x,d.us=[]∧dW.mem[b]? = some x∧d.ld b x=true
        · obtain⟨b,x,Ao,hx,B4⟩:=hsp
          rw[Q1] at B4
          unfold LI at B4
          split at B4
          · rename_i t a Mb
            split at B4
            · rename_i c off Q5
              simp only[dv] at B4
              obtain⟨hcb,JB⟩:=B4
              have hcb:=bm hcb
              subst hcb
              split at JB
              · rename_i v' ok hlo
                simp only[dv] at JB
                obtain⟨rfl,Q6⟩:=JB
                have Q6:=l6 Q6
                subst Q6
                have hrd:(fun j=>dW.mem.getD j aH.dead) c=x:=by
                 show dW.mem.getD c .dead=x
                 rw[dt,hx];rfl
                have jO:kS P (fun j=>dW.mem.getD j .dead) t (.mp c off)=kS P (fun _=>x) t (.mp c off):=by
                 simp only[kS,oX (rd:=fun j=>dW.mem.getD j aH.dead) (rd':=fun _=>x) (a:= .mp c off) (fun b hb=>by
                  have:b=c:=by simpa[refs] using hb
                  subst this;exact hrd)]
                refine⟨?_,fun hm=> ?_⟩
                · have e1:ev E dW.tm a = .mp c off:=by rw[BR a (by rw[Mb];simp[Vs]),Q5]
                  simp only[tG,Mb,e1,jO,hlo,gV,kl,Ao]
                · simp[makes,Mb] at hm
              · cases JB
            · cases B4
          · cases B4
        · have sr : ∀b∈d.fp,dW.mem[b]? = iL.mem[b]? :=fun b hb=>(hag b hb).resolve_right fun⟨q0,x,q1,q2⟩=>hsp ⟨b,x,q0,q1,q2⟩
          refine⟨?_,fun hm=> ?_⟩
          · rw[←hop]
            refine(JK L8 (fun x hx=>(BR x hx).symm) fun j hj=> ?_).symm
            exact(wA (sr j (by rw[SD];exact U8 _ (U9 _ hj)))).symm
          · rw[sr wq (by rw[SD,hm];exact U8 _ (U8 _ (by simp)))]
            rw[hm] at h3
            simp only[cond_true] at h3
            exact Ov wq (df _) (by omega)
       obtain⟨Q7,hfree⟩:=both
       obtain⟨cv,w',g',k1,k2,k3,k4,k5⟩:=oC hs.rel (fY hs) (fun _=>rfl) hfree Q7
       exact go g' cv w' k2 k3 k4 k5 (.one (oD ho iM k1))
   · have iM:QR o (yielded ops a.tmps)=false:=by
      rcases hw with hw | ⟨s',b',want,hw,hb⟩
      · exact w2 (Fo.trans hw)
      · rw[(w3 s' b' want (Fo.trans hw)).1];exact hb
     refine go g undef w (VA.je.2 trivial) hs.rel (Ext.refl g w) (cr.refl _ _ _) (.one ?_)
     have hst:=stepR_op_skip (P:=P) (b:=b) (a:=a) (k:=k) (cs:=cs) (w:=w) (ops:=ops) (i:=i) (rest:=Vt .any ops fuel (t / (UW .any ops S).length) (S.setIfInBounds i true) []) (by simp[ho,iM])
     simpa only[ho,Hc] using hst
theorem tZ : ∀{m:Mem},uO m=true → ∀(i:Nat) (b:aH),m[i]? = some b→b = .free
 |[],_,i,b,h=>by simp at h
 |x::r,h,i,b,hb=>by
  cases x with
  |free=>
   cases i with
   |zero=>simpa using hb.symm
   |succ i=>exact tZ (m:=r) h i b (by simpa using hb)
  |_=>cases h
theorem Rel.trim {g:Gh} {m:Mem} {w:World} (h:Rel g m w) {n:Nat} (hf:uO (m.drop n)=true):Rel g (m.take n) w∧cr g m w g (m.take n) w:=by
 have get : ∀i b,(m.take n)[i]? = some b→m[i]? = some b:=fun i b hb=>by
  rw[dT] at hb
  split at hb
  · exact hb
  · cases hb
 refine⟨⟨fun i hi=> ?_,fun i hi=>h.free i (get i _ hi),fun i b l hi hb=>h.cells i b l (get i b hi) hb,fun i c hi hc=>h.tok i c (get i _ hi) hc,
  fun i j b b' c hi hj ho ho' hc dJ=>h.inj i j b b' c (get i b hi) (get j b' hj) ho ho' hc dJ,h.there,fun i k l hi=>h.obs i k l (get i _ hi)⟩,cr.less fun c ⟨i,b,hi,ho,hc⟩=>⟨i,b,get i b hi,ho,hc⟩⟩
 rcases ik i m.length with q | q
 · rw[fl] at hi
   have hb:(m.drop n)[i-n]? = some m[i]:=by
    rw[List.getElem?_drop,show n+(i-n)=i by omega]
    exact dp q
   have:=tZ hf _ _ hb
   exact h.free i (by rw[dp q,this])
 · exact h.rJ i q
theorem Rel.bC {g:Gh} {w:World} : ∀(n:Nat) {m:Mem},Rel g m w→Rel g (m++bC n) w∧cr g m w g (m++bC n) w
 |0,m,h=>by
  simp only[Am.bC,List.replicate_zero,Vi]
  exact⟨h,cr.refl _ _ _⟩
 |n+1,m,h=>by
  obtain⟨h1,h2⟩:=h.reserve
  obtain⟨h3,h4⟩:=Rel.bC n h1
  have e:m++Am.bC (n+1)=(m++[.free])++Am.bC n:=by simp[Am.bC,List.replicate_succ]
  rw[e]
  exact⟨h3,h2.trans h4⟩
theorem qP {x:Nat} : ∀{n:Nat},uL x n=true → ∀j,j<n→db x j=true
 |0,_,j,h=>absurd h (Hn _)
 |n+1,h,j,hj=>by
  simp only[uL,dv] at h
  rcases ik j n with q | q
  · exact qP h.2 j q
  · have:j=n:=by omega
    subst this;exact h.1
theorem AG (ops:Array Oper):gp ops≤ops.size∧(gp ops=ops.size∨(gp ops+1=ops.size ∧ ∀j,j<gp ops→db ((masks [] ops.toList).getD (gp ops) 0) j=true)):=by
 unfold gp
 cases h:rR ops with
 |false=>exact⟨df _,.inl rfl⟩
 |true=>
  simp only[cond_true]
  refine⟨by omega,?_⟩
  unfold rR at h
  simp only[dv] at h
  obtain⟨h1,h2⟩:=h
  have hp:0<ops.size:=by
   rcases Nat.eq_zero_or_pos ops.size with e | e
   · rw[show ops[ops.size-1]? = none from U4 (by omega)] at h1;cases h1
   · exact e
  exact .inr ⟨by omega,fun j hj=>qP h2 j hj⟩
theorem yl.OA {wr:Oper→Bool} {ops:Array Oper} {m:Nat} {st st':St} {nx oS:Nat} {ds:List gD} (h:yl P E wr ops (ops.toList.take m) st nx ds st' oS) (hm:m≤ops.size) (hu:BV ops.toList) (hn:nx≤st.mem.length) (hfr:lE nx st.mem) :
  Lm P E wr ops m st (ds++dq (ops.size-m) ⟨.bk [],[],[],fun _ _=>false⟩) st'∧ds.length=m∧st'.mem=mP st.mem ds∧st'.fix=st.fix:=by
 have get : ∀i,i<m→(ops.toList.take m)[i]? = ops.toList[i]? :=fun i hi=>by rw[dT,if_pos hi]
 have CI:BV (ops.toList.take m):=by
  intro i j p q t hij hp hq
  rw[dT] at hp hq
  split at hp
  · split at hq
    · exact hu i j p q t hij hp hq
    · cases hq
  · cases hp
 have hlen:(ops.toList.take m).length=m:=by simp;omega
 obtain⟨h1,h2,h3,_,h4⟩:=h.spec CI hn hfr
 rw[hlen] at h1 h2
 have slots : ∀{i:Nat} {T:St},i≤m→dc (ops.toList.take m) (ds.map (·.v)) st i T→dc ops.toList ((ds++dq (ops.size-m) (⟨.bk [],[],[],fun _ _=>false⟩:gD)).map (·.v)) st i T:=by
  intro i T hi ⟨q1,q2,q3,q4,q5⟩
  refine⟨q1,q2,q3,fun j p v t hj hp hv ht=>q4 j p v t hj (by rw[get j (by omega)];exact hp) ?_ ht,fun t ht=>q5 t fun j p hj hp=>ht j p hj ?_⟩
  · rw[List.map_append,px (by simp;omega)] at hv;exact hv
  · rw[get j (by omega)] at hp;exact hp
 refine⟨⟨by simp;omega,slots (df _) h2,?_,?_,?_⟩,h1,h3,h2.2.2.1⟩
 · rw[pw (by omega),List.take_of_length_le (by omega)];exact h3
 · intro i o ho hi
   obtain⟨d,iL,wq,B0,q1,q2,q3,q4,q5,q6,q7⟩:=h4 i o (by rw[get i hi];exact ho)
   refine⟨d,iL,wq,B0,by rw[px (by omega)];exact q1,q2,q3,slots (by omega) q4,?_,q6,q7⟩
   rw[pw (by omega)];exact q5
 · intro i e hi he
   rw[Va (by omega),Vd] at he
   split at he
   · cases he;rfl
   · cases he
theorem Dk.pad {L:List Nat} {ds:List gD} {n:Nat} (h : ∀(i j:Nat) (d e:gD),j<i→ds[i]? = some d→ds[j]? = some e→db (L.getD i 0) j=true∨((∀b∈e.w,b∉d.fp)∧((∀b∈d.w,b∉e.fp)∨JL d e))) :
  Dk L (ds++dq n ⟨.bk [],[],[],fun _ _=>false⟩):=by
 refine⟨fun i j d e hj hd he=> ?_⟩
 rcases ik i ds.length with q | q
 · exact h i j d e hj (by rw[px q] at hd;exact hd) (by rw[px (by omega)] at he;exact he)
 · rw[Va q,Vd] at hd
   split at hd
   · cases hd
     exact .inr ⟨fun b _=>by simp,.inl fun b hb=>by simp at hb⟩
   · cases hd
theorem Mc {g:Gh} {w:World} {b:Frame} {a:Act} {k:List It} {ops:Array Oper} {f bL:Nat} {O:FuncId→List AV→Mem→Option (AV×Mem)} {st st':St} (hO : ∀g args m v m1,O g args m=some (v,m1)→aG P E g args m v m1)
  (hs:bS E g st a w) (h:jJ P E f bL O ops st=some (st',true)) :
  ∀cs,∃g' a' w',Steps P (lone (b.atR a (.code (.region bL ops true)::dz k)) cs w) (lone (b.atR a' (dz (iG bL ops k))) cs w')∧a'.defers=a.defers∧bS E g' st' a' w' ∧
   cr g st.mem w g' st'.mem w'∧bn g g' st.fix∧st'.fix=st.fix ∧ ∀i c,g.aP i=some c→g'.aP i=some c:=by
 intro cs
 unfold jJ at h
 split at h
 · rename_i AB nx ds ok hq
   simp only[dC,kz,dv] at h
   obtain⟨rfl,rfl,G2,L8,hfree,Q8,L4⟩:=h
   have Q8:=gv Q8
   have hrun:=so hO hq
   obtain⟨hQ,_⟩:=uw.of G2
   obtain⟨Q9,Ra⟩:=AG ops
   have hL:Dk (masks [] ops.toList) (ds++dq (ops.size-gp ops) ⟨.bk [],[],[],fun _ _=>false⟩):=Dk.pad fun i j d e hj hd he=>tX (mS:=[]) L8 i j d e (Vr _) hj hd he
   obtain⟨L5,NQ⟩:=hs.rel.bC (60+ops.size)
   have hs1:bS E g {st with mem:=st.mem++bC (60+ops.size)} a w:=⟨hs.tm,hs.nt,L5,by simp;have:=hs.fix;omega,hs.cL⟩
   have hgd : ∀j,(U2 ops.size false).getD j false=false:=by
    intro j
    rw[PQ,U6]
    split<;>rfl
   have hfr:lE st.mem.length (st.mem++bC (60+ops.size)):=by
    intro i hi hl
    rw[Va hi]
    simp only[bC,List.length_append,List.length_replicate] at hl ⊢
    rw[Vd,if_pos (by omega)]
   have NN:st.mem.length≤(st.mem++bC (60+ops.size)).length:=by simp
   obtain⟨hspec,QV,hmem,lF⟩:=hrun.OA Q9 hQ.uniq NN hfr
   generalize hds:ds++dq (ops.size-gp ops) (⟨.bk [],[],[],fun _ _=>false⟩:gD)=SE at *
   have hI:mV ops (masks [] ops.toList) (SE.map (·.v)) {st with mem:=st.mem++bC (60+ops.size)} {st with mem:=st.mem++bC (60+ops.size)} (U2 ops.size false):=
    ⟨by simp,rfl,rfl,rfl,fun j _ _ _ hj=>(by rw[hgd] at hj;cases hj),fun _ _=>rfl,fun i _ hi=>(by rw[hgd] at hi;cases hi)⟩
   have hM:jT SE (st.mem++bC (60+ops.size)) (fun j=>(U2 ops.size false).getD j false=true) (st.mem++bC (60+ops.size)):=jT.nil fun j q=>by rw[hgd] at q;cases q
   have Je:=hs1.drew (w.drawn+1)
   obtain⟨g',a',w',r1,r2,r3,r4,r5,r6⟩:=JN (P:=P) (E:=E) (b:=b) (k:=dz k) cs hQ hL hspec Ra ops.size (w.tape w.drawn (.order b.fn bL)) (U2 ops.size false) {st with mem:=st.mem++bC (60+ops.size)} a g _ (gl ops.size) hI hM Je (by simp) (fun i hi _=>Vm.2 hi) (fun i _=>hgd i)
   obtain⟨t1,t2⟩:=r3.rel.trim hfree
   have hlen:AB.mem.length=st.mem.length+(60+ops.size):=by rw[hmem,mw];simp[bC]
   have lF:AB.fix=st.fix:=lF
   refine⟨g',a',w',?_,r2,⟨r3.tm,r3.nt,t1,?_,r3.cL⟩,?_,r5,lF,r6⟩
   · refine .head stepR_region_draw ?_
     have G3:UX (P.follows .mixedOrders) ops (w.tape w.drawn (.order b.fn bL))=Vt .any ops ops.size (w.tape w.drawn (.order b.fn bL)) (U2 ops.size false) []:=by
      simp only[UX,L4,if_true,UZ]
     rw[G3]
     unfold iG
     unfold gp at r1
     cases B3:rR ops with
     |false=>
      rw[B3] at r1
      simp only[cond_false,Vo,Vh] at r1 ⊢
      exact r1.trans (.one stepR_region_end)
     |true=>
      rw[B3] at r1
      simp only[cond_true] at r1 ⊢
      exact r1
   · have:=hs.fix
     show AB.fix≤(AB.mem.take nx).length
     rw[fl,lF]
     omega
   · have hst:cr g (st.mem++bC (60+ops.size)) w g (st.mem++bC (60+ops.size)) {w with drawn:=w.drawn+1}:=⟨df _,fun _ _ _=>rfl,fun _ _ h=>⟨h,rfl⟩,fun _ _ h=> .inl h,fun _ h=> .inl h,rfl,rfl,rfl⟩
     exact((NQ.trans hst).trans r4).trans t2
 · cases h
def uz (s t:St):Prop:=s.nt=t.nt∧s.fix=t.fix∧s.mem=t.mem ∧ ∀k,look s.tm k=look t.tm k
theorem uz.refl (s:St):uz s s:=⟨rfl,rfl,rfl,fun _=>rfl⟩
theorem zf {a b:rM} : ∀{l:List Nat},Js a b l=true → ∀k∈l,look a k=look b k
 |[],_,k,h=>by cases h
 |x::r,h,k,hk=>by
  simp only[Js,dv] at h
  rcases pk.1 hk with rfl | hk
  · exact l6 h.1
  · exact zf h.2 k hk
theorem su : ∀{a:rM} {k:Nat},k∉a.map (·.1)→look a k = .af
 |[],_,_=>rfl
 |(j,v)::r,k,h=>by
  simp only[pA,pk,not_or] at h
  simp only[look]
  cases hb:be j k with
  |true=>exact absurd (bm hb).symm h.1
  |false=>exact su h.2
theorem Fq {s t:St} (h:LH s t=true):uz s t:=by
 simp only[LH,dv] at h
 obtain⟨h1,h2,_,h3,h4⟩:=h
 refine⟨bm h1,bm h2,m8 h3,fun k=> ?_⟩
 by_cases hk:k∈s.tm.map (·.1)++t.tm.map (·.1)
 · exact zf h4 k hk
 · rw[pn,not_or] at hk
   rw[su hk.1,su hk.2]
def Has (l:List Pt) (q:Pt):Prop:= ∃p∈l,p.1=q.1∧uz q.2 p.2
theorem zg {q:Pt} : ∀{l:List Pt},Bn q l=true→Has l q
 |[],h=>by cases h
 |p::r,h=>by
  simp only[Bn,kx] at h
  rcases h with h | h
  · simp only[N7,dv] at h
    exact⟨p,.head _,(Array.toList_inj.1 (vu h.1)).symm,Fq h.2⟩
  · obtain⟨x,h1,h2⟩:=zg h
    exact⟨x,.tail _ h1,h2⟩
theorem zh {q:Pt} {l:List Pt}:Has (Bo q l) q ∧ ∀x∈l,x∈Bo q l:=by
 unfold Bo
 cases h:Bn q l with
 |true=>exact⟨zg h,fun _ hx=>hx⟩
 |false=>exact⟨⟨q,.head _,rfl,uz.refl _⟩,fun _ hx=> .tail _ hx⟩
theorem Has.mono {l l':List Pt} {q:Pt} (h:Has l q) (hl : ∀x∈l,x∈l'):Has l' q:=by
 obtain⟨p,h1,h2⟩:=h
 exact⟨p,hl p h1,h2⟩
theorem uc {f:FuncId} {ops:Array Oper} {q:Pt} : ∀{is:List Nat} {l l':List Pt},qq P E f ops q is l=some l' →
  (∀x∈l,x∈l') ∧ ∀i∈is,∃st,D1 P E f ops i q.2=some st∧Has l' (q.1.setIfInBounds i true,st)
 |[],l,l',h=>by
  simp only[qq,dC] at h
  subst h
  exact⟨fun _ hx=>hx,fun i hi=>by cases hi⟩
 |i::r,l,l',h=>by
  simp only[qq] at h
  split at h
  · rename_i st hst
    obtain⟨h1,h2⟩:=uc h
    obtain⟨k1,k2⟩:=zh (q:=(q.1.setIfInBounds i true,st)) (l:=l)
    refine⟨fun x hx=>h1 x (k2 x hx),fun j hj=> ?_⟩
    rcases pk.1 hj with rfl | hj
    · exact⟨st,hst,k1.mono h1⟩
    · exact h2 j hj
  · cases h
theorem oG {f:FuncId} {ops:Array Oper} : ∀{l acc l':List Pt},level P E f ops l acc=some l' →
  (∀x∈acc,x∈l') ∧ ∀q∈l,(UW .any ops q.1=[]→Has l' q) ∧ ∀i∈UW .any ops q.1,∃st,D1 P E f ops i q.2=some st∧Has l' (q.1.setIfInBounds i true,st)
 |[],acc,l',h=>by
  simp only[level,dC] at h
  subst h
  exact⟨fun _ hx=>hx,fun q hq=>by cases hq⟩
 |q::r,acc,l',h=>by
  simp only[level] at h
  split at h
  · rename_i hr
    obtain⟨h1,h2⟩:=oG h
    obtain⟨k1,k2⟩:=zh (q:=q) (l:=acc)
    refine⟨fun x hx=>h1 x (k2 x hx),fun p hp=> ?_⟩
    rcases pk.1 hp with rfl | hp
    · exact⟨fun _=>k1.mono h1,fun i hi=>by rw[hr] at hi;cases hi⟩
    · exact h2 p hp
  · rename_i hr
    split at h
    · rename_i l1 hn
      obtain⟨h1,h2⟩:=oG h
      obtain⟨k1,k2⟩:=uc hn
      refine⟨fun x hx=>h1 x (k1 x hx),fun p hp=> ?_⟩
      rcases pk.1 hp with rfl | hp
      · refine⟨fun e=>absurd e hr,fun i hi=> ?_⟩
        obtain⟨st,q1,q2⟩:=k2 i hi
        exact⟨st,q1,q2.mono h1⟩
      · exact h2 p hp
    · cases h
theorem uz.trans {a b c:St} (h:uz a b) (k:uz b c):uz a c:=⟨h.1.trans k.1,h.2.1.trans k.2.1,h.2.2.1.trans k.2.2.1,fun x=>(h.2.2.2 x).trans (k.2.2.2 x)⟩
theorem bS.like {g:Gh} {w:World} {st st':St} {a:Act} (h:bS E g st a w) (q:uz st st'):bS E g st' a w:=h.same q.2.2.1 q.1 q.2.1 q.2.2.2
theorem qQ {f:FuncId} {ops:Array Oper} : ∀(n:Nat) {l l':List Pt},levels P E f ops n l=some l' → ∀q∈l,UW .any ops q.1=[]→Has l' q
 |0,l,l',h,q,hq,_=>by
  simp only[levels,dC] at h
  subst h
  exact⟨q,hq,rfl,uz.refl _⟩
 |n+1,l,l',h,q,hq,hr=>by
  simp only[levels] at h
  split at h
  · rename_i l1 hl
    obtain⟨p,h1,h2,h3⟩:=(((oG hl).2 q hq).1 hr)
    obtain⟨x,k1,k2,k3⟩:=qQ n h p h1 (by rw[h2];exact hr)
    exact⟨x,k1,k2.trans h2,h3.trans k3⟩
  · cases h
theorem G5 {b:Frame} {k:List Item} {f:FuncId} {ops:Array Oper} : ∀(n:Nat) (l l':List Pt),levels P E f ops n l=some l' → ∀(q:Pt),q∈l → ∀(t:Nat) (a:Act) (g:Gh) (w:World),bS E g q.2 a w →
  ∃st'∈l'.map (·.2),∃g' a' w',(∀cs,Steps P (lone (b.atR a (.inRegion ops (Vt .any ops n t q.1 [])::k)) cs w) (lone (b.atR a' (.inRegion ops []::k)) cs w'))∧a'.defers=a.defers∧bS E g' st' a' w' ∧
   cr g q.2.mem w g' st'.mem w'∧bn g g' q.2.fix∧st'.fix=q.2.fix ∧ ∀i c,g.aP i=some c→g'.aP i=some c
 |0,l,l',h,q,hq,t,a,g,w,hs=>by
  simp only[levels,dC] at h
  subst h
  exact⟨q.2,gg.2 ⟨q,hq,rfl⟩,g,a,w,fun cs=>Vu _ _,rfl,hs,cr.refl _ _ _,bn.refl _ _,rfl,fun _ _ q=>q⟩
 |n+1,l,l',h,q,hq,t,a,g,w,hs=>by
  have h0:=h
  simp only[levels] at h
  split at h
  · rename_i l1 hl
    simp only[Vt]
    show ∃st'∈l'.map (·.2),∃g' a' w',(∀cs,Steps P (lone (b.atR a (.inRegion ops (match(UW .any ops q.1)[t%(UW .any ops q.1).length]? with
     |some i=>Vt .any ops n (t / (UW .any ops q.1).length) (q.1.setIfInBounds i true) [i]
     |none=>[].reverse)::k)) cs w) (lone (b.atR a' (.inRegion ops []::k)) cs w'))∧_
    obtain⟨_,k2⟩:=(oG hl).2 q hq
    cases hr:(UW .any ops q.1)[t%(UW .any ops q.1).length]? with
    |none=>
     have GZ:UW .any ops q.1=[]:=by
      cases hz:UW .any ops q.1 with
      |nil=>rfl
      |cons x xs=>
       rw[hz] at hr
       have hlt:t%(x::xs).length<(x::xs).length:=sg _ (by simp)
       rw[dp hlt] at hr;cases hr
     obtain⟨p,p1,p2,p3⟩:=qQ (n+1) h0 q hq GZ
     exact⟨p.2,gg.2 ⟨p,p1,rfl⟩,g,a,w,fun cs=>Vu _ _,rfl,hs.like p3,by rw[←p3.2.2.1];exact cr.refl _ _ _,bn.refl _ _,p3.2.1.symm,fun _ _ q=>q⟩
    |some i=>
     dsimp only
     rw[linearise_go_acc,Vb,Vc]
     obtain⟨st,he,p,p1,p2,p3⟩:=k2 i (pb hr)
     have p2:p.1=q.1.setIfInBounds i true:=p2
     have p3:uz st p.2:=p3
     unfold D1 at he
     split at he
     · cases he
     · rename_i o ho
       split at he
       · rename_i hw
         dsimp only at he
         split at he
         · rename_i v us ok hop
           cases hok:(ok&&fits q.2 o.dst) with
           |false=>rw[hok] at he;cases he
           |true=>
            rw[hok] at he
            simp only[cond_true,dC] at he
            subst he
            simp only[dv] at hok
            obtain⟨rfl,hf⟩:=hok
            have iM:=(oF hs (ops:=ops) (o:=o)).1 hw
            have hres:Rel g (reserve o q.2.mem) w∧cr g q.2.mem w g (reserve o q.2.mem) w:=by
             unfold reserve
             cases makes o with
             |true=>exact hs.rel.reserve
             |false=>exact⟨hs.rel,cr.refl _ _ _⟩
            have hfree:makes o=true→(reserve o q.2.mem)[q.2.mem.length]? = some .free:=by
             intro hm
             simp[reserve,hm]
            obtain⟨cv,w1,g1,k1,k2,k3,k4,k5⟩:=oC hres.1 (fY hs) (fun _=>rfl) hfree hop
            have nG:q.2.fix≤(apply (reserve o q.2.mem) us).length:=by
             rw[dU]
             have:=hs.fix
             unfold reserve
             cases makes o<;>simp<;>omega
            have hs1:=(hs.put hf k2 k4 k3 nG).like p3
            have hm:p.2.mem=apply (reserve o q.2.mem) us:=by rw[←p3.2.2.1,tW]
            have hx:p.2.fix=q.2.fix:=by rw[←p3.2.1];cases o.dst<;>rfl
            obtain⟨TB,r0,g2,a2,w2,r1,r2,r3,r4,r5,r6,r7⟩:=G5 (b:=b) (k:=k) n l1 l' h p p1 (t / (UW .any ops q.1).length) _ _ _ hs1
            rw[hm] at r4
            rw[hx] at r5 r6
            rw[p2] at r1
            exact⟨TB,r0,g2,a2,w2,fun cs=> .head (oD ho iM k1) (r1 cs),r2.trans put_defers,r3,(hres.2.trans k5).trans r4,(bn.qJ k4 _).trans r5,r6,fun i c q=>r7 i c (k4.aP i c q).1⟩
         · cases he
       · cases he
  · cases h
theorem JP {g:Gh} {w:World} {b:Frame} {a:Act} {k:List Item} {ops:Array Oper} {f bL:Nat} {st:St} {Rb:List St} (hs:bS E g st a w) (h:zZ P E f ops st=some Rb) :
  ∃st'∈Rb,∃g' a' w',(∀cs,Steps P (lone (b.atR a (.code (.region bL ops true)::k)) cs w) (lone (b.atR a' k) cs w'))∧a'.defers=a.defers∧bS E g' st' a' w' ∧
   cr g st.mem w g' st'.mem w'∧bn g g' st.fix∧st'.fix=st.fix ∧ ∀i c,g.aP i=some c→g'.aP i=some c:=by
 unfold zZ at h
 cases hc:((Gw ops||Gx P ops)&&(P.follows .mixedOrders || !Region.departs ops)) with
 |false=>rw[hc] at h;cases h
 |true=>
  rw[hc] at h
  simp only[cond_true,Option.map_eq_some_iff] at h
  simp only[dv] at hc
  obtain⟨l',h1,rfl⟩:=h
  obtain⟨st',h2,g',a',w',r1,r2,r3,r4,r5,r6,r7⟩:=G5 (b:=b) (k:=k) _ _ _ h1 (U2 ops.size false,st) (.head _) (w.tape w.drawn (.order b.fn bL)) a g _ (hs.drew (w.drawn+1))
  refine⟨st',h2,g',a',w',fun cs=> ?_,r2,r3,?_,r5,r6,r7⟩
  · refine .head stepR_region_draw ?_
    have G3:UX (P.follows .mixedOrders) ops (w.tape w.drawn (.order b.fn bL))=Vt .any ops ops.size (w.tape w.drawn (.order b.fn bL)) (U2 ops.size false) []:=by
     simp only[UX,hc.2,if_true,UZ]
    rw[G3]
    exact(r1 cs).trans (.one stepR_region_end)
  · have hst:cr g st.mem w g st.mem {w with drawn:=w.drawn+1}:=⟨df _,fun _ _ _=>rfl,fun _ _ h=>⟨h,rfl⟩,fun _ _ h=> .inl h,fun _ h=> .inl h,rfl,rfl,rfl⟩
    exact hst.trans r4
end
end Go.Am
end
