/-
The executor's steps are the machine's: calls, ends, every step.
Regions whose order is open, where no operation changes memory: in any order that may be drawn, the same is made.
Regions whose order is open, where operations call functions, and write memory: what each looks at is left alone by those that may come on either side of it, so in any order that may be drawn the same is made.
Regions whose order is open, where operations call functions, and write memory: every order that may be drawn.
-/
import Derived.Test.YtdmmllcjgjmbbaaGreatDoorMD
import Derived.Laws.Externs
import Derived.KernelRfl
import Derived.Orders
section
namespace Go.Am
open Go.RowKit
section
variable {P:Program} {E:Env} {g:Gh} {w:World}
theorem dr : ∀(us:kQ) (m:Mem),(apply m us).length=m.length
 |[],_=>rfl
 |(i,b)::us,m=>by simp[apply,dr us]
def zV (P:Program) (E:Env) (g:Gh) (c:bJ) (fr:Frame) (w:World) (l:List bJ):Prop:=
 ∀cs,∃c'∈l,∃g' fr' w',Steps P (lone fr cs w) (lone fr' cs w')∧cw P E g' c' fr' w'∧cM g c.st.mem w g' c'.st.mem w'∧bB g g' c.st.fix∧c'.f=c.f∧c'.st.fix=c.st.fix∧c'.st.bM=c.st.bM
def zW (P:Program) (E:Env) (g:Gh) (c:bJ) (fr:Frame) (w:World):Ev→Prop
 |.next c'=>dI P E g c fr w c'
 |.must b c'=>b=true→dI P E g c fr w c'
 |.test b y z=>(b=true→dI P E g c fr w y)∧(b=false→dI P E g c fr w z)
 |.call f args m ord dst c'=>(∀v m1,aC P E f args m v m1→dI P E g c fr w {c' with st:=back ord dst c'.st v m1}) ∧ ∀u m1,I4 P E f args m u m1→dI P E g c fr w (kZ ord c' u m1)
 |.late f args m ord pv c'=> ∀m1,I6 P E f args m pv m1→dI P E g c fr w {c' with st:=back ord none c'.st (.aS []) m1}
 |.round args m ord dst c'=> ∀v m1,ET P E args m v m1→dI P E g c fr w {c' with st:=back ord dst c'.st v m1}
 |.range f args m ord L c'=> ∀v m1,aC P E f args m v m1 → ∀m2 pd,eM (back ord none c'.st v m1).mem L=some (m2,pd)→dI P E g c fr w (behind c' m2 pd)
 |.draw bK ops c'=> ∀(O:FuncId→List AV→Mem→Option (AV×Mem)) (st':St),(∀g args m v m1,O g args m=some (v,m1)→aC P E g args m v m1)→iz P E c'.f bK O ops c'.st=some (st',true) →
    dI P E g c fr w {c' with st:={st' with bU:=c'.st.bU,bM:=c'.st.bM}}
 |.fork l=>zV P E g c fr w l
 |.done (.ret v m')=>fr.fn=c.f∧m'=c.st.mem ∧ ∃cv w2,I3 P c.st.bM fr w cv w2∧VA g w2 v cv∧Rel g m' w2∧cM g m' w g m' w2∧c.st.fix≤m'.length
 |.done (.vO v m')=>fr.fn=c.f∧m'=c.st.mem ∧ ∃cv,fr.leaving P w (.panicked [{v:=cv,recovered:=false}])∧VA g w v cv∧Rel g m' w∧c.st.fix≤m'.length
 |.fail=>True
theorem nf {x:It} {k:List It} (hx:It.pl x) (hk : ∀y∈k,It.pl y) : ∀y∈x::k,It.pl y:=by
 intro y hy
 cases hy with
 |head=>exact hx
 |tail _ hy=>exact hk y hy
theorem cw.mk {c:bJ} {b:Frame} {a:Act} (hnf : ∀x∈c.todo,It.pl x) (h1:b.fn=c.f) (h2:dA g c.st.bM b) (h3:Mk g c.st.bU a.defers) (h4:bS E g c.st a w):cw P E g c (b.atR a (cY c.todo)) w:=by
 unfold cw
 split
 · rename_i hk;exact absurd (hnf _ (by rw[hk];exact .head _)) id
 · rename_i hk;exact absurd (hnf _ (by rw[hk];exact .head _)) id
 · rename_i hk;exact absurd (hnf _ (by rw[hk];exact .head _)) id
 · rename_i hk;exact absurd (hnf _ (by rw[hk];exact .head _)) id
 · exact⟨b,a,rfl,h1,h2,h3,h4,hnf⟩
theorem dI.quiet {c c':bJ} {b:Frame} {a:Act} {fr:Frame} (hst : ∀cs,Steps P (lone fr cs w) (lone (b.atR a (cY c'.todo)) cs w))
  (hnf : ∀x∈c'.todo,It.pl x) (h1:b.fn=c.f) (hf:c'.f=c.f) (h2:dA g c'.st.bM b) (h3:Mk g c'.st.bU a.defers) (h4:bS E g c'.st a w) (hm:c'.st.mem=c.st.mem) (hx:c'.st.fix=c.st.fix) (hr:c'.st.bM=c.st.bM:=by rfl):dI P E g c fr w c':=by
 intro cs
 exact⟨g,_,w,hst cs,cw.mk hnf (h1.trans hf.symm) h2 h3 h4,by rw[hm];exact cM.refl _ _ _,bB.refl _ _,hf,hx,hr⟩
theorem put_defers {a:Act} {d:Option Tmp} {v:Value}:(a.put d v).defers=a.defers:=by cases d<;>rfl
theorem Re {st:St} {d:Option Tmp} {v:AV}:(Am.put st d v).bU=st.bU:=by cases d<;>rfl
theorem gT {st:St} {d:Option Tmp} {v:AV}:(Am.put st d v).bM=st.bM:=by cases d<;>rfl
theorem dA.put {g g':Gh} {w w':World} {st st':St} {b:Frame} {d:Option Tmp} {u:AV} (h:dA g st.bM b) (e:Ext g w g' w') (hm:st'.bM=st.bM):dA g' (Am.put st' d u).bM b:=by
 rw[gT,hm]
 exact h.ext fun i c q=>(e.bE i c q).1
theorem Mk.put {g g':Gh} {w w':World} {st st':St} {a:Act} {d:Option Tmp} {v:Value} {u:AV} (h:Mk g st.bU a.defers) (e:Ext g w g' w') (hm:st'.bU=st.bU):Mk g' (Am.put st' d u).bU (a.put d v).defers:=by
 rw[put_defers,Re,hm]
 exact h.ext fun i c q=>(e.bE i c q).1
theorem tv {a:Act} {o:Oper} {c:Call} {x:Operand} {f:FuncId} {fa ca:Array Value} (ho:o.op = .call c) (hc:c.callee = .value x) (hx:a.eval x = .func (.func f) fa ca)
  {fn:Func} (hf:P.funcs[f]? = some fn) (hb:fn.body.isSome=true) (hn:(fn.name == "runtime.NumGoroutine")=false) :
  (execOp a.eval o).run P w = .ok (.enter f (fa++c.args.map a.eval++ca)) w:=by
 have Wo:fn.body.isNone=false:=by cases hq:fn.body<;>simp_all
 simp only[execOp,ho,resolve,hc,hx,Deferred.ofValue,Sem.run_bind,Sem.run_pure,Result.andThen_ok,invoke,callFunc,run_program,hf,hn,Bool.false_eq_true,if_false,Wo]
theorem Df {b:Frame} {a:Act} {k:List Item} {cs:List Frame} {w':World} {ops:Array Oper} {i:Nat} {rest:List Nat} {o:Oper} {l:Nat} {f:FuncId} {tmps:Array Value} {as bd:Code} (ho:ops[i]? = some o)
  (hw:Region.wanted o (yielded ops a.tmps)=true) (hr:(execOp a.eval o).run P w = .ok (.round l f tmps as bd) w') :
  _root_.Go.step P (lone (b.atR a (.inRegion ops (i::rest)::k)) cs w) = .next (lone (Frame.round l f tmps as bd .normal) (b.atR a (.inRegion ops (i::rest)::k)::cs) w'):=by
 have hg:=stepGR_op (P:=P) (b:=b) (k:=k) (cs:=cs) (w:=w) (rest:=rest) ho hw
 exact step_lone_go (by rw[hg,semAt_eq hr fun _ e=>by cases e];simp[stepG.apply,hr,Frame.atR])
theorem wu {a:Act} {o:Oper} {c:Call} {x:Operand} {l:Nat} (ho:o.op = .call c) (hc:c.callee = .value x) (hx:a.eval x = .func (.yield l) #[] #[]) {n:Next} {w':World}
  (hy:(Instr.yield l (c.args.map a.eval)).run P w = .ok n w'):(execOp a.eval o).run P w = .ok n w':=by
 simp only[execOp,ho,resolve,hc,hx,Deferred.ofValue,Sem.run_bind,Sem.run_pure,Result.andThen_ok,invoke,callFunc,Array.empty_append]
 exact hy
theorem I7 {st:St} {a:Act} {b:Frame} {k:List Item} {ops:Array Oper} {i:Nat} {rest:List Nat} {o:Oper} {args:List AV} {v:AV} {m1:Mem}
  (hs:bS E g st a w) (hd:Mk g st.bU a.defers) (hb:dA g st.bM b) (ho:ops[i]? = some o) (hw:Region.wanted o (yielded ops a.tmps)=true) (ht:rO (ev E st.tm) o=some args)
  (hf:fits st o.dst=true) (hlt:gy (close st.mem 0 args) st.mem.length=true)
  (ej:ET P E (dO (idx (close st.mem 0 args)) args) (pack st.mem (close st.mem 0 args)) v m1) :
  ∀cs,∃g' a' w',Steps P (lone (b.atR a (.inRegion ops (i::rest)::k)) cs w) (lone (b.atR a' (.inRegion ops rest::k)) cs w') ∧
   Mk g' (back (close st.mem 0 args) o.dst st v m1).bU a'.defers∧dA g' (back (close st.mem 0 args) o.dst st v m1).bM b∧bS E g' (back (close st.mem 0 args) o.dst st v m1) a' w' ∧
   cM g st.mem w g' (back (close st.mem 0 args) o.dst st v m1).mem w'∧bB g g' st.fix∧(back (close st.mem 0 args) o.dst st v m1).fix=st.fix:=by
 intro cs
 have CP:=eS hs
 unfold rO at ht
 split at ht
 · rename_i call hop
   split at ht
   · rename_i x wv
     split at ht
     · rename_i bl hx
       simp only[Option.some.injEq] at ht
       subst ht
       have wk:=CP x
       rw[hx] at wk
       generalize hcx:a.eval x=cx at wk
       cases wk with
       |vy _ l hl=>
        have hin:bl∈close st.mem 0 (.vy bl::call.args.toList.map (ev E st.tm)):=by
         obtain⟨_,t,h2⟩:=cX (fQ (.vy bl::call.args.toList.map (ev E st.tm))) (upTo 0) (iF 0)
         obtain⟨_,t',h4⟩:=j5 st.mem (st.mem.length+1) (fU (upTo 0) (fQ (.vy bl::call.args.toList.map (ev E st.tm)))) 0 (cX _ _ (iF 0)).1
         unfold close
         rw[h4]
         refine List.mem_append_left _ ?_
         show bl∈fU [] (bl::fQ (call.args.toList.map (ev E st.tm)))
         simp only[fU,has,cond_false,List.nil_append]
         obtain⟨_,t2,h5⟩:=cX (fQ (call.args.toList.map (ev E st.tm))) [bl] (by simp)
         rw[h5]
         exact List.mem_append_left _ (by simp)
        have hargs:cj g w (call.args.toList.map (ev E st.tm)) (call.args.map a.eval).toList:=by
         rw[Array.toList_map];exact fk CP _
        generalize hxs:call.args.toList.map (ev E st.tm)=xs at *
        obtain⟨hnd,_⟩:=dR st.mem 0 (.vy bl::xs)
        generalize close st.mem 0 (.vy bl::xs)=ord at *
        obtain⟨I2,ER⟩:=hs.rel.pack hnd
        have j6:=cJ.pack g ord
        obtain⟨j,hj1,hj2⟩:=List.getElem_of_mem hin
        have V4:ord[j]? = some bl:=by rw[List.getElem?_eq_getElem hj1,hj2]
        have hidx:idx ord bl=some j:=nu hnd V4
        have hra:dO (idx ord) (.vy bl::xs) = .vy j::dO (idx ord) xs:=by simp only[dO,Am.fV,hidx]
        have hbj:(g.pack ord).bE j=some l:=by simp[Gh.pack,V4,hl]
        obtain⟨f,tmps,as,bd,w',g',cv,y,q1,q4,q5,q6,q7,q8⟩:=ej (g.pack ord) w j l (dO (idx ord) xs) (call.args.map a.eval) (b.atR a (.inRegion ops (i::rest)::k)) cs hra I2 hbj
         (cj.fV j6 hargs) (hs.dj.mono fun _ _ p=>⟨p,rfl⟩)
        have hlen:(Am.pack st.mem ord).length=ord.length:=by simp[Am.pack]
        rw[hlen] at q7 q8
        obtain⟨r1,r2,r3,r4⟩:=hs.rel.back hnd (eF hlt) q5 q6 q7 q8
        have hstep:=Df (b:=b) (k:=k) (cs:=cs) (rest:=rest) ho hw (wu hop wv hcx y)
        have lK:(b.atR a (.inRegion ops (i::rest)::k)).finish cv=b.atR (a.put o.dst cv) (.inRegion ops rest::k):=by rw[Frame.finish_atR,ho];rfl
        rw[lK] at q1
        have kE:st.fix≤(cr (bp ord st.mem.length) ord m1 st.mem).length:=by
         rw[dg _ _ _ _ q8];have:=hs.fix;omega
        refine⟨_,a.put o.dst cv,w',.head hstep q1,hd.put (st':={st with mem:=_}) r2 rfl,hb.put (st':={st with mem:=_}) r2 rfl,hs.put hf (q4.fV r4) r2 r1 kE,?_,bB.ou r2 _,?_⟩
        · have:(back ord o.dst st v m1).mem=cr (bp ord st.mem.length) ord m1 st.mem:=by
           unfold back Am.put;cases o.dst<;>rfl
          rw[this];exact r3
        · unfold back Am.put;cases o.dst<;>rfl
     · cases ht
   · cases ht
 · cases ht
theorem Gs {f:FuncId} (h:EA P f=true) (x:Value):(callFunc f #[x]).run P w = .ok (.value x) w:=by
 unfold EA at h
 split at h
 · rename_i fn hf
   simp only[Bool.and_eq_true] at h
   obtain⟨h1,h2,h3⟩:=h
   have h2:=of_decide_eq_true h2
   have h3:=of_decide_eq_true h3
   have hn:(fn.name == "runtime.NumGoroutine")=false:=by rw[h2];decide
   have q1:Extern.findNext fn=none:=by
    simp only[Extern.findNext,h2,h3]
    kernel_rfl
   have q2:Extern.find fn=some Extern.AbiNoEscape.same:=by
    simp only[Extern.find,h2,h3]
    kernel_rfl
   rw[run_callFunc_extern hf hn h1 q1 q2]
   rfl
 · cases h
theorem Bt {ρ:Operand→AV} {bL:Operand→Value} (hr : ∀x,VA g w (ρ x) (bL x)) {o:Oper} {v:AV} (h:IA P ρ o=some v) : ∃cv,(execOp bL o).run P w = .ok (.value cv) w∧VA g w v cv:=by
 unfold IA at h
 split at h
 · rename_i c ho
   split at h
   · rename_i f x hc ha
     have jC:c.args = #[x]:=by have:=congrArg List.toArray ha;simpa using this
     split at h
     · rename_i q hq
       cases he:EA P q with
       |false=>rw[he] at h;cases h
       |true=>
        rw[he] at h
        simp only[cond_true,Option.some.injEq] at h
        subst h
        have hf:=hr f
        rw[hq,VA.fns] at hf
        obtain⟨fa,ca,ZF,q1,q2⟩:=hf
        have e1:fa = #[]:=by cases fa with | mk l=>cases l with | nil=>rfl | cons _ _=>exact q1.elim
        have e2:ca = #[]:=by cases ca with | mk l=>cases l with | nil=>rfl | cons _ _=>exact q2.elim
        subst e1;subst e2
        refine⟨bL x,?_,hr x⟩
        simp only[execOp,ho,resolve,hc,ZF,jC,Deferred.ofValue,Sem.run_bind,Sem.run_pure,Result.andThen_ok,invoke,List.map_toArray,List.map_cons,List.map_nil,Array.append_empty,Array.empty_append]
        exact Gs he _
     · cases h
   · cases h
 · cases h
theorem Bu {v:AV} {cv:Value} (h:wR v=true) (hv:VA g w v cv) : ∃t x,cv = .iface t x:=by
 cases hv with
 |iR t v cv h=>exact⟨t,cv,rfl⟩
 |p v cv h'=>cases h' with
  |iR t v cv h=>exact⟨t,cv,rfl⟩
  |_=>cases h
 |_=>cases h
theorem Dg {b:Frame} {a:Act} {k:List Item} {cs:List Frame} {ops:Array Oper} {i:Nat} {rest:List Nat} {o:Oper} {v:Value} (ho:ops[i]? = some o) (hw:Region.wanted o (yielded ops a.tmps)=true)
  (hr:(o.semAt b.roundOf a.eval).run P w = .halt (.panic v) w) :
  _root_.Go.step P (lone (b.atR a (.inRegion ops (i::rest)::k)) cs w) = .next (lone {b.atR a (.inRegion ops (i::rest)::k) with mode:=cg (some v) false} cs w):=by
 have hg:=stepGR_op (P:=P) (b:=b) (k:=k) (cs:=cs) (w:=w) (rest:=rest) ho hw
 refine step_lone_go ?_
 rw[hg]
 simp[stepG.apply,hr,Frame.raise,Frame.atR,cg]
theorem lM : ∀{l:List AV} {q:List (Nat×Nat)} {cs:List Value},wQ l=some q→cj g w l cs→Zj g q cs
 |[],q,[],h,_=>by
  simp only[wQ,Option.some.injEq] at h;subst h;trivial
 |.mp b off::l,q,cv::cs,h,hv=>by
  simp only[wQ] at h
  split at h
  · rename_i l' hl
    simp only[Option.some.injEq] at h;subst h
    have h1:=hv.1
    cases h1 with
    |mp _ _ c hc=>exact⟨⟨c,hc,rfl⟩,lM hl hv.2⟩
  · cases h
 |[],_,_::_,_,hv=>hv.elim
 |_::_,_,[],_,hv=>hv.elim
 |.an::_,_,_::_,h,_ | .p _::_,_,_::_,h,_ | .os .. :: _,_,_::_,h,_ | .ms .. :: _,_,_::_,h,_ | .fn .. :: _,_,_::_,h,_ | .agg _::_,_,_::_,h,_ | .aS _::_,_,_::_,h,_
 |.iR .. :: _,_,_::_,h,_ | .vm _::_,_,_::_,h,_ | .vy _::_,_,_::_,h,_=>by cases h
theorem I8 {c:bJ} {b:Frame} {a:Act} {k0:List It} {ops:Array Oper} {i bK:Nat} {o:Oper} (hs:bS E g c.st a w) (tw:b.fn=c.f) (hbk:dA g c.st.bM b) (hd:Mk g c.st.bU a.defers)
  (ho:ops[i]? = some o) (hw:Region.wanted o (yielded ops a.tmps)=true) (Rf : ∀x∈k0,It.pl x) :
  zW P E g c (b.atR a (.inRegion ops (i::List.range' (i+1) (ops.size-(i+1)))::cY k0)) w (IB E c o (.ops bK ops (i+1) false::k0)):=by
 have CP:=eS hs
 have throw : ∀(x:Operand),wR (ev E c.st.tm x)=true→(∀v,a.eval x=v→(∃t y,v = .iface t y)→(o.semAt b.roundOf a.eval).run P w = .halt (.panic v) w) →
   dI P E g c (b.atR a (.inRegion ops (i::List.range' (i+1) (ops.size-(i+1)))::cY k0)) w {c with todo:=[.fH (ev E c.st.tm x)]}:=by
  intro x hx hrun cs
  have hr:=hrun _ rfl (Bu hx (CP x))
  exact⟨g,_,w,.one (Dg ho hw hr),⟨b,a,_,a.eval x,rfl,tw,hbk,hd,hs,CP x⟩,cM.refl _ _ _,bB.refl _ _,rfl,rfl,rfl⟩
 unfold IB
 split
 · rename_i x hop
   cases hx:wR (ev E c.st.tm x) with
   |false=>trivial
   |true=>
    refine throw x hx fun v hv ⟨t,y,e⟩=> ?_
    have Rg:o.semAt b.roundOf a.eval=execOp a.eval o:=by unfold Oper.semAt;rw[hop];cases b.roundOf<;>rfl
    rw[Rg]
    subst hv
    simp only[execOp,hop,e,Instr.panic]
    rfl
 · rename_i d hop
   split
   · rename_i x hc ha
     have jC:d.args = #[x]:=by have:=congrArg List.toArray ha;simpa using this
     cases hx:wR (ev E c.st.tm x) with
     |false=>trivial
     |true=>
      refine throw x hx fun v hv ⟨t,y,e⟩=> ?_
      have Rg:o.semAt b.roundOf a.eval=execOp a.eval o:=by unfold Oper.semAt;rw[hop];cases b.roundOf<;>rfl
      rw[Rg]
      subst hv
      simp only[execOp,hop,resolve,hc,jC,Sem.run_bind,Sem.run_pure,Result.andThen_ok,invoke,List.map_toArray,List.map_cons,List.map_nil,e]
      rfl
   · trivial
 · rename_i d hop
   split
   · trivial
   · rename_i f hmk wv tA
     split
     · rename_i gf first captured hf
       split
       · rename_i l m hl hm
         intro hfit cs
         have hvf:=CP f
         rw[hf,VA.fns] at hvf
         obtain⟨fa,ca,ZF,Rh,hca⟩:=hvf
         have hro:=hbk.zU fun i e=>tA i e
         have hrun:(o.semAt b.roundOf a.eval).run P w = .ok (.defer {target:= .fn (.func gf) ca,args:=fa++d.args.map a.eval}) w:=by
          rw[hro]
          simp only[Oper.semAt,execOp,hop,resolve,wv,ZF,Deferred.ofValue,Sem.run_bind,Sem.run_pure,Result.andThen_ok]
         have hargs:cj g w (first++d.args.toList.map (ev E c.st.tm)) (fa++d.args.map a.eval).toList:=by
          simp only[Array.toList_append,Array.toList_map]
          exact Rh.append (fk CP _)
         rw[hmk] at hd
         have hds:a.defers=[]:=by
          cases hq:a.defers with
          |nil=>rfl
          |cons _ _=>rw[hq] at hd;exact hd.elim
         have hstep:_root_.Go.step P (lone (b.atR a (.inRegion ops (i::List.range' (i+1) (ops.size-(i+1)))::cY k0)) cs w) =
          .next (lone (b.atR ({a with defers:=[{target:= .fn (.func gf) ca,args:=fa++d.args.map a.eval}]}.put o.dst undef) (.inRegion ops (List.range' (i+1) (ops.size-(i+1)))::cY k0)) cs w):=by
          have hg:=stepGR_op (P:=P) (b:=b) (k:=cY k0) (cs:=cs) (w:=w) (rest:=List.range' (i+1) (ops.size-(i+1))) ho hw
          have lK:({b.atR a (.inRegion ops (i::List.range' (i+1) (ops.size-(i+1)))::cY k0) with defers:={target:= .fn (.func gf) ca,args:=fa++d.args.map a.eval}::a.defers}:Frame).finish undef =
           b.atR ({a with defers:=[{target:= .fn (.func gf) ca,args:=fa++d.args.map a.eval}]}.put o.dst undef) (.inRegion ops (List.range' (i+1) (ops.size-(i+1)))::cY k0):=by
           have:=Frame.finish_atR b {a with defers:=[{target:= .fn (.func gf) ca,args:=fa++d.args.map a.eval}]} ops i (List.range' (i+1) (ops.size-(i+1))) (cY k0) undef
           rw[ho] at this
           rw[hds]
           exact this
          refine step_lone_go ?_
          rw[hg]
          simp only[stepG.apply,Sem.runT_eq,hrun,GStep.bare_after]
          exact congrArg (fun fr=>GStep.go {frame:=fr,callers:=cs,status:= .running,dying:=none} w) lK
         have hs':bS E g {c.st with bU:=[.late gf l m]} {a with defers:=[{target:= .fn (.func gf) ca,args:=fa++d.args.map a.eval}]} w:=⟨hs.tm,hs.nt,hs.rel,hs.fix,hs.dj⟩
         have hd':Mk g [.late gf l m] [{target:= .fn (.func gf) ca,args:=fa++d.args.map a.eval}]:=⟨⟨_,_,lM hl hargs,lM hm hca,rfl⟩,trivial⟩
         refine⟨g,_,w,.one hstep,cw.mk (c:={c with todo:= .ops bK ops (i+1) false::k0,st:=put {c.st with bU:=[.late gf l m]} o.dst (.aS [])}) (nf trivial Rf) tw
          (hbk.put (st:=c.st) (st':={c.st with bU:=[.late gf l m]}) (Ext.refl g w) rfl)
          (Mk.put (st:={c.st with bU:=[.late gf l m]}) (st':={c.st with bU:=[.late gf l m]}) (a:={a with defers:=[{target:= .fn (.func gf) ca,args:=fa++d.args.map a.eval}]}) hd' (Ext.refl g w) rfl)
          (hs'.put (cv:=undef) (v:= .aS []) (m':=c.st.mem) hfit (VA.iA.2 trivial) (Ext.refl g w) hs.rel hs.fix),?_,bB.refl _ _,rfl,?_,gT⟩
         · have:(put {c.st with bU:=[.late gf l m]} o.dst (.aS [])).mem=c.st.mem:=by unfold Am.put;cases o.dst<;>rfl
           show cM g c.st.mem w g (put {c.st with bU:=[.late gf l m]} o.dst (.aS [])).mem w
           rw[this];exact cM.refl _ _ _
         · show(put {c.st with bU:=[.late gf l m]} o.dst (.aS [])).fix=c.st.fix
           unfold Am.put;cases o.dst<;>rfl
       · trivial
     · trivial
   · trivial
 · trivial
theorem EU {c:bJ} {b:Frame} {a:Act} {k0:List It} {ops:Array Oper} {i bK:Nat} {o:Oper} (hs:bS E g c.st a w) (tw:b.fn=c.f) (hbk:dA g c.st.bM b) (hd:Mk g c.st.bU a.defers)
  (ho:ops[i]? = some o) (hw:Region.wanted o (yielded ops a.tmps)=true) (Rf : ∀x∈k0,It.pl x) :
  zW P E g c (b.atR a (.inRegion ops (List.range' i (ops.size-i))::cY k0)) w (IC P E c bK o (.ops bK ops (i+1) false::k0)):=by
 have hi:i<ops.size:=by
  rcases Nat.lt_or_ge i ops.size with q | q
  · exact q
  · rw[Array.getElem?_eq_none q] at ho;cases ho
 rw[lJ hi]
 unfold IC
 have CP:=eS hs
 split
 · rename_i f args ht
   split
   · rename_i v ZG
     intro hok cs
     obtain⟨cv,k1,k2⟩:=Bt CP ZG
     have hstep:=ox (b:=b) (k:=cY k0) (cs:=cs) (rest:=List.range' (i+1) (ops.size-(i+1))) ho hw (.inl k1)
     refine⟨g,_,w,.one hstep,cw.mk (a:=a.put o.dst cv) (c:={c with todo:= .ops bK ops (i+1) false::k0,st:=put {c.st with mem:=c.st.mem} o.dst v}) (nf trivial Rf) tw (hbk.put (st':={c.st with mem:=_}) (Ext.refl g w) rfl) (hd.put (st':={c.st with mem:=_}) (Ext.refl g w) rfl) (hs.put hok k2 (Ext.refl g w) hs.rel hs.fix),?_,bB.refl _ _,rfl,?_,gT⟩
     · have:(put c.st o.dst v).mem=c.st.mem:=(by unfold Am.put;cases o.dst<;>rfl)
       show cM g c.st.mem w g (put c.st o.dst v).mem w
       rw[this];exact cM.refl _ _ _
     · show(put c.st o.dst v).fix=c.st.fix
       unfold Am.put;cases o.dst<;>rfl
   cases hb:(fits c.st o.dst&&gy (close c.st.mem 0 args) c.st.mem.length) with
   |false=>simp only[hb,cond_false];trivial
   |true=>
    simp only[hb,cond_true]
    simp only[Bool.and_eq_true] at hb
    unfold target at ht
    split at ht
    · rename_i call hop
      split at ht
      · rename_i x wv
        split at ht
        · rename_i f' first captured hx
          simp only[Option.some.injEq,Prod.mk.injEq] at ht
          obtain⟨rfl,rfl⟩:=ht
          have wk:=CP x
          rw[hx,VA.fns] at wk
          obtain⟨fa,ca,wk,Rh,hca⟩:=wk
          have hargs:cj g w (first++call.args.toList.map (ev E c.st.tm)++captured) (fa++call.args.map a.eval++ca).toList:=by
           simp only[Array.toList_append,Array.toList_map]
           exact(Rh.append (fk CP _)).append hca
          generalize first++call.args.toList.map (ev E c.st.tm)++captured=args at *
          obtain⟨hnd,_⟩:=dR c.st.mem 0 args
          generalize close c.st.mem 0 args=ord at *
          obtain⟨I2,ER⟩:=hs.rel.pack hnd
          have j6:=cJ.pack g ord
          have hlen:(Am.pack c.st.mem ord).length=ord.length:=by simp[Am.pack]
          constructor
          · intro v m1 ej cs
            obtain⟨⟨fn,Nw,Nx,Ny⟩,ej⟩:=ej
            have hrun:=tv (P:=P) (w:=w) hop wv wk Nw Nx Ny
            obtain⟨w',g',cv,fr,q1,q2,q3,q4,q5,q6,q7,q8⟩:=ej (g.pack ord) w (fa++call.args.map a.eval++ca) (b.atR a (.inRegion ops (i::List.range' (i+1) (ops.size-(i+1)))::cY k0)::cs) I2
             (cj.fV j6 hargs) (hs.dj.mono fun _ _ p=>⟨p,rfl⟩)
            rw[hlen] at q7 q8
            obtain⟨r1,r2,r3,r4⟩:=hs.rel.back hnd (eF hb.2) q5 q6 q7 q8
            have hstep:=nv (b:=b) (k:=cY k0) (cs:=cs) (rest:=List.range' (i+1) (ops.size-(i+1))) ho hw hrun
            have hleave:=step_leave_returned (P:=P) (c:=b.atR a (.inRegion ops (i::List.range' (i+1) (ops.size-(i+1)))::cY k0)) (cs:=cs) q2
            have lK:(b.atR a (.inRegion ops (i::List.range' (i+1) (ops.size-(i+1)))::cY k0)).finish cv=b.atR (a.put o.dst cv) (.inRegion ops (List.range' (i+1) (ops.size-(i+1)))::cY k0):=by
             rw[Frame.finish_atR,ho];rfl
            rw[lK] at hleave
            have kE:c.st.fix≤(cr (bp ord c.st.mem.length) ord m1 c.st.mem).length:=by
             rw[dg _ _ _ _ q8];have:=hs.fix;omega
            refine⟨_,_,w',.head hstep (q1.trans (.one hleave)),cw.mk (a:=a.put o.dst cv) (c:={c with todo:= .ops bK ops (i+1) false::k0,st:=back ord o.dst c.st v m1}) (nf trivial Rf) tw (hbk.put (st':={c.st with mem:=_}) r2 rfl) (hd.put (st':={c.st with mem:=_}) r2 rfl) (hs.put hb.1 (q4.fV r4) r2 r1 kE),?_,bB.ou r2 _,rfl,?_,gT⟩
            · have:(back ord o.dst c.st v m1).mem=cr (bp ord c.st.mem.length) ord m1 c.st.mem:=by
               unfold back Am.put;cases o.dst<;>rfl
              show cM g c.st.mem w _ (back ord o.dst c.st v m1).mem w'
              rw[this];exact r3
            · show(back ord o.dst c.st v m1).fix=c.st.fix
              unfold back Am.put;cases o.dst<;>rfl
          · intro u m1 ej cs
            obtain⟨⟨fn,Nw,Nx,Ny⟩,ej⟩:=ej
            have hrun:=tv (P:=P) (w:=w) hop wv wk Nw Nx Ny
            obtain⟨w',g',cv,fr,q1,q2,q3,q4,q5,q6,q7,q8⟩:=ej (g.pack ord) w (fa++call.args.map a.eval++ca) (b.atR a (.inRegion ops (i::List.range' (i+1) (ops.size-(i+1)))::cY k0)::cs) I2
             (cj.fV j6 hargs) (hs.dj.mono fun _ _ p=>⟨p,rfl⟩)
            rw[hlen] at q7 q8
            obtain⟨r1,r2,r3,r4⟩:=hs.rel.back hnd (eF hb.2) q5 q6 q7 q8
            have hstep:=nv (b:=b) (k:=cY k0) (cs:=cs) (rest:=List.range' (i+1) (ops.size-(i+1))) ho hw hrun
            have hleave:=step_leave_panicked (P:=P) (c:=b.atR a (.inRegion ops (i::List.range' (i+1) (ops.size-(i+1)))::cY k0)) (cs:=cs) q2
            have kE:c.st.fix≤(cr (bp ord c.st.mem.length) ord m1 c.st.mem).length:=by
             rw[dg _ _ _ _ q8];have:=hs.fix;omega
            refine⟨_,_,w',.head hstep (q1.trans (.one hleave)),⟨b,a,_,cv,rfl,tw,hbk.ext fun i c q=>(r2.bE i c q).1,hd.ext fun i c q=>(r2.bE i c q).1,⟨fun k=>(hs.tm k).mono r2,hs.nt,r1,kE,hs.dj.mono r2.pure⟩,q4.fV r4⟩,r3,bB.ou r2 _,rfl,rfl,rfl⟩
        · cases ht
      · cases ht
    · cases ht
 · dsimp only
   split
   · rename_i args ht
     cases hb:(fits c.st o.dst&&gy (close c.st.mem 0 args) c.st.mem.length) with
     |false=>trivial
     |true=>
      simp only[cond_true]
      simp only[Bool.and_eq_true] at hb
      intro v m1 ej cs
      obtain⟨g',a',w',r1,r2,r3,r4,r5,r6,r7⟩:=I7 (P:=P) (k:=cY k0) (rest:=List.range' (i+1) (ops.size-(i+1))) hs hd hbk ho hw ht hb.1 hb.2 ej cs
      exact⟨g',_,w',r1,cw.mk (a:=a') (c:={c with todo:= .ops bK ops (i+1) false::k0,st:=back (close c.st.mem 0 args) o.dst c.st v m1}) (nf trivial Rf) tw r3 r2 r4,r5,r6,rfl,r7,gT⟩
   · split
     · rename_i v us ok he
       intro hok cs
       simp only[Bool.and_eq_true] at hok
       obtain⟨rfl,hfit⟩:=hok
       have hres:Rel g (reserve o c.st.mem) w∧cM g c.st.mem w g (reserve o c.st.mem) w:=by
        unfold reserve
        cases makes o with
        |true=>exact hs.rel.reserve
        |false=>exact⟨hs.rel,cM.refl _ _ _⟩
       have hfree:makes o=true→(reserve o c.st.mem)[c.st.mem.length]? = some .free:=by
        intro hm
        simp[reserve,hm]
       obtain⟨cv,w',g',k1,k2,k3,k4,k5⟩:=mG hres.1 CP (fun _=>rfl) hfree he
       have hstep:=ox (b:=b) (k:=cY k0) (cs:=cs) (rest:=List.range' (i+1) (ops.size-(i+1))) ho hw k1
       have kE:c.st.fix≤(apply (reserve o c.st.mem) us).length:=by
        rw[dr]
        have:=hs.fix
        unfold reserve
        cases makes o<;>simp<;>omega
       refine⟨g',_,w',.one hstep,cw.mk (a:=a.put o.dst cv) (c:={c with todo:= .ops bK ops (i+1) false::k0,st:=put {c.st with mem:=apply (reserve o c.st.mem) us} o.dst v}) (nf trivial Rf) tw (hbk.put (st':={c.st with mem:=_}) k4 rfl) (hd.put (st':={c.st with mem:=_}) k4 rfl) (hs.put hfit k2 k4 k3 kE),?_,bB.ou k4 _,rfl,?_,gT⟩
       · have:(put {c.st with mem:=apply (reserve o c.st.mem) us} o.dst v).mem=apply (reserve o c.st.mem) us:=by unfold Am.put;cases o.dst<;>rfl
         show cM g c.st.mem w _ (put {c.st with mem:=apply (reserve o c.st.mem) us} o.dst v).mem w'
         rw[this];exact hres.2.trans k5
       · show(put {c.st with mem:=apply (reserve o c.st.mem) us} o.dst v).fix=c.st.fix
         unfold Am.put;cases o.dst<;>rfl
     · exact I8 hs tw hbk hd ho hw Rf
end
end Go.Am
end
section
namespace Go.Am
section
variable {P:Program} {E:Env}
theorem qE {ρ ρ':Operand→AV} : ∀{l:List Operand},(∀x∈l,ρ x=ρ' x)→ql ρ l=ql ρ' l
 |[],_=>rfl
 |x::r,h=>by simp only[ql,h x (.head _),qE fun y hy=>h y (.tail _ hy)]
theorem lN {ρ ρ':Operand→AV} {x:Option Operand} (h : ∀y∈x,ρ y=ρ' y) (d:Nat):bound ρ x d=bound ρ' x d:=by
 cases x with
 |none=>rfl
 |some x=>simp only[bound,h x (by simp)]
theorem xm {rd:Nat→bg} {wr:Bool} {bw:Nat} {ρ ρ':Operand→AV} {o:Oper} (hq:eV o=true) (h : ∀x∈o.op.operands,ρ x=ρ' x):qo P rd wr bw ρ o=qo P rd wr bw ρ' o:=by
 have hsel : ∀cs b,o.op ≠ .select cs b:=by
  intro cs b e
  simp[eV,e] at hq
 have hsc:scalar P ρ o=scalar P ρ' o:=by
  unfold scalar
  rw[qE (ρ:=ρ) (ρ':=ρ') fun x hx=>h x (by simpa using hx),
   execOp_congr (ρ:=fun x=>(CW (ρ x)).getD undef) (ρ':=fun x=>(CW (ρ' x)).getD undef) o hsel fun x hx=>by rw[h x hx]]
 obtain⟨dst,op,type,pos,after,guard⟩:=o
 cases op<;>simp only[eV,Bool.false_eq_true] at hq<;>simp only[Op.operands] at h<;>simp only[qo]
 case move x=>rw[h x (by simp)]
 case assign x=>rw[h x (by simp)]
 case pick c a b=>rw[h c (by simp),h a (by simp),h b (by simp)]
 case build t ps=>
  have:ps.toList.map (fun q=>(q.1,ρ q.2))=ps.toList.map fun q=>(q.1,ρ' q.2):=
   List.map_congr_left fun q hq=>by rw[h q.2 (by simp only[List.mem_toArray,List.mem_map];exact⟨q,hq,rfl⟩)]
  rw[this]
 case load t a=>rw[h a (by simp)]
 case nilCheck x=>rw[h x (by simp)];simp only[ij,hsc]
 case binOp op t x y r=>rw[h x (by simp),h y (by simp)];simp only[nQ,hsc]
 case unOp op t x=>rw[h x (by simp)];simp only[sk,hsc]
 case convert s d x=>rw[h x (by simp)];simp only[convertOp,hsc]
 case makeInterface t x=>rw[h x (by simp)]
 case makeFunc f first captured=>
  rw[List.map_congr_left (l:=first.toList) fun x hx=>h x (by simp_all),List.map_congr_left (l:=captured.toList) fun x hx=>h x (by simp_all)]
 case slice t x lo hi mx=>
  rw[h x (by simp)]
  have h1:=lN (ρ:=ρ) (ρ':=ρ') (x:=lo) fun y hy=>h y (by simp_all)
  have h2:=lN (ρ:=ρ) (ρ':=ρ') (x:=hi) fun y hy=>h y (by simp_all)
  have h3:=lN (ρ:=ρ) (ρ':=ρ') (x:=mx) fun y hy=>h y (by simp_all)
  cases mx with
  |none=>
   simp only[mq,h1,h2]
   repeat' first | rfl | split
   all_goals simp_all
  |some m=>
   simp only[mq,h1,h2]
   repeat' first | rfl | split
   all_goals simp_all
 case fieldAddr t x f=>rw[h x (by simp)]
 case field t x f=>rw[h x (by simp)]
 case indexAddr t x i=>rw[h x (by simp),h i (by simp)]
 case index t x i=>rw[h x (by simp),h i (by simp)]
 case extract x i=>rw[h x (by simp)]
 case call c=>
  obtain⟨callee,args,tys⟩:=c
  cases callee with
  |value _=>simp at hq
  |invoke _ _=>simp at hq
  |builtin b=>
   simp only[Call.operands] at h
   obtain⟨args⟩:=args
   have hmm : ∀mn,ir P ρ ⟨dst,.call ⟨.builtin b,⟨args⟩,tys⟩,type,pos,after,guard⟩ mn args=ir P ρ' ⟨dst,.call ⟨.builtin b,⟨args⟩,tys⟩,type,pos,after,guard⟩ mn args:=by
    intro mn
    unfold ir
    rw[hsc,List.map_congr_left (l:=args) fun x hx=>h x (by simp_all)]
   cases b<;>simp only[Bool.false_eq_true] at hq<;>simp only[hmm]
   cases args with
   |nil=>rfl
   |cons x r=>cases r with
    |nil=>simp only[h x (by simp)]
    |cons _ _=>rfl
theorem oy (st:St) (dst:Option Tmp) (v:AV) (t:Nat):look (put st dst v).tm t=if dst=some t then v else look st.tm t:=by
 cases dst with
 |none=>simp[put]
 |some d=>simp only[put,hY,Option.some.injEq]
theorem zX (st:St) (dst:Option Tmp) (v:AV):(put st dst v).mem=st.mem∧(put st dst v).nt=st.nt∧(put st dst v).fix=st.fix:=by
 cases dst<;>exact⟨rfl,rfl,rfl⟩
theorem j7 {a b:List Nat} (h:meet a b=false) {i:Nat} (ha:i∈a) (hb:i∈b):False:=by
 simp only[meet,List.any_eq_false] at h
 have:=h i ha
 simp only[List.any_eq_true,not_exists,not_and] at this
 exact this i hb (Nat.beq_refl i)
theorem Bv : ∀(l:List Oper) (acc:List Nat),∃M,masks acc l=acc++M∧M.length=l.length ∧ ∀i o,l[i]? = some o→M[i]? = some (ng (acc++M.take i) o)
 |[],acc=>⟨[],by simp[masks]⟩
 |o::r,acc=>by
  obtain⟨M,h1,h2,h3⟩:=Bv r (acc++[ng acc o])
  refine⟨ng acc o::M,by simp[masks,h1],by simp[h2],?_⟩
  intro i p hp
  cases i with
  |zero=>simp only[List.getElem?_cons_zero,Option.some.injEq] at hp;subst hp;simp
  |succ i=>
   simp only[List.getElem?_cons_succ] at hp
   have:=h3 i p hp
   simpa using this
theorem Dh {acc:List Nat} {o:Oper} {j:Nat} (h:Nat.testBit (ng acc o) j=true) : ∃e∈o.after,Region.binds .any e=true∧(e.on=j∨Nat.testBit (acc.getD e.on 0) j=true):=by
 unfold ng at h
 have key : ∀(l:List Edge) (s:Nat),Nat.testBit (l.foldl (fun s e=>cond (Region.binds .any e) (s|||(2 ^ e.on|||acc.getD e.on 0)) s) s) j=true →
   Nat.testBit s j=true ∨ ∃e∈l,Region.binds .any e=true∧(e.on=j∨Nat.testBit (acc.getD e.on 0) j=true):=by
  intro l
  induction l with
  |nil=>intro s h;exact .inl h
  |cons e r ih=>
   intro s h
   simp only[List.foldl_cons] at h
   rcases ih _ h with h | ⟨e',he',q⟩
   · cases hb:Region.binds .any e with
     |false=>rw[hb] at h;exact .inl h
     |true=>
      rw[hb] at h
      simp only[cond_true,Nat.testBit_or,Bool.or_eq_true] at h
      rcases h with h | h | h
      · exact .inl h
      · refine .inr ⟨e,.head _,hb,.inl ?_⟩
        rw[Nat.testBit_two_pow] at h
        exact of_decide_eq_true h
      · exact .inr ⟨e,.head _,hb,.inr h⟩
   · exact .inr ⟨e',.tail _ he',q⟩
 rcases key _ _ h with h | ⟨e,he,q⟩
 · simp at h
 · exact⟨e,by simpa using he,q⟩
theorem mW {q:Oper→Bool} {ops:Array Oper} {L:List Nat} : ∀{r kJ:List Oper},iw q ops L kJ.length kJ r=true →
  ∀i o,(kJ++r)[i]? = some o→kJ.length≤i →
   q o=true∧(∀e∈o.after,Region.binds .any e=true→e.on<i) ∧ ∀j p,j<i→(kJ++r)[j]? = some p→nh ops L i o j p=true
 |[],kJ,_,i,o,ho,hi=>by
  simp only[List.append_nil] at ho
  rw[List.getElem?_eq_none hi] at ho;cases ho
 |q0::r,kJ,h,i,o,ho,hi=>by
  simp only[iw,Bool.and_eq_true] at h
  obtain⟨⟨⟨h1,h2⟩,h3⟩,h4⟩:=h
  by_cases hc:i=kJ.length
  · subst hc
    have:o=q0:=by simpa using ho.symm
    subst this
    refine⟨h1,?_,?_⟩
    · intro e he hb
      have:=List.all_eq_true.1 h2 e (by simpa using he)
      simp only[hb,Bool.not_true,Bool.false_or] at this
      rwa [Nat.blt_eq] at this
    · intro j p hj hp
      have key : ∀(l:List Oper) (k:Nat),rQ ops L kJ.length o k l=true → ∀m p,l[m]? = some p→nh ops L kJ.length o (k+m) p=true:=by
       intro l
       induction l with
       |nil=>intro k _ m p hp;simp at hp
       |cons x l ih=>
        intro k hk m p hp
        simp only[rQ,Bool.and_eq_true] at hk
        cases m with
        |zero=>simp only[List.getElem?_cons_zero,Option.some.injEq] at hp;subst hp;exact hk.1
        |succ m=>
         simp only[List.getElem?_cons_succ] at hp
         have:=ih (k+1) hk.2 m p hp
         rwa [Nat.add_assoc,Nat.add_comm 1 m] at this
      have hp':kJ[j]? = some p:=by rwa [List.getElem?_append_left hj] at hp
      simpa using key kJ 0 h3 j p hp'
  · have h4':iw q ops L (kJ++[q0]).length (kJ++[q0]) r=true:=by simpa using h4
    have:=mW h4' i o (by simpa using ho) (by simp;omega)
    simpa using this
def QD (P:Program) (E:Env) (rd:Nat→bg) (wr:Bool) (bw:Nat) (ops:Array Oper) (st:St) (o:Oper) (v:AV):Prop:=
 ((dm ops st.tm o = .yes ∨ ∃d b want,dm ops st.tm o = .ask d b want∧(b==want)=true)∧qo P rd wr bw (ev E st.tm) o=some (v,[],true)) ∨
 ((dm ops st.tm o = .no ∨ ∃d b want,dm ops st.tm o = .ask d b want∧(b==want)=false)∧v = .aS [])
inductive zY (P:Program) (E:Env) (rd:Nat→bg) (wr:Bool) (bw:Nat) (ops:Array Oper):List Oper→St→List AV→St→Prop
 |nil (st:St):zY P E rd wr bw ops [] st [] st
 |cons (o:Oper) (r:List Oper) (st:St) (v:AV) (vs:List AV) (st':St) (hf:fits st o.dst=true) (h:QD P E rd wr bw ops st o v)
   (hr:zY P E rd wr bw ops r (put st o.dst v) vs st'):zY P E rd wr bw ops (o::r) st (v::vs) st'
theorem lO {rd:Nat→bg} {wr:Bool} {bw:Nat} {ops:Array Oper} : ∀{l:List Oper} {st st':St},iY P E rd wr bw ops l st=some (st',true) → ∃vs,zY P E rd wr bw ops l st vs st'
 |[],st,st',h=>by
  simp only[iY,Option.some.injEq,Prod.mk.injEq,and_true] at h
  subst h
  exact⟨[],.nil st⟩
 |o::r,st,st',h=>by
  have skip:(match iY P E rd wr bw ops r (put st o.dst (.aS [])) with
   |some (st',ok)=>some (st',fits st o.dst&&ok)
   |none=>none)=some (st',true)→fits st o.dst=true ∧ ∃vs,zY P E rd wr bw ops r (put st o.dst (.aS [])) vs st':=by
   intro h
   split at h
   · rename_i Nz ok hq
     simp only[Option.some.injEq,Prod.mk.injEq,Bool.and_eq_true] at h
     obtain⟨rfl,h1,rfl⟩:=h
     exact⟨h1,lO hq⟩
   · cases h
  have nT:(match qo P rd wr bw (ev E st.tm) o with
   |some (v,[],ok)=>match iY P E rd wr bw ops r (put st o.dst v) with
    |some (st',ok')=>some (st',ok&&(fits st o.dst&&ok'))
    |none=>none
   |_=>none)=some (st',true) → ∃v,qo P rd wr bw (ev E st.tm) o=some (v,[],true)∧fits st o.dst=true ∧ ∃vs,zY P E rd wr bw ops r (put st o.dst v) vs st':=by
   intro h
   split at h
   · rename_i v ok hop
     split at h
     · rename_i Nz ok' hq
       simp only[Option.some.injEq,Prod.mk.injEq,Bool.and_eq_true] at h
       obtain⟨rfl,rfl,h1,rfl⟩:=h
       exact⟨v,hop,h1,lO hq⟩
     · cases h
   · cases h
  unfold iY at h
  dsimp only at h
  cases hw:dm ops st.tm o with
  |yes=>
   rw[hw] at h
   obtain⟨v,h1,h2,vs,h3⟩:=nT h
   exact⟨v::vs,.cons o r st v vs st' h2 (.inl ⟨.inl hw,h1⟩) h3⟩
  |no=>
   rw[hw] at h
   obtain⟨h2,vs,h3⟩:=skip h
   exact⟨.aS []::vs,.cons o r st _ vs st' h2 (.inr ⟨.inl hw,rfl⟩) h3⟩
  |lost=>rw[hw] at h;cases h
  |ask d b want=>
   rw[hw] at h
   dsimp only at h
   cases hb:b==want with
   |true=>
    rw[hb] at h
    obtain⟨v,h1,h2,vs,h3⟩:=nT h
    exact⟨v::vs,.cons o r st v vs st' h2 (.inl ⟨.inr ⟨d,b,want,hw,hb⟩,h1⟩) h3⟩
   |false=>
    rw[hb] at h
    obtain⟨h2,vs,h3⟩:=skip h
    exact⟨.aS []::vs,.cons o r st _ vs st' h2 (.inr ⟨.inr ⟨d,b,want,hw,hb⟩,rfl⟩) h3⟩
def Bw (l:List Oper):Prop:= ∀(i j:Nat) (p q:Oper) (t:Tmp),i<j→l[i]? = some p→l[j]? = some q→p.dst=some t→q.dst≠some t
def cO (l:List Oper) (vs:List AV) (st:St) (i:Nat) (gp:St):Prop:=
 gp.mem=st.mem∧gp.nt=st.nt∧gp.fix=st.fix∧(∀j p v t,j<i→l[j]? = some p→vs[j]? = some v→p.dst=some t→look gp.tm t=v) ∧
 (∀t,(∀j p,j<i→l[j]? = some p→p.dst≠some t)→look gp.tm t=look st.tm t)
theorem cO.cons {o:Oper} {r:List Oper} {v:AV} {vs:List AV} {st gp:St} {i:Nat} (hu:Bw (o::r)) (h:cO r vs (put st o.dst v) i gp):cO (o::r) (v::vs) st (i+1) gp:=by
 obtain⟨h1,h2,h3,h4,h5⟩:=h
 obtain⟨q1,q2,q3⟩:=zX st o.dst v
 refine⟨h1.trans q1,h2.trans q2,h3.trans q3,?_,?_⟩
 · intro j p w t hj hp hw ht
   cases j with
   |zero=>
    simp only[List.getElem?_cons_zero,Option.some.injEq] at hp hw
    subst hp;subst hw
    rw[h5 t fun j p _ hp=>hu 0 (j+1) o p t (by omega) rfl (by simpa using hp) ht,oy,if_pos ht]
   |succ j=>exact h4 j p w t (by omega) (by simpa using hp) (by simpa using hw) ht
 · intro t ht
   rw[h5 t fun j p hj hp=>ht (j+1) p (by omega) (by simpa using hp),oy,if_neg (ht 0 o (by omega) rfl)]
theorem zY.spec {rd:Nat→bg} {wr:Bool} {bw:Nat} {ops:Array Oper} {l:List Oper} {st st':St} {vs:List AV} (h:zY P E rd wr bw ops l st vs st') (hu:Bw l) :
  vs.length=l.length∧cO l vs st l.length st' ∧ ∀i o,l[i]? = some o → ∃v gp,vs[i]? = some v∧QD P E rd wr bw ops gp o v∧fits gp o.dst=true∧cO l vs st i gp:=by
 induction h with
 |nil st=>exact⟨rfl,⟨rfl,rfl,rfl,fun j _ _ _ hj=>absurd hj (Nat.not_lt_zero _),fun _ _=>rfl⟩,fun i o ho=>by simp at ho⟩
 |cons o r st v vs st' hf hk hr ih=>
  have Nd:Bw r:=fun i j p q t hij hp hq=>hu (i+1) (j+1) p q t (by omega) (by simpa using hp) (by simpa using hq)
  obtain⟨h1,h2,h3⟩:=ih Nd
  refine⟨by simp[h1],h2.cons hu,?_⟩
  intro i p hp
  cases i with
  |zero=>
   simp only[List.getElem?_cons_zero,Option.some.injEq] at hp
   subst hp
   exact⟨v,st,rfl,hk,hf,rfl,rfl,rfl,fun j _ _ _ hj=>absurd hj (Nat.not_lt_zero _),fun _ _=>rfl⟩
  |succ i=>
   obtain⟨w,gp,q1,q2,q3,q4⟩:=h3 i p (by simpa using hp)
   exact⟨w,gp,by simpa using q1,q2,q3,q4.cons hu⟩
structure kL (ops:Array Oper) (L:List Nat) (vs:List AV) (eY dy:St) (S:Array Bool):Prop where
 size:S.size=ops.size
 mem:dy.mem=eY.mem
 nt:dy.nt=eY.nt
 fix:dy.fix=eY.fix
 a : ∀(j:Nat) (p:Oper) (v:AV) (t:Tmp),S.getD j false=true→ops.toList[j]? = some p→vs[j]? = some v→p.dst=some t→look dy.tm t=v
 b : ∀t:Tmp,(∀(j:Nat) (p:Oper),S.getD j false=true→ops.toList[j]? = some p→p.dst≠some t)→look dy.tm t=look eY.tm t
 cl : ∀i j:Nat,S.getD i false=true→Nat.testBit (L.getD i 0) j=true→S.getD j false=true
structure rA (ops:Array Oper) (L:List Nat):Prop where
 mask : ∀i o,ops.toList[i]? = some o→L[i]? = some (ng (L.take i) o)
 low : ∀(i:Nat) o,ops.toList[i]? = some o → ∀e∈o.after,Region.binds .any e=true→e.on<i
 pair : ∀(i:Nat) o,ops.toList[i]? = some o → ∀j p,j<i→ops.toList[j]? = some p→nh ops L i o j p=true
theorem rA.of {q:Oper→Bool} {ops:Array Oper} (h:iw q ops (masks [] ops.toList) 0 [] ops.toList=true):rA ops (masks [] ops.toList) ∧ ∀(i:Nat) o,ops.toList[i]? = some o→q o=true:=by
 obtain⟨M,h1,_,h3⟩:=Bv ops.toList []
 simp only[List.nil_append] at h1 h3
 rw[h1] at h ⊢
 have hs:=fun i o ho=>mW (kJ:=[]) h i o ho (Nat.zero_le _)
 exact⟨⟨h3,fun i o ho=>(hs i o ho).2.1,fun i o ho=>(hs i o ho).2.2⟩,fun i o ho=>(hs i o ho).1⟩
theorem rA.uniq {ops:Array Oper} {L:List Nat} (h:rA ops L):Bw ops.toList:=by
 intro i j p q t hij hp hq ht ht'
 have:=h.pair j q hq i p hij hp
 simp only[nh,Bool.and_eq_true,Bool.not_eq_true'] at this
 exact j7 this.1 (i:=t) (by simp[ht']) (by simp[ht])
theorem jE {S:Array Bool} {j:Nat} (h:j<S.size) (d d':Bool):S.getD j d=S.getD j d':=by
 simp[Array.getD_eq_getD_getElem?,Array.getElem?_eq_getElem h]
theorem NA {S:Array Bool} {j:Nat} (h:S.getD j false=true):j<S.size:=by
 rcases Nat.lt_or_ge j S.size with q | q
 · exact q
 · rw[Array.getD_eq_getD_getElem?,Array.getElem?_eq_none q] at h;cases h
section
variable {ops:Array Oper} {L:List Nat} {vs:List AV} {eY dy gp:St} {S:Array Bool}
theorem kL.ahead (hI:kL ops L vs eY dy S) (hO:rA ops L) {i:Nat} (hi:i∈Region.ready .any ops S) {j:Nat} (hb:Nat.testBit (L.getD i 0) j=true):S.getD j false=true:=by
 obtain⟨_,o,ho,hr⟩:=mem_ready.1 hi
 have ho':ops.toList[i]? = some o:=by simpa using ho
 have hm:=hO.mask i o ho'
 rw[List.getD_eq_getElem?_getD,hm,Option.getD_some] at hb
 obtain⟨e,he,vP,h⟩:=Dh hb
 rcases h with h | h
 · exact h▸hr e he vP
 · have hlt:=hO.low i o ho' e he vP
   refine hI.cl e.on j (hr e he vP) ?_
   rw[List.getD_eq_getElem?_getD,List.getElem?_take,if_pos hlt,←List.getD_eq_getElem?_getD] at h
   exact h
theorem kL.slots (hI:kL ops L vs eY dy S) (hO:rA ops L) {i:Nat} {o:Oper} (ho:ops.toList[i]? = some o) (hi:i∈Region.ready .any ops S) (hl:vs.length=ops.toList.length) (Di:cO ops.toList vs eY i gp)
  {t:Tmp} (ht:t∈Am.slots ops o):look dy.tm t=look gp.tm t:=by
 obtain⟨_,_,_,hA,hB⟩:=Di
 have hu:=hO.uniq
 have hni:S.getD i false=false:=by
  obtain⟨h,_⟩:=mem_ready.1 hi
  cases hq:S.getD i false with
  |false=>rfl
  |true=>rw[jE (NA hq) false true,h] at hq;cases hq
 by_cases hw : ∃(j:Nat) (p:Oper),ops.toList[j]? = some p∧p.dst=some t
 · obtain⟨j,p,hp,hd⟩:=hw
   have only : ∀(k:Nat) (q:Oper),ops.toList[k]? = some q→q.dst=some t→k=j:=by
    intro k q hq Nf
    rcases Nat.lt_trichotomy k j with h | h | h
    · exact absurd hd (hu k j q p t h hq hp Nf)
    · exact h
    · exact absurd Nf (hu j k p q t h hp hq hd)
   rcases Nat.lt_trichotomy j i with h | h | h
   · have Bx:=hO.pair i o ho j p h hp
     simp only[nh,Bool.and_eq_true,Bool.or_eq_true,Bool.not_eq_true'] at Bx
     have Ri:Nat.testBit (L.getD i 0) j=true:=by
      rcases Bx.2 with q | q
      · exact q
      · exact(j7 q.1 (i:=t) (by simp[hd]) ht).elim
     have hS:=hI.ahead hO hi Ri
     have IN : ∃v,vs[j]? = some v:=by
      have:j<vs.length:=by rw[hl];exact(List.getElem?_eq_some_iff.1 hp).1
      exact⟨vs[j],List.getElem?_eq_getElem this⟩
     obtain⟨v,hv⟩:=IN
     rw[hI.a j p v t hS hp hv hd,hA j p v t h hp hv hd]
   · subst h
     rw[hI.b t,hB t]
     · intro k q hk hq Nf
       have:=only k q hq Nf
       omega
     · intro k q hk hq Nf
       have:=only k q hq Nf
       subst this
       rw[hni] at hk;cases hk
   · have Bx:=hO.pair j p hp i o h ho
     simp only[nh,Bool.and_eq_true,Bool.or_eq_true,Bool.not_eq_true'] at Bx
     have Ri:Nat.testBit (L.getD j 0) i=true:=by
      rcases Bx.2 with q | q
      · exact q
      · exact(j7 q.2 (i:=t) (by simp[hd]) ht).elim
     rw[hI.b t,hB t]
     · intro k q hk hq Nf
       have:=only k q hq Nf
       omega
     · intro k q hk hq Nf
       have:=only k q hq Nf
       subst this
       have:=hI.cl k i hk Ri
       rw[hni] at this;cases this
 · have hno : ∀(k:Nat) (q:Oper),ops.toList[k]? = some q→q.dst≠some t:=fun k q hq hd=>hw ⟨k,q,hq,hd⟩
   rw[hI.b t fun k q _ hq=>hno k q hq,hB t fun k q _ hq=>hno k q hq]
theorem kL.step (hI:kL ops L vs eY dy S) (hO:rA ops L) {i:Nat} {o:Oper} {v:AV} (ho:ops.toList[i]? = some o) (hv:vs[i]? = some v) (hi:i∈Region.ready .any ops S) :
  kL ops L vs eY (put dy o.dst v) (S.setIfInBounds i true):=by
 obtain⟨q1,q2,q3⟩:=zX dy o.dst v
 have hu:=hO.uniq
 have vY : ∀j,(S.setIfInBounds i true).getD j false=true→j=i∨S.getD j false=true:=by
  intro j hj
  by_cases h:i=j
  · exact .inl h.symm
  · rw[getD_set_ne false h] at hj;exact .inr hj
 have ZH : ∀j,S.getD j false=true→(S.setIfInBounds i true).getD j false=true:=fun j hj=>getD_set_true hj
 refine⟨by simp[hI.size],q1.trans hI.mem,q2.trans hI.nt,q3.trans hI.fix,?_,?_,?_⟩
 · intro j p w t hj hp hw hd
   rw[oy]
   by_cases hji:j=i
   · subst hji
     rw[ho] at hp;cases hp
     rw[hv] at hw;cases hw
     rw[if_pos hd]
   · have hne:o.dst≠some t:=by
      rcases Nat.lt_or_gt_of_ne hji with h | h
      · exact hu j i p o t h hp ho hd
      · exact fun hod=>hu i j o p t h ho hp hod hd
     rw[if_neg hne]
     rcases vY j hj with h | h
     · exact absurd h hji
     · exact hI.a j p w t h hp hw hd
 · intro t ht
   have nX:i<S.size:=by rw[hI.size];have:=(List.getElem?_eq_some_iff.1 ho).1;simpa using this
   have hne:o.dst≠some t:=ht i o (by simp[Array.getD_eq_getD_getElem?,nX]) ho
   rw[oy,if_neg hne]
   exact hI.b t fun j p hj hp=>ht j p (ZH j hj) hp
 · intro k j hk hb
   rcases vY k hk with h | h
   · subst h;exact ZH j (hI.ahead hO hi hb)
   · exact ZH j (hI.cl k j h hb)
theorem kL.all (hI:kL ops L vs eY dy S) (hO:rA ops L) (hr:Region.ready .any ops S=[]) : ∀i,i<ops.size→S.getD i false=true:=by
 intro i
 induction i using Nat.strongRecOn with
 |ind i ih=>
  intro hi
  have ho:ops[i]? = some ops[i]:=Array.getElem?_eq_getElem hi
  have ho':ops.toList[i]? = some ops[i]:=by simp[hi]
  cases hq:S.getD i false with
  |true=>rfl
  |false=>
   have:i∈Region.ready .any ops S:=mem_ready.2 ⟨by rw[jE (by rw[hI.size];exact hi) true false];exact hq,ops[i],ho,fun e he hb=>ih e.on (hO.low i _ ho' e he hb) (by have:=hO.low i _ ho' e he hb;omega)⟩
   rw[hr] at this;cases this
theorem kL.ends (hI:kL ops L vs eY dy S) (hl:vs.length=ops.toList.length) {st':St} (hst:cO ops.toList vs eY ops.toList.length st') (hall : ∀i,i<ops.size→S.getD i false=true) :
  dy.mem=st'.mem∧dy.nt=st'.nt∧dy.fix=st'.fix ∧ ∀t,look dy.tm t=look st'.tm t:=by
 obtain⟨h1,h2,h3,hA,hB⟩:=hst
 refine⟨hI.mem.trans h1.symm,hI.nt.trans h2.symm,hI.fix.trans h3.symm,fun t=> ?_⟩
 by_cases hw : ∃(j:Nat) (p:Oper),ops.toList[j]? = some p∧p.dst=some t
 · obtain⟨j,p,hp,hd⟩:=hw
   have hjl:=(List.getElem?_eq_some_iff.1 hp).1
   have IN:vs[j]? = some vs[j]:=List.getElem?_eq_getElem (by rw[hl];exact hjl)
   rw[hI.a j p _ t (hall j (by simpa using hjl)) hp IN hd,hA j p _ t hjl hp IN hd]
 · rw[hI.b t fun k q _ hq hd=>hw ⟨k,q,hq,hd⟩,hB t fun k q _ hq hd=>hw ⟨k,q,hq,hd⟩]
end
theorem bS.same {g:Gh} {w:World} {st st':St} {a:Act} (h:bS E g st a w) (h1:st.mem=st'.mem) (h2:st.nt=st'.nt) (h3:st.fix=st'.fix) (h4 : ∀t,look st.tm t=look st'.tm t):bS E g st' a w:=
 ⟨fun k=>h4 k▸h.tm k,h2▸h.nt,h1▸h.rel,by rw[←h1,←h3];exact h.fix,h.dj⟩
theorem qF {ops:Array Oper} {tm Wp:rG} {o:Oper} (h : ∀t∈slots ops o,look tm t=look Wp t):dm ops tm o=dm ops Wp o:=by
 unfold dm
 unfold slots at h
 cases hg:o.guard with
 |none=>rfl
 |some q=>
  obtain⟨j,want⟩:=q
  simp only[hg] at h
  dsimp only
  cases hj:ops[j]? with
  |none=>rfl
  |some oj=>
   simp only[hj] at h
   dsimp only
   cases hd:oj.dst with
   |none=>rfl
   |some d=>simp only[h d (by simp[hd])]
theorem By {tm Wp:rG} {ops:Array Oper} {o:Oper} (h : ∀t∈slots ops o,look tm t=look Wp t) : ∀x∈o.op.operands,ev E tm x=ev E Wp x:=by
 intro x hx
 cases x with
 |tmp t=>exact h t (List.mem_append_right _ (List.mem_filterMap.2 ⟨.tmp t,by simpa using hx,rfl⟩))
 |_=>rfl
theorem Gt {b:Frame} {k:List Item} {ops:Array Oper} {L:List Nat} {vs:List AV} {eY st':St} {wr:Bool} {bw:Nat} (hO:rA ops L) (hQ : ∀(i:Nat) o,ops.toList[i]? = some o→eV o=true) (hn:eY.mem[bw]? = some .free)
  (hrun:zY P E (fun i=>eY.mem.getD i .dead) wr bw ops ops.toList eY vs st') : ∀(fuel t:Nat) (S:Array Bool) (dy:St) (a:Act) (g:Gh) (w:World) (u:List Nat),
    kL ops L vs eY dy S→bS E g dy a w→u.length=fuel→(∀i,i<ops.size→S.getD i false=false→i∈u) →
    ∃g' a' w',(∀cs,Steps P (lone (b.atR a (.inRegion ops (Region.linearise.go .any ops fuel t S [])::k)) cs w) (lone (b.atR a' (.inRegion ops []::k)) cs w'))∧a'.defers=a.defers∧bS E g' st' a' w' ∧
     cM g eY.mem w g' eY.mem w'∧bB g g' eY.fix ∧ ∀i c,g.bE i=some c→g'.bE i=some c:=by
 obtain⟨hl,hend,hspec⟩:=hrun.spec hO.uniq
 intro fuel
 induction fuel with
 |zero=>
  intro t S dy a g w u hI hs Rj hu
  have hall : ∀i,i<ops.size→S.getD i false=true:=by
   intro i hi
   cases hq:S.getD i false with
   |true=>rfl
   |false=>
    have:=hu i hi hq
    rw[List.eq_nil_of_length_eq_zero Rj] at this;cases this
  obtain⟨e1,e2,e3,e4⟩:=hI.ends hl hend hall
  exact⟨g,a,w,fun cs=>Steps.refl _ _,rfl,hs.same e1 e2 e3 e4,cM.refl _ _ _,bB.refl _ _,fun _ _ h=>h⟩
 |succ fuel ih=>
  intro t S dy a g w u hI hs Rj hu
  simp only[Region.linearise.go]
  show ∃g' a' w',(∀cs,Steps P (lone (b.atR a (.inRegion ops (match(Region.ready .any ops S)[t%(Region.ready .any ops S).length]? with
   |some i=>Region.linearise.go .any ops fuel (t / (Region.ready .any ops S).length) (S.setIfInBounds i true) [i]
   |none=>[].reverse)::k)) cs w) (lone (b.atR a' (.inRegion ops []::k)) cs w'))∧_
  cases hi:(Region.ready .any ops S)[t%(Region.ready .any ops S).length]? with
  |none=>
   have I9:Region.ready .any ops S=[]:=by
    cases hr:Region.ready .any ops S with
    |nil=>rfl
    |cons x xs=>
     rw[hr] at hi
     have hlt:t%(x::xs).length<(x::xs).length:=Nat.mod_lt _ (by simp)
     rw[List.getElem?_eq_getElem hlt] at hi;cases hi
   obtain⟨e1,e2,e3,e4⟩:=hI.ends hl hend (hI.all hO I9)
   exact⟨g,a,w,fun cs=>Steps.refl _ _,rfl,hs.same e1 e2 e3 e4,cM.refl _ _ _,bB.refl _ _,fun _ _ h=>h⟩
  |some i=>
   have NB:=List.mem_of_getElem? hi
   obtain⟨ZI,o,ho,_⟩:=mem_ready.1 NB
   have ho':ops.toList[i]? = some o:=by simpa using ho
   obtain⟨v,gp,hv,hk,hf,Di⟩:=hspec i o ho'
   have tB : ∀t∈slots ops o,look dy.tm t=look gp.tm t:=fun t ht=>hI.slots hO ho' NB hl Di ht
   have hilt:i<ops.size:=(Array.getElem?_eq_some_iff.1 ho).1
   have Ja:i∈u:=hu i hilt (by rw[jE (by rw[hI.size];exact hilt) false true];exact ZI)
   have Nd : ∀j,j<ops.size→(S.setIfInBounds i true).getD j false=false→j∈u.erase i:=by
    intro j hj hq
    have hne:j≠i:=by
     intro e
     subst e
     rw[show(S.setIfInBounds j true).getD j false=true by simp[Array.getD_eq_getD_getElem?,hI.size,hj]] at hq
     cases hq
    rw[getD_set_ne false (fun e=>hne e.symm)] at hq
    exact(List.mem_erase_of_ne hne).2 (hu j hj hq)
   have NC:(u.erase i).length=fuel:=by rw[List.length_erase_of_mem Ja,Rj];rfl
   have Zk:=hI.step hO ho' hv NB
   have Zl:fits dy o.dst=true:=by
    have:fits dy o.dst=fits gp o.dst:=by unfold fits;rw[hI.nt,Di.2.1]
    rw[this];exact hf
   dsimp only
   rw[linearise_go_acc,List.reverse_singleton,List.singleton_append]
   have Dj:=qF tB
   obtain⟨w1,w2,w3⟩:=mH hs (ops:=ops) (o:=o)
   rcases hk with⟨hw,hop⟩ | ⟨hw,rfl⟩
   · have gq:Region.wanted o (yielded ops a.tmps)=true:=by
      rcases hw with hw | ⟨d,b',want,hw,hb⟩
      · exact w1 (Dj.trans hw)
      · rw[(w3 d b' want (Dj.trans hw)).1];exact hb
     have ZJ:qo P (fun i=>dy.mem.getD i .dead) wr bw (ev E dy.tm) o=some (v,[],true):=by
      rw[hI.mem,xm (hQ i o ho') (By tB)];exact hop
     obtain⟨cv,w',g',k1,k2,k3,k4,k5⟩:=mG hs.rel (eS hs) (fun _=>rfl) (fun _=>by rw[hI.mem];exact hn) ZJ
     have hs':=hs.put Zl k2 k4 k3 hs.fix
     obtain⟨g2,a2,ZK,r1,r2,r3,r4,r5,r6⟩:=ih (t / (Region.ready .any ops S).length) _ _ _ _ _ _ Zk hs' NC Nd
     refine⟨g2,a2,ZK,fun cs=> .head (ox ho gq k1) (r1 cs),r2.trans put_defers,r3,?_,(bB.ou k4 _).trans r5,fun i c q=>r6 i c (k4.bE i c q).1⟩
     have k5':cM g eY.mem w g' eY.mem w':=by rw[←hI.mem];exact k5
     exact k5'.trans r4
   · have gq:Region.wanted o (yielded ops a.tmps)=false:=by
      rcases hw with hw | ⟨d,b',want,hw,hb⟩
      · exact w2 (Dj.trans hw)
      · rw[(w3 d b' want (Dj.trans hw)).1];exact hb
     have hs':=hs.put (v:= .aS []) (cv:=undef) Zl (VA.iA.2 trivial) (Ext.refl g w) hs.rel hs.fix
     obtain⟨g2,a2,ZK,r1,r2,r3,r4,r5,r6⟩:=ih (t / (Region.ready .any ops S).length) _ _ _ _ _ _ Zk hs' NC Nd
     refine⟨g2,a2,ZK,fun cs=> .head ?_ (r1 cs),r2.trans put_defers,r3,r4,r5,r6⟩
     have hst:=stepR_op_skip (P:=P) (b:=b) (a:=a) (k:=k) (cs:=cs) (w:=w) (ops:=ops) (i:=i) (rest:=Region.linearise.go .any ops fuel (t / (Region.ready .any ops S).length) (S.setIfInBounds i true) []) (by simp[ho,gq])
     simpa only[ho,Option.bind_some] using hst
theorem bS.drew {g:Gh} {w:World} {st:St} {a:Act} (h:bS E g st a w) (n:Nat):bS E g st a {w with drawn:=n}:=by
 have he:Ext g w g {w with drawn:=n}:=⟨fun _ _ e=>⟨e,rfl,rfl⟩,fun _ _ e=>⟨e,rfl⟩⟩
 refine⟨fun k=>(h.tm k).mono he,h.nt,(h.rel.jA (w':={w with drawn:=n}) rfl rfl rfl rfl).1,h.fix,h.dj.mono he.pure⟩
theorem ND {g:Gh} {w:World} {b:Frame} {a:Act} {k:List Item} {ops:Array Oper} {f bK:Nat} {st st':St} (hs:bS E g st a w) (h:sx P E f bK ops st=some (st',true)) :
  ∃g' a' w',(∀cs,Steps P (lone (b.atR a (.code (.region bK ops true)::k)) cs w) (lone (b.atR a' k) cs w'))∧a'.defers=a.defers∧bS E g' st' a' w' ∧
   cM g st.mem w g' st'.mem w'∧bB g g' st.fix∧st'.fix=st.fix ∧ ∀i c,g.bE i=some c→g'.bE i=some c:=by
 unfold sx at h
 dsimp only at h
 split at h
 · rename_i Nz ok hq
   cases Jb:(ops.toList.all eV&&ID E f ops) with
   |false=>rw[Jb] at hq;cases hq
   |true=>
   rw[Jb] at hq
   simp only[cond_true] at hq
   have hall:ops.toList.all eV=true:=(Bool.and_eq_true _ _▸Jb).1
   simp only[Option.some.injEq,Prod.mk.injEq,Bool.and_eq_true] at h
   obtain⟨rfl,rfl,Jc,Rk⟩:=h
   obtain⟨vs,hrun⟩:=lO hq
   obtain⟨hO,hQ⟩:=rA.of Jc
   obtain⟨Wq,V5⟩:=hs.rel.reserve
   have hs1:bS E g {st with mem:=st.mem++[.free]} a w:=⟨hs.tm,hs.nt,Wq,by simp;have:=hs.fix;omega,hs.dj⟩
   have hgd : ∀j,(Array.replicate ops.size false).getD j false=false:=by
    intro j
    rw[Array.getD_eq_getD_getElem?,Array.getElem?_replicate]
    split<;>rfl
   have hI:kL ops (masks [] ops.toList) vs {st with mem:=st.mem++[.free]} {st with mem:=st.mem++[.free]} (Array.replicate ops.size false):=
    ⟨by simp,rfl,rfl,rfl,fun j _ _ _ hj=>(by rw[hgd] at hj;cases hj),fun _ _=>rfl,fun i _ hi=>(by rw[hgd] at hi;cases hi)⟩
   have V3:=hs1.drew (w.drawn+1)
   obtain⟨g',a',w',r1,r2,r3,r4,r5,r6⟩:=Gt (P:=P) (E:=E) (b:=b) (k:=k) hO hQ (by simp) hrun ops.size (w.tape w.drawn (.order b.fn bK)) _ _ a g _ (List.range ops.size) hI V3 (by simp) (fun i hi _=>List.mem_range.2 hi)
   have hend:=(hrun.spec hO.uniq).2.1
   refine⟨g',a',w',fun cs=> ?_,r2,r3,?_,r5,hend.2.2.1,r6⟩
   · refine .head stepR_region_draw ?_
     have Jd:Region.schedule (P.follows .mixedOrders) ops (w.tape w.drawn (.order b.fn bK))=Region.linearise.go .any ops ops.size (w.tape w.drawn (.order b.fn bK)) (Array.replicate ops.size false) []:=by
      simp only[Region.schedule,Rk,if_true,Region.linearise]
     rw[Jd]
     exact(r1 cs).trans (.one stepR_region_end)
   · rw[hend.1]
     have hst:cM g (st.mem++[.free]) w g (st.mem++[.free]) {w with drawn:=w.drawn+1}:=⟨Nat.le_refl _,fun _ _ _=>rfl,fun _ _ h=>⟨h,rfl⟩,fun _ _ h=> .inl h,fun _ h=> .inl h,rfl,rfl,rfl⟩
     exact(V5.trans hst).trans r4
 · cases h
end
end Go.Am
end
section
namespace Go.Am
open Go.RowKit
section
variable {P:Program} {E:Env}
theorem mX {rd rd':Nat→bg} {a:AV} (h : ∀b∈refs a,rd b=rd' b) (n:Nat):jS rd a n=jS rd' a n:=by
 cases a with
 |mp b off=>simp only[jS,h b (by simp[refs])]
 |p v=>cases v<;>rfl
 |_=>rfl
theorem eA {rd rd':Nat→bg} {a:AV} (h : ∀b∈refs a,rd b=rd' b) (sz:Nat):contents rd sz a=contents rd' sz a:=by
 cases a with
 |ms b off len s c=>
  cases c with
  |none=>simp only[contents,h b (by simp[refs])]
  |some c=>simp only[contents,h b (by simp[refs])]
 |p v=>
  cases v with
  |sc v=>cases v<;>rfl
  |_=>rfl
 |_=>rfl
theorem rB {rd rd':Nat→bg} {a:AV} (h : ∀b∈refs a,rd b=rd' b) (sz:Nat):eD rd sz a=eD rd' sz a:=by
 have hc:=eA h sz
 unfold eD
 rw[hc]
 cases contents rd' sz a with
 |some r=>rfl
 |none=>
  cases a with
  |ms b off len s c=>
   cases c with
   |none=>rfl
   |some c=>simp only[h b (by simp[refs])]
  |_=>rfl
theorem nw {rd rd':Nat→bg} {x n:AV} (h : ∀b∈refs x,rd b=rd' b) {ts:List TypeId}:dF P rd ts x n=dF P rd' ts x n:=by
 have hg:Iz rd x=Iz rd' x:=by
  cases x with
  |mp b off=>cases off with
   |zero=>simp only[Iz,h b (by simp[refs])]
   |succ _=>rfl
  |_=>rfl
 unfold dF
 simp only[hg]
theorem wz {rd rd':Nat→bg} {a:AV} (h : ∀b∈refs a,rd b=rd' b) {bw:Nat} {ρ:Operand→AV} {o:Oper} {s d:TypeId}:convertOp P rd bw ρ o s d a=convertOp P rd' bw ρ o s d a:=by
 have hc:=fun sz=>eA (a:=a) h sz
 unfold convertOp
 split<;>first
  |rfl
  |(rename_i b off len sz cap hd;have hb:=h b (by simp[refs]);simp only[hb];done)
  |(rename_i b off hd;have hb:=h b (by simp[refs]);simp only[hb];done)
  |(rename_i u b hd;have hb:=h b (by simp[refs]);simp only[hb];done)
  |simp only[hc]
theorem append_congr {rd rd':Nat→bg} {s x:AV} (h : ∀b∈refs s++refs x,rd b=rd' b) {bw:Nat} {ts:Array TypeId}:gx P rd bw ts s x=gx P rd' bw ts s x:=by
 have hc:=fun sz=>eA (a:=x) (fun b hb=>h b (List.mem_append_right _ hb)) sz
 have ht : ∀tok len sz cs,s = .os tok len sz cs→mw rd bw tok=mw rd' bw tok:=by
  rintro tok len sz cs rfl
  cases tok with
  |none=>rfl
  |some t=>simp only[mw,h t (by simp[refs])]
 unfold gx
 simp only[hc]
 repeat' first | rfl | split
 all_goals first
  |rfl
  |(rw[ht _ _ _ _ rfl])
  |simp_all
theorem tC {rd rd':Nat→bg} {s x:AV} (h : ∀b∈refs s++refs x,rd b=rd' b) {bw:Nat} {ts:Array TypeId}:ep P rd bw ts s x=ep P rd' bw ts s x:=by
 have hc:=fun sz=>rB (a:=x) (fun b hb=>h b (List.mem_append_right _ hb)) sz
 have hp : ∀sz,iW rd sz x=iW rd' sz x:=fun sz=>by unfold iW;rw[eA (a:=x) (fun b hb=>h b (List.mem_append_right _ hb)) sz]
 cases s with
 |ms b off len sz cap=>
  have hb:=h b (by simp[refs])
  unfold ep
  simp only[hc,hp]
  cases off with
  |zero=>cases cap<;>simp only[hb]
  |succ off=>rfl
 |os tok len sz cells=>
  cases tok with
  |none=>
   unfold ep
   simp only[hc,hp]
  |some t=>
   unfold ep
   simp only[hc]
 |_=>
  unfold ep
  simp only[hc]
theorem pV {rd rd':Nat→bg} {wr:Bool} {s x:AV} (h : ∀b∈refs s++refs x,rd b=rd' b) {bw:Nat} {ts:Array TypeId} :
  (match QW s||wr with | true=>ep P rd bw ts (kT s) x | false=>gx P rd bw ts (kT s) x)=(match QW s||wr with | true=>ep P rd' bw ts (kT s) x | false=>gx P rd' bw ts (kT s) x):=by
 have hs : ∀b∈refs (kT s),b∈refs s:=by
  intro b hb
  unfold kT at hb
  split at hb
  · simp[refs] at hb
  · exact hb
 have h' : ∀b∈refs (kT s)++refs x,rd b=rd' b:=fun b hb=>h b ((List.mem_append.1 hb).elim (fun q=>List.mem_append_left _ (hs b q)) fun q=>List.mem_append_right _ q)
 rw[tC h',append_congr h']
theorem Dk {rd rd':Nat→bg} {d s:AV} (h : ∀b∈refs d++refs s,rd b=rd' b) {ts:Array TypeId}:pI P rd ts d s=pI P rd' ts d s:=by
 have hc:=fun sz=>eA (a:=s) (fun b hb=>h b (List.mem_append_right _ hb)) sz
 have ht : ∀b off len sz cap,d = .ms b off len sz cap→rd b=rd' b:=by
  rintro b off len sz cap rfl
  exact h b (by simp[refs])
 unfold pI
 simp only[hc]
 repeat' first | rfl | split
 all_goals first
  |rfl
  |(rename_i h1 h2;rw[ht _ _ _ _ _ rfl] at h1;simp_all)
  |(rename_i h1;rw[ht _ _ _ _ _ rfl] at h1;simp_all)
  |simp_all
theorem zZ {rd rd':Nat→bg} {x:AV} (h : ∀b∈refs x,rd b=rd' b) {t:TypeId} {k:AV} {ok:Bool}:jx P rd t x k ok=jx P rd' t x k ok:=by
 have hm:mapOf rd x=mapOf rd' x:=by
  cases x with
  |vm b=>simp only[mapOf,h b (by simp[refs])]
  |p v=>
   cases v with
   |sc v=>
    cases v with
    |map r=>cases r<;>rfl
    |_=>rfl
   |_=>rfl
  |_=>rfl
 have hu:pJ rd x=pJ rd' x:=by
  cases x with
  |vm b=>simp only[pJ,h b (by simp[refs])]
  |_=>rfl
 unfold jx rL
 simp only[hm,hu]
theorem kF {rd rd':Nat→bg} {x:AV} (h : ∀b∈refs x,rd b=rd' b) {t:TypeId} {k v:AV}:eu P rd t x k v=eu P rd' t x k v:=by
 cases x with
 |vm b=>
  have hb:=h b (by simp[refs])
  cases k with
  |p u=>
   cases u with
   |sc u=>simp only[eu,hb]
   |_=>rfl
  |agg l=>
   show fT P rd t (.vm b) (.agg l) v=fT P rd' t (.vm b) (.agg l) v
   unfold fT
   generalize CW (AV.agg l)=kk
   generalize P.underlying t=tt
   cases kk with
   |none=>rfl
   |some key=>
    cases tt with
    |none=>rfl
    |some d=>cases d<;>first
     |rfl
     |simp only[hb]
  |_=>rfl
 |_=>cases k<;>rfl
theorem NF {rd rd':Nat→bg} {wr:Bool} {bw:Nat} {ρ ρ':Operand→AV} {o:Oper} (hq:wT o=true) (h : ∀x∈o.op.operands,ρ x=ρ' x) (hrd : ∀b∈Gf ρ o,rd b=rd' b):qo P rd wr bw ρ o=qo P rd' wr bw ρ' o:=by
 have h1:qo P rd wr bw ρ o=qo P rd' wr bw ρ o:=by
  obtain⟨dst,op,type,pos,after,guard⟩:=o
  cases op<;>try rfl
  case load t a=>simp only[qo,jl,mX (a:=ρ a) hrd]
  case store t a v=>
   simp only[qo,nP]
   have hrd : ∀b∈refs (ρ a),rd b=rd' b:=hrd
   generalize ρ a=x at hrd ⊢
   cases x with
   |mp b off=>
    cases eo P t with
    |none=>rfl
    |some n=>simp only[hrd b (by simp[refs])]
   |_=>rfl
  case convert s d x=>exact wz hrd
  case lookup t x i ok=>exact congrArg iq (zZ hrd)
  case mapUpdate t x k v=>exact kF hrd
  case insert t x k v=>exact kF hrd
  case next=>simp[wT,eV] at hq
  case call c=>
   obtain⟨callee,args,tys⟩:=c
   cases callee with
   |value _=>rfl
   |invoke _ _=>rfl
   |builtin b=>cases b<;>first
    |rfl
    |(obtain⟨args⟩:=args;rcases args with _ | ⟨x,_ | ⟨y,r⟩⟩<;>rfl)
    |(obtain⟨args⟩:=args;rcases args with _ | ⟨x,_ | ⟨y,_ | ⟨z,r⟩⟩⟩<;>first | rfl | exact pV fun b hb=>hrd b (by simpa[Gf,fQ] using hb) | exact Dk fun b hb=>hrd b (by simpa[Gf,fQ] using hb) | exact nw fun b hb=>hrd b (by simp[Gf,fQ,hb]))
    |simp[wT,eV] at hq
  case makeMap t r=>cases r<;>rfl
 rw[h1]
 cases hqq:eV o with
 |true=>exact xm hqq h
 |false=>
  simp only[wT,hqq,Bool.false_or] at hq
  obtain⟨dst,op,type,pos,after,guard⟩:=o
  cases op<;>simp only[Bool.false_eq_true] at hq<;>simp only[Op.operands] at h<;>simp only[qo]
  case box t v=>rw[h v (by simp)]
  case buildSlice t n ps=>
   have:ps.toList.map (fun q=>(q.1,ρ q.2))=ps.toList.map fun q=>(q.1,ρ' q.2):=
    List.map_congr_left fun q hq=>by rw[h q.2 (by simp only[List.mem_toArray,List.mem_map];exact⟨q,hq,rfl⟩)]
   rw[this]
  case makeSlice t l c=>rw[h l (by simp),h c (by simp)]
  case store t a v=>rw[h a (by simp),h v (by simp)]
  case makeMap t r=>cases r<;>rfl
  case lookup t x i ok=>rw[h x (by simp),h i (by simp)]
  case mapUpdate t x k v=>rw[h x (by simp),h k (by simp),h v (by simp)]
  case insert t x k v=>rw[h x (by simp),h k (by simp),h v (by simp)]
  case call c=>
   obtain⟨callee,args,tys⟩:=c
   cases callee with
   |value _=>simp at hq
   |invoke _ _=>simp at hq
   |builtin b=>
    simp only[Call.operands] at h
    obtain⟨args⟩:=args
    cases b<;>simp only[Bool.false_eq_true] at hq
    all_goals
     rcases args with _ | ⟨x,_ | ⟨y,_ | ⟨z,r⟩⟩⟩<;>first | rfl | simp only[h x (by simp),h y (by simp)] | simp only[h x (by simp)]
theorem z6 {ρ ρ':Operand→AV} {o:Oper} (h : ∀x∈o.op.operands,ρ x=ρ' x):target ρ o=target ρ' o:=by
 obtain⟨dst,op,type,pos,after,guard⟩:=o
 cases op<;>try rfl
 case call c=>
  obtain⟨callee,args,tys⟩:=c
  cases callee with
  |value f=>
   simp only[Op.operands,Call.operands] at h
   have h1:ρ f=ρ' f:=h f (by simp)
   have h2:args.toList.map ρ=args.toList.map ρ':=List.map_congr_left fun x hx=>h x (by simp_all)
   simp only[target,h1,h2]
  |_=>rfl
theorem fZ : ∀(us:kQ) (m:Mem) (b:Nat),b∉us.map (·.1)→(apply m us)[b]? = m[b]?
 |[],_,_,_=>rfl
 |(i,x)::us,m,b,h=>by
  simp only[List.map_cons,List.mem_cons,not_or] at h
  simp only[apply]
  rw[fZ us _ b h.2,List.getElem?_set_ne (fun e=>h.1 e.symm)]
theorem Bz : ∀(us:kQ) (m m':Mem) (b:Nat),m.length=m'.length→b∈us.map (·.1)→(apply m us)[b]? = (apply m' us)[b]?
 |(i,x)::us,m,m',b,hl,h=>by
  simp only[apply]
  by_cases hb:b∈us.map (·.1)
  · exact Bz us _ _ b (by simp[hl]) hb
  · rw[fZ us _ b hb,fZ us _ b hb]
    simp only[List.map_cons,List.mem_cons] at h
    have:b=i:=h.resolve_right hb
    subst this
    simp only[List.getElem?_set,hl,if_true]
abbrev fo.w (d:fo):List Nat:=d.us.map (·.1)
structure iG (ds:List fo) (base:Mem) (S:Nat→Prop) (M:Mem):Prop where
 len:M.length=base.length
 out : ∀b,(∀j d,S j→ds[j]? = some d→b∉d.w)→M[b]? = base[b]?
 last : ∀j d b,S j→ds[j]? = some d→b∈d.w→(∀k e,S k→j<k→ds[k]? = some e→b∉e.w)→M[b]? = (apply base d.us)[b]?
theorem iG.nil {ds:List fo} {base:Mem} {S:Nat→Prop} (h : ∀j,¬S j):iG ds base S base:=⟨rfl,fun _ _=>rfl,fun j _ _ hj=>absurd hj (h j)⟩
theorem iG.step {ds:List fo} {base M:Mem} {S S':Nat→Prop} {i:Nat} {d:fo} (h:iG ds base S M) (hd:ds[i]? = some d) (hS : ∀j,S' j↔S j∨j=i) (hi : ¬S i)
  (ZL : ∀j e,S j→i<j→ds[j]? = some e → ∀b∈d.w,b∉e.w):iG ds base S' (apply M d.us):=by
 refine⟨by rw[dr];exact h.len,fun b hb=> ?_,fun j e b hj he vP hl=> ?_⟩
 · rw[fZ _ _ _ (hb i d ((hS i).2 (.inr rfl)) hd)]
   exact h.out b fun j e hj he=>hb j e ((hS j).2 (.inl hj)) he
 · rcases(hS j).1 hj with hj' | rfl
   · have hbd:b∉d.w:=by
      intro q
      rcases Nat.lt_trichotomy j i with hlt | heq | hgt
      · exact hl i d ((hS i).2 (.inr rfl)) hlt hd q
      · subst heq;exact hi hj'
      · exact ZL j e hj' hgt he b q vP
     rw[fZ _ _ _ hbd]
     exact h.last j e b hj' he vP fun k x hk Ng hx=>hl k x ((hS k).2 (.inl hk)) Ng hx
   · rw[hd] at he;cases he
     exact Bz _ _ _ _ h.len vP
theorem EV {p:Nat→Prop} {n:Nat} (hb : ∀k,p k→k<n) : ∀(r j:Nat),n-j=r→p j → ∃j,p j ∧ ∀k,p k → ¬j<k:=by
 intro r
 induction r using Nat.strongRecOn with
 |ind r ih=>
  intro j hr hj
  by_cases h : ∃k,p k∧j<k
  · obtain⟨k,hk,Ng⟩:=h
    have:=hb k hk
    exact ih (n-k) (by omega) k rfl hk
  · exact⟨j,hj,fun k hk Ng=>h ⟨k,hk,Ng⟩⟩
theorem iG.agree {ds:List fo} {base M M':Mem} {S T:Nat→Prop} (h:iG ds base S M) (h':iG ds base T M') {b:Nat} (ZM : ∀j d,ds[j]? = some d→b∈d.w→(S j↔T j)):M[b]? = M'[b]? :=by
 by_cases hw : ∃j d,S j∧ds[j]? = some d∧b∈d.w
 · obtain⟨j0,d0,q1,q2,q3⟩:=hw
   obtain⟨j,⟨hj,d,hd,hbd⟩,hl⟩:=EV (p:=fun j=>S j ∧ ∃d,ds[j]? = some d∧b∈d.w) (n:=ds.length) (fun k ⟨_,d,hd,_⟩=>(List.getElem?_eq_some_iff.1 hd).1) _ j0 rfl ⟨q1,d0,q2,q3⟩
   rw[h.last j d b hj hd hbd fun k e hk Ng he vP=>hl k ⟨hk,e,he,vP⟩ Ng,
    h'.last j d b ((ZM j d hd hbd).1 hj) hd hbd fun k e hk Ng he vP=>hl k ⟨(ZM k e he vP).2 hk,e,he,vP⟩ Ng]
 · rw[h.out b fun j d hj hd hbd=>hw ⟨j,d,hj,hd,hbd⟩,h'.out b fun j d hj hd hbd=>hw ⟨j,d,(ZM j d hd hbd).2 hj,hd,hbd⟩]
def kG (m:Mem):List fo→Mem
 |[]=>m
 |d::r=>kG (apply m d.us) r
theorem oz (m:Mem) : ∀(ds es:List fo),kG m (ds++es)=kG (kG m ds) es
 |[],_=>rfl
 |d::ds,es=>oz (apply m d.us) ds es
theorem tD (ds:List fo) (base:Mem) : ∀i,i≤ds.length→iG ds base (· < i) (kG base (ds.take i))
 |0,_=>iG.nil fun _ h=>absurd h (Nat.not_lt_zero _)
 |i+1,h=>by
  have hi:i<ds.length:=h
  rw[List.take_succ_eq_append_getElem hi,oz]
  exact(tD ds base i (by omega)).step (d:=ds[i]) (List.getElem?_eq_getElem hi) (fun j=>by omega) (by omega) fun j e hj hij=>absurd hj (by omega)
def jF (nx:Nat) (m:Mem):Prop:= ∀i,nx≤i→i<m.length→m[i]? = some .free
def Zm (P:Program) (E:Env) (wr:Oper→Bool) (st:St) (nx:Nat) (o:Oper) (d:fo) (iy:Nat):Prop:=
 (∃g args v m1,target (ev E st.tm) o=some (g,args)∧aC P E g (dO (idx (close st.mem 0 args)) args) (pack st.mem (close st.mem 0 args)) v m1∧(close st.mem 0 args).length≤m1.length ∧
   (∀i∈close st.mem 0 args,i<nx)∧iy=nx+(m1.length-(close st.mem 0 args).length)∧iy≤st.mem.length∧d=mA st.mem.length nx (close st.mem 0 args) v m1) ∨
 (target (ev E st.tm) o=none∧wT o=true∧qo P (fun i=>st.mem.getD i .dead) (wr o) nx (ev E st.tm) o=some (d.v,d.us,true)∧d.fp=d.w++(Gf (ev E st.tm) o++cond (makes o) [nx] []) ∧
   (∀b∈d.w,b<iy)∧iy=cond (makes o) (nx+1) nx∧iy≤st.mem.length∧d.ld=QY P (ev E st.tm) o d.v)
def BA (P:Program) (E:Env) (wr:Oper→Bool) (ops:Array Oper) (st:St) (nx:Nat) (o:Oper) (d:fo) (iy:Nat):Prop:=
 ((dm ops st.tm o = .yes ∨ ∃s b want,dm ops st.tm o = .ask s b want∧(b==want)=true)∧Zm P E wr st nx o d iy) ∨
 ((dm ops st.tm o = .no ∨ ∃s b want,dm ops st.tm o = .ask s b want∧(b==want)=false)∧d=⟨.aS [],[],[],fun _ _=>false⟩∧iy=nx)
inductive wA (P:Program) (E:Env) (wr:Oper→Bool) (ops:Array Oper):List Oper→St→Nat→List fo→St→Nat→Prop
 |nil (st:St) (nx:Nat):wA P E wr ops [] st nx [] st nx
 |cons (o:Oper) (r:List Oper) (st:St) (nx:Nat) (d:fo) (iy:Nat) (ds:List fo) (st':St) (mT:Nat) (hf:fits st o.dst=true) (h:BA P E wr ops st nx o d iy)
   (hr:wA P E wr ops r (put {st with mem:=apply st.mem d.us} o.dst d.v) iy ds st' mT):wA P E wr ops (o::r) st nx (d::ds) st' mT
theorem Dl {t:Option AV} {r:Option (fo×Nat×Bool)} {d:fo} {nx:Nat} (h:ED t r=some (d,nx,true)):r=some (d,nx,true):=by
 unfold ED at h
 split at h
 · exact h
 · split at h
   · rename_i v d0 n0 ok
     simp only[Option.some.injEq,Prod.mk.injEq,Bool.and_eq_true] at h
     obtain⟨rfl,rfl,h1,h2⟩:=h
     have e:=iZ h2
     subst h1
     obtain⟨v0,us,fp,ld⟩:=d0
     simp only at e
     subst e
     rfl
   · cases h
theorem Gu {f bK:Nat} {O:FuncId→List AV→Mem→Option (AV×Mem)} (hO : ∀g args m v m1,O g args m=some (v,m1)→aC P E g args m v m1) {nx iy:Nat} {o:Oper} {st:St} {d:fo}
  (h:gK P E f bK O nx o st=some (d,iy,true)):Zm P E (fun o=>E.wr f (o.dst.getD 0)) st nx o d iy:=by
 have h:=Dl h
 unfold mB at h
 split at h
 · rename_i g args ht
   dsimp only at h
   split at h
   · rename_i v m1 ho
     simp only[Option.some.injEq,Prod.mk.injEq,Bool.and_eq_true] at h
     obtain⟨rfl,rfl,h1,h2,h3⟩:=h
     exact .inl ⟨g,args,v,m1,ht,hO _ _ _ _ _ ho,Nat.le_of_ble_eq_true h1,eF h2,rfl,Nat.le_of_ble_eq_true h3,rfl⟩
   · cases h
 · rename_i ht
   split at h
   · rename_i v us ok hop
     simp only[Option.some.injEq,Prod.mk.injEq,Bool.and_eq_true] at h
     obtain⟨rfl,rfl,rfl,h1,h2,h3⟩:=h
     exact .inr ⟨ht,h1,hop,rfl,eF h2,rfl,Nat.le_of_ble_eq_true h3,rfl⟩
   · cases h
theorem pW {f bK:Nat} {O:FuncId→List AV→Mem→Option (AV×Mem)} (hO : ∀g args m v m1,O g args m=some (v,m1)→aC P E g args m v m1) {ops:Array Oper} : ∀{l:List Oper} {nx mT:Nat} {st st':St} {ds:List fo},
  fR P E f bK O ops l nx st=some (st',mT,ds,true)→wA P E (fun o=>E.wr f (o.dst.getD 0)) ops l st nx ds st' mT
 |[],nx,mT,st,st',ds,h=>by
  simp only[fR,Option.some.injEq,Prod.mk.injEq,and_true] at h
  obtain⟨rfl,rfl,rfl⟩:=h
  exact .nil st nx
 |o::r,nx,mT,st,st',ds,h=>by
  have skip:(match fR P E f bK O ops r nx (put st o.dst (.aS [])) with
   |some (st',mT,ds,ok)=>some (st',mT,(⟨.aS [],[],[],fun _ _=>false⟩:fo)::ds,fits st o.dst&&ok)
   |none=>none)=some (st',mT,ds,true)→(dm ops st.tm o = .no ∨ ∃s b want,dm ops st.tm o = .ask s b want∧(b==want)=false)→wA P E (fun o=>E.wr f (o.dst.getD 0)) ops (o::r) st nx ds st' mT:=by
   intro h hw
   split at h
   · rename_i Nz iy ZN ok hq
     simp only[Option.some.injEq,Prod.mk.injEq,Bool.and_eq_true] at h
     obtain⟨rfl,rfl,rfl,h1,rfl⟩:=h
     exact .cons o r st nx _ nx _ _ _ h1 (.inr ⟨hw,rfl,rfl⟩) (pW hO hq)
   · cases h
  have nT:(match gK P E f bK O nx o st with
   |some (d,iy,ok)=>match fR P E f bK O ops r iy (put {st with mem:=apply st.mem d.us} o.dst d.v) with
    |some (st',mT,ds,ok')=>some (st',mT,d::ds,ok&&(fits st o.dst&&ok'))
    |none=>none
   |none=>none)=some (st',mT,ds,true)→(dm ops st.tm o = .yes ∨ ∃s b want,dm ops st.tm o = .ask s b want∧(b==want)=true)→wA P E (fun o=>E.wr f (o.dst.getD 0)) ops (o::r) st nx ds st' mT:=by
   intro h hw
   split at h
   · rename_i d iy ok hop
     split at h
     · rename_i Nz nx2 ZN ok' hq
       simp only[Option.some.injEq,Prod.mk.injEq,Bool.and_eq_true] at h
       obtain⟨rfl,rfl,rfl,rfl,h1,rfl⟩:=h
       exact .cons o r st nx d iy _ _ _ h1 (.inl ⟨hw,Gu hO hop⟩) (pW hO hq)
     · cases h
   · cases h
  unfold fR at h
  dsimp only at h
  cases hw:dm ops st.tm o with
  |yes=>rw[hw] at h;exact nT h (.inl hw)
  |no=>rw[hw] at h;exact skip h (.inl hw)
  |lost=>rw[hw] at h;cases h
  |ask s b want=>
   rw[hw] at h
   dsimp only at h
   cases hb:b==want with
   |true=>rw[hb] at h;exact nT h (.inr ⟨s,b,want,hw,hb⟩)
   |false=>rw[hb] at h;exact skip h (.inr ⟨s,b,want,hw,hb⟩)
theorem xp {N nx:Nat} {ord:List Nat} {v:AV} {m1:Mem} {b:Nat} (h:b∈(mA N nx ord v m1).w):b∈(mA N nx ord v m1).fp:=by
 simp only[mA,fo.w,List.mem_map] at h ⊢
 obtain⟨q,hq,rfl⟩:=h
 exact(List.of_mem_zip hq).1
theorem Zm.facts {wr:Oper→Bool} {st:St} {nx iy:Nat} {o:Oper} {d:fo} (h:Zm P E wr st nx o d iy):nx≤iy∧iy≤st.mem.length∧(∀b∈d.w,b<iy) ∧ ∀b∈d.w,b∈d.fp:=by
 rcases h with⟨g,args,v,m1,_,_,h1,h2,rfl,h3,rfl⟩ | ⟨_,_,_,h1,h2,rfl,h3,_⟩
 · refine⟨by omega,h3,fun b hb=> ?_,fun b hb=>xp hb⟩
   have:=xp hb
   simp only[mA,List.mem_append,List.mem_range'_1] at this
   rcases this with q | q
   · have:=h2 b q;omega
   · omega
 · refine⟨by cases makes o<;>simp,h3,h2,fun b hb=> ?_⟩
   rw[h1]
   exact List.mem_append_left _ hb
theorem BA.facts {wr:Oper→Bool} {ops:Array Oper} {st:St} {nx iy:Nat} {o:Oper} {d:fo} (h:BA P E wr ops st nx o d iy) (hn:nx≤st.mem.length):nx≤iy∧iy≤st.mem.length∧(∀b∈d.w,b<iy) ∧ ∀b∈d.w,b∈d.fp:=by
 rcases h with⟨_,h⟩ | ⟨_,rfl,rfl⟩
 · exact h.facts
 · exact⟨Nat.le_refl _,hn,by simp,by simp⟩
theorem cO.Wr {l:List Oper} {vs:List AV} {S S' T T':St} {i:Nat} (h:cO l vs S i T) (h1:S'.tm=S.tm) (h2:S'.nt=S.nt) (h3:S'.fix=S.fix) (h4:T'.tm=T.tm) (h5:T'.nt=T.nt) (h6:T'.fix=T.fix) (h7:T'.mem=S'.mem):cO l vs S' i T':=by
 obtain⟨_,q2,q3,q4,q5⟩:=h
 refine⟨h7,by rw[h5,h2];exact q2,by rw[h6,h3];exact q3,?_,?_⟩
 · intro j p v t a b c d;rw[h4];exact q4 j p v t a b c d
 · intro t ht;rw[h4,h1];exact q5 t ht
theorem qG (st:St) (m:Mem) (dst:Option Tmp) (v:AV):put {st with mem:=m} dst v={put st dst v with mem:=m}:=by cases dst<;>rfl
theorem wA.spec {wr:Oper→Bool} {ops:Array Oper} {l:List Oper} {st st':St} {nx mT:Nat} {ds:List fo} (h:wA P E wr ops l st nx ds st' mT) (hu:Bw l) (hn:nx≤st.mem.length) (hfr:jF nx st.mem) :
  ds.length=l.length∧cO l (ds.map (·.v)) st l.length {st' with mem:=st.mem}∧st'.mem=kG st.mem ds∧st'.bU=st.bU ∧
    ∀(i:Nat) (o:Oper),l[i]? = some o → ∃d gp tE BB,ds[i]? = some d∧BA P E wr ops gp tE o d BB∧fits gp o.dst=true∧cO l (ds.map (·.v)) st i {gp with mem:=st.mem}∧gp.mem=kG st.mem (ds.take i)∧jF tE gp.mem∧tE≤gp.mem.length:=by
 induction h with
 |nil st nx=>exact⟨rfl,⟨rfl,rfl,rfl,fun j _ _ _ hj=>absurd hj (Nat.not_lt_zero _),fun _ _=>rfl⟩,rfl,rfl,fun i o ho=>by simp at ho⟩
 |cons o r st nx d iy ds st' mT hf hk hr ih=>
  have Nd:Bw r:=fun i j p q t hij hp hq=>hu (i+1) (j+1) p q t (by omega) (by simpa using hp) (by simpa using hq)
  obtain⟨f1,f2,f3,f4⟩:=hk.facts hn
  have hm:(put {st with mem:=apply st.mem d.us} o.dst d.v).mem=apply st.mem d.us:=by rw[qG]
  have ZO:jF iy (apply st.mem d.us):=by
   intro i hi hl
   rw[dr] at hl
   rw[fZ _ _ _ fun q=>by have:=f3 i q;omega]
   exact hfr i (by omega) hl
  obtain⟨h1,h2,h3,h5,h4⟩:=ih Nd (by rw[hm,dr];exact f2) (by rw[hm];exact ZO)
  have shift : ∀{i:Nat} {T:St},cO r (ds.map (·.v)) (put {st with mem:=apply st.mem d.us} o.dst d.v) i {T with mem:=(put {st with mem:=apply st.mem d.us} o.dst d.v).mem} →
    cO (o::r) ((d::ds).map (·.v)) st (i+1) {T with mem:=st.mem}:=by
   intro i T hs
   refine cO.cons (vs:=ds.map (·.v)) (v:=d.v) hu (hs.Wr (S':=put st o.dst d.v) (T':={T with mem:=st.mem}) ?_ ?_ ?_ rfl rfl rfl ?_)
   · cases o.dst<;>rfl
   · cases o.dst<;>rfl
   · cases o.dst<;>rfl
   · exact(zX st o.dst d.v).1.symm
  refine⟨by simp[h1],shift h2,by rw[h3,hm];rfl,h5.trans (by cases o.dst<;>rfl),?_⟩
  intro i p hp
  cases i with
  |zero=>
   simp only[List.getElem?_cons_zero,Option.some.injEq] at hp
   subst hp
   exact⟨d,st,nx,iy,rfl,hk,hf,⟨rfl,rfl,rfl,fun j _ _ _ hj=>absurd hj (Nat.not_lt_zero _),fun _ _=>rfl⟩,rfl,hfr,hn⟩
  |succ i=>
   obtain⟨e,gp,tE,BB,q1,q2,q3,q4,q5,q6,q7⟩:=h4 i p (by simpa using hp)
   refine⟨e,gp,tE,BB,by simpa using q1,q2,q3,shift q4,?_,q6,q7⟩
   rw[q5,hm];rfl
def NG (d e:fo):Prop:=e.us=[] ∧ ∀b∈d.w,b∈e.fp → ∃x,sy d.us b=some x∧e.ld b x=true
theorem tF : ∀{l:List Nat} {i:Nat},i∈l→has l i=true
 |j::r,i,h=>by
  simp only[has]
  cases hb:Nat.beq j i with
  |true=>rfl
  |false=>
   rcases List.mem_cons.1 h with e | h
   · subst e;rw[Nat.beq_refl] at hb;cases hb
   · exact tF h
theorem Dm {d e:fo} (h:zy d e=true):NG d e:=by
 simp only[zy,Bool.and_eq_true,List.all_eq_true] at h
 refine⟨?_,fun b hb hf=> ?_⟩
 · have h1:=h.1
   cases hu:e.us with
   |nil=>rfl
   |cons _ _=>rw[hu] at h1;cases h1
 · have:=h.2 b hb
   rw[tF hf,Bool.not_true,Bool.false_or] at this
   split at this
   · rename_i x hx
     exact⟨x,hx,this⟩
   · cases this
theorem tG : ∀{us:kQ} {b:Nat},sy us b=none→b∉us.map (·.1)
 |[],_,_=>by simp
 |(i,x)::r,b,h=>by
  simp only[sy] at h
  split at h
  · cases h
  · rename_i hr
    cases hb:Nat.beq i b with
    |true=>rw[hb] at h;cases h
    |false=>
     simp only[List.map_cons,List.mem_cons,not_or]
     exact⟨fun e=>(by subst e;rw[Nat.beq_refl] at hb;cases hb),tG hr⟩
theorem tH : ∀{us:kQ} {m:Mem} {b:Nat} {x:bg},sy us b=some x→b<m.length→(apply m us)[b]? = some x
 |(i,y)::r,m,b,x,h,hb=>by
  simp only[sy] at h
  simp only[apply]
  split at h
  · rename_i z hz
    simp only[Option.some.injEq] at h
    subst h
    exact tH hz (by simpa using hb)
  · rename_i hr
    cases hib:Nat.beq i b with
    |false=>rw[hib] at h;cases h
    |true=>
     rw[hib] at h
     simp only[cond_true,Option.some.injEq] at h
     subst h
     have:=Nat.eq_of_beq_eq_true hib
     subst this
     rw[fZ r _ _ (tG hr),List.getElem?_set_self hb]
structure Ws (L:List Nat) (ds:List fo):Prop where
 pair : ∀(i j:Nat) (d e:fo),j<i→ds[i]? = some d→ds[j]? = some e→Nat.testBit (L.getD i 0) j=true∨((∀b∈e.w,b∉d.fp)∧((∀b∈d.w,b∉e.fp)∨NG d e))
theorem pX {a b:List Nat} (h:meet a b=false) : ∀i∈a,i∉b:=fun _ ha hb=>j7 h ha hb
theorem qH {L:List Nat} : ∀{r kJ:List fo},sA L kJ.length kJ r=true → ∀(i j:Nat) (d e:fo),kJ.length≤i→j<i→(kJ++r)[i]? = some d→(kJ++r)[j]? = some e →
  Nat.testBit (L.getD i 0) j=true∨((∀b∈e.w,b∉d.fp)∧((∀b∈d.w,b∉e.fp)∨NG d e))
 |[],kJ,_,i,j,d,e,hi,_,hd,_=>by
  simp only[List.append_nil] at hd
  rw[List.getElem?_eq_none hi] at hd;cases hd
 |d0::r,kJ,h,i,j,d,e,hi,hj,hd,he=>by
  simp only[sA,Bool.and_eq_true] at h
  by_cases hc:i=kJ.length
  · subst hc
    have:d=d0:=by simpa using hd.symm
    subst this
    have key : ∀(l:List fo) (k:Nat),nV L kJ.length d k l=true → ∀m x,l[m]? = some x→zz L kJ.length d (k+m) x=true:=by
     intro l
     induction l with
     |nil=>intro k _ m x hx;simp at hx
     |cons y l ih=>
      intro k hk m x hx
      simp only[nV,Bool.and_eq_true] at hk
      cases m with
      |zero=>simp only[List.getElem?_cons_zero,Option.some.injEq] at hx;subst hx;exact hk.1
      |succ m=>
       simp only[List.getElem?_cons_succ] at hx
       have:=ih (k+1) hk.2 m x hx
       rwa [Nat.add_assoc,Nat.add_comm 1 m] at this
    have he':kJ[j]? = some e:=by rwa [List.getElem?_append_left hj] at he
    have:=key kJ 0 h.1 j e he'
    simp only[zz,Nat.zero_add,Bool.or_eq_true,Bool.and_eq_true,Bool.not_eq_true'] at this
    rcases this with q | ⟨q1,q2 | q2⟩
    · exact .inl q
    · exact .inr ⟨pX q1,.inl (pX q2)⟩
    · exact .inr ⟨pX q1,.inr (Dm q2)⟩
  · have h':sA L (kJ++[d0]).length (kJ++[d0]) r=true:=by simpa using h.2
    exact qH h' i j d e (by simp;omega) hj (by simpa using hd) (by simpa using he)
theorem qI {m m':Mem} : ∀(f:Nat) (ord:List Nat) (k:Nat),ord.Nodup→(∀i∈reach m f ord k,m.getD i .dead=m'.getD i .dead)→reach m' f ord k=reach m f ord k
 |0,_,_,_,_=>rfl
 |f+1,ord,k,hnd,h=>by
  simp only[reach] at h ⊢
  cases hk:ord[k]? with
  |none=>rfl
  |some i=>
   simp only[hk] at h
   dsimp only
   have Dd:=(cX (wP (m.getD i .dead)) ord hnd).1
   obtain⟨t1,h1⟩:=(cX (wP (m.getD i .dead)) ord hnd).2
   obtain⟨t2,h2⟩:=(j5 m f _ (k+1) Dd).2
   have hi:m.getD i .dead=m'.getD i .dead:=h i (by rw[h2,h1];exact List.mem_append_left _ (List.mem_append_left _ (List.mem_of_getElem? hk)))
   rw[←hi]
   exact qI f _ (k+1) Dd h
theorem BC {m m':Mem} {args:List AV} (hl:m.length=m'.length) (h : ∀i∈close m 0 args,m.getD i .dead=m'.getD i .dead):close m' 0 args=close m 0 args:=by
 unfold close at h ⊢
 rw[←hl]
 exact qI _ _ _ (cX _ _ (iF 0)).1 h
theorem Dn {m m':Mem} {ord:List Nat} (h : ∀i∈ord,m.getD i .dead=m'.getD i .dead):pack m' ord=pack m ord:=by
 unfold pack
 exact List.map_congr_left fun i hi=>by rw[h i hi]
theorem mY (ρ:Nat→Option Nat) : ∀(ord:List Nat) (m1 m:Mem),ord.length=m1.length→cr ρ ord m1 m=apply m (ord.zip (m1.map (ew ρ)))
 |[],[],m,_=>by simp[cr,apply]
 |i::ord,b::m1,m,h=>by
  simp only[cr,List.map_cons,List.zip_cons_cons,apply]
  exact mY ρ ord m1 _ (by simpa using h)
 |[],_::_,_,h=>by simp at h
 |_::_,[],_,h=>by simp at h
theorem Rel.Rl {g g1:Gh} {m m1:Mem} {w w':World} (h:Rel g m w) {ord R:List Nat} (hnd:(ord++R).Nodup) (hlt : ∀i∈ord++R,i<m.length) (hR : ∀i∈R,m[i]? = some .free)
  (h1:Rel g1 m1 w') (hs:cM (g.pack ord) (Am.pack m ord) w g1 m1 w') (hf:bB (g.pack ord) g1 ord.length) (hl:(ord++R).length=m1.length) :
  ∃g',Rel g' (apply m ((ord++R).zip (m1.map (ew (bp (ord++R) m.length))))) w'∧Ext g w g' w'∧cM g m w g' (apply m ((ord++R).zip (m1.map (ew (bp (ord++R) m.length))))) w'∧cJ (bp (ord++R) m.length) g1 g':=by
 have own : ∀c,eN (g.pack ord) (Am.pack m ord) c→eN (g.pack (ord++R)) (Am.pack m (ord++R)) c:=by
  rintro c ⟨k,b,hk,ho,hc⟩
  obtain⟨i,hi,rfl⟩:=iE hk
  have hi':(ord++R)[k]? = some i:=by rw[List.getElem?_append_left (bA hi)];exact hi
  refine⟨k,ew (idx (ord++R)) (m.getD i .dead),?_,by rw[jD] at ho ⊢;exact ho,?_⟩
  · simp only[Am.pack,List.getElem?_map,hi',Option.map_some]
  · simpa[Gh.pack,hi,hi'] using hc
 have hs':cM (g.pack (ord++R)) (Am.pack m (ord++R)) w g1 m1 w':=
  ⟨hs.size,fun c hc hn=>hs.keep c hc fun q=>hn (own c q),hs.pure,fun c o p=>(hs.fresh c o p).imp id fun q=>q.imp (own c) id,fun c ho=>(hs.owned c ho).imp (own c) id,hs.os,hs.tape,hs.output⟩
 have hf':bB (g.pack (ord++R)) g1 (ord++R).length:=by
  intro k c hk hc
  rcases Nat.lt_or_ge k ord.length with q | q
  · have e:(ord++R)[k]? = ord[k]? :=List.getElem?_append_left q
    have:=hf k c q (by simpa[Gh.pack,e] using hc)
    simpa[Gh.pack,e] using this
  · have e:(ord++R)[k]? = R[k-ord.length]? :=List.getElem?_append_right q
    simp only[Gh.pack,e] at hc
    cases hr:R[k-ord.length]? with
    |none=>rw[hr] at hc;cases hc
    |some i=>
     rw[hr] at hc
     simp only[Option.bind_some] at hc
     rw[h.free i (hR i (List.mem_of_getElem? hr))] at hc;cases hc
 obtain⟨r1,r2,r3,r4⟩:=h.back hnd hlt h1 hs' hf' (by omega)
 rw[mY _ _ _ _ hl] at r1 r3
 exact⟨_,r1,r2,r3,r4⟩
theorem tJ {m m':Mem} {i:Nat} (h:m[i]? = m'[i]?):m.getD i .dead=m'.getD i .dead:=by
 rw[List.getD_eq_getElem?_getD,List.getD_eq_getElem?_getD,h]
end
end Go.Am
end
section
namespace Go.Am
open Go.RowKit
section
variable {P:Program} {E:Env}
theorem j8 : ∀(ds:List fo) (m:Mem),(kG m ds).length=m.length
 |[],_=>rfl
 |d::ds,m=>by rw[kG,j8 ds,dr]
structure QE (P:Program) (E:Env) (wr:Oper→Bool) (ops:Array Oper) (m:Nat) (eY:St) (ds:List fo) (st':St):Prop where
 len:ds.length=ops.toList.length
 ends:cO ops.toList (ds.map (·.v)) eY m {st' with mem:=eY.mem}
 mem:st'.mem=kG eY.mem (ds.take m)
 each : ∀(i:Nat) (o:Oper),ops.toList[i]? = some o→i<m → ∃d gp tE BB,ds[i]? = some d∧BA P E wr ops gp tE o d BB∧fits gp o.dst=true∧cO ops.toList (ds.map (·.v)) eY i {gp with mem:=eY.mem}∧gp.mem=kG eY.mem (ds.take i)∧jF tE gp.mem∧tE≤gp.mem.length
 dum : ∀(i:Nat) (e:fo),m≤i→ds[i]? = some e→e.us=[]
theorem kL.Wt {ops:Array Oper} {L:List Nat} {vs:List AV} {eY dy:St} {S:Array Bool} (hI:kL ops L vs eY dy S) (hl:vs.length=ops.toList.length) {st':St} {m:Nat} (hst:cO ops.toList vs eY m st') (hall : ∀i,i<m→S.getD i false=true) (hnot : ∀i,m≤i→S.getD i false=false) :
  dy.mem=st'.mem∧dy.nt=st'.nt∧dy.fix=st'.fix ∧ ∀t,look dy.tm t=look st'.tm t:=by
 obtain⟨h1,h2,h3,hA,hB⟩:=hst
 have lt : ∀j,S.getD j false=true→j<m:=fun j hj=>by
  rcases Nat.lt_or_ge j m with q | q
  · exact q
  · rw[hnot j q] at hj;cases hj
 refine⟨hI.mem.trans h1.symm,hI.nt.trans h2.symm,hI.fix.trans h3.symm,fun t=> ?_⟩
 by_cases hw : ∃(j:Nat) (p:Oper),j<m∧ops.toList[j]? = some p∧p.dst=some t
 · obtain⟨j,p,hj,hp,hd⟩:=hw
   have hjl:=(List.getElem?_eq_some_iff.1 hp).1
   have IN:vs[j]? = some vs[j]:=List.getElem?_eq_getElem (by rw[hl];exact hjl)
   rw[hI.a j p _ t (hall j hj) hp IN hd,hA j p _ t hj hp IN hd]
 · rw[hI.b t fun k q hk hq hd=>hw ⟨k,q,lt k hk,hq,hd⟩,hB t fun k q hk hq hd=>hw ⟨k,q,hk,hq,hd⟩]
theorem NH {ops:Array Oper} {S:Array Bool} (h : ∀i,i<ops.size→S.getD i false=true) (hs:S.size=ops.size) (fuel t:Nat):Region.linearise.go .any ops fuel t S []=[]:=by
 cases fuel with
 |zero=>rfl
 |succ fuel=>
  have hr:Region.ready .any ops S=[]:=by
   cases hr:Region.ready .any ops S with
   |nil=>rfl
   |cons x xs=>
    have hx:x∈Region.ready .any ops S:=by rw[hr];exact .head _
    obtain⟨h1,o,ho,_⟩:=mem_ready.1 hx
    have hlt:=(Array.getElem?_eq_some_iff.1 ho).1
    have:=h x hlt
    rw[jE (by omega) false true,h1] at this
    cases this
  simp only[Region.linearise.go]
  show(match(Region.ready .any ops S)[t%(Region.ready .any ops S).length]? with
   |some i=>Region.linearise.go .any ops fuel (t / (Region.ready .any ops S).length) (S.setIfInBounds i true) [i]
   |none=>[].reverse)=[]
  rw[hr]
  rfl
theorem NI {b:Frame} {k:List Item} (cs:List Frame) {ops:Array Oper} {L:List Nat} {ds:List fo} {eY st':St} {m:Nat} {wr:Oper→Bool} (hO:rA ops L) (hL:Ws L ds) (hrun:QE P E wr ops m eY ds st')
  (hm:m=ops.size∨(m+1=ops.size ∧ ∀j,j<m→Nat.testBit (L.getD m 0) j=true)) : ∀(fuel t:Nat) (S:Array Bool) (dy:St) (a:Act) (g:Gh) (w:World) (u:List Nat),
    kL ops L (ds.map (·.v)) eY {dy with mem:=eY.mem} S→iG ds eY.mem (fun j=>S.getD j false=true) dy.mem→bS E g dy a w→u.length=fuel→(∀i,i<ops.size→S.getD i false=false→i∈u)→(∀i,m≤i→S.getD i false=false) →
    ∃g' a' w',Steps P (lone (b.atR a (.inRegion ops (Region.linearise.go .any ops fuel t S [])::k)) cs w) (lone (b.atR a' (.inRegion ops (List.range' m (ops.size-m))::k)) cs w')∧a'.defers=a.defers∧bS E g' st' a' w' ∧
     cM g dy.mem w g' st'.mem w'∧bB g g' eY.fix ∧ ∀i c,g.bE i=some c→g'.bE i=some c:=by
 obtain⟨ZP,hend,hmem,hspec,Wu⟩:=hrun
 have hl:(ds.map (·.v)).length=ops.toList.length:=by simpa using ZP
 have ach:ds.length=ops.size:=by simpa using ZP
 have Wg:m≤ops.size:=by omega
 have fin : ∀(S:Array Bool) (dy:St) (a:Act) (g:Gh) (w:World),kL ops L (ds.map (·.v)) eY {dy with mem:=eY.mem} S→iG ds eY.mem (fun j=>S.getD j false=true) dy.mem→bS E g dy a w →
   (∀i,i<m→S.getD i false=true)→(∀i,m≤i→S.getD i false=false)→bS E g st' a w∧dy.mem=st'.mem:=by
  intro S dy a g w hI hM hs hall hnot
  obtain⟨_,e2,e3,e4⟩:=hI.Wt hl hend hall hnot
  have hm:dy.mem=st'.mem:=by
   apply List.ext_getElem?
   intro i
   rw[hmem]
   have h2:=tD ds eY.mem m (by omega)
   refine hM.agree h2 fun j d hd _=> ?_
   refine⟨fun hS=> ?_,fun hj=>hall j hj⟩
   rcases Nat.lt_or_ge j m with q | q
   · exact q
   · rw[hnot j q] at hS;cases hS
  exact⟨hs.same hm e2 e3 e4,hm⟩
 have full : ∀(S:Array Bool),(∀i,i<ops.size→S.getD i false=true)→(∀i,m≤i→S.getD i false=false)→m=ops.size:=by
  intro S h1 h2
  rcases hm with q | ⟨q,_⟩
  · exact q
  · have:=h1 m (by omega);rw[h2 m (Nat.le_refl _)] at this;cases this
 intro fuel
 induction fuel with
 |zero=>
  intro t S dy a g w u hI hM hs Rj hu hnot
  have hall : ∀i,i<ops.size→S.getD i false=true:=by
   intro i hi
   cases hq:S.getD i false with
   |true=>rfl
   |false=>
    have:=hu i hi hq
    rw[List.eq_nil_of_length_eq_zero Rj] at this;cases this
  have Wv:=full S hall hnot
  obtain⟨h1,h2⟩:=fin S dy a g w hI hM hs (fun i hi=>hall i (by omega)) hnot
  refine⟨g,a,w,?_,rfl,h1,by rw[h2];exact cM.refl _ _ _,bB.refl _ _,fun _ _ h=>h⟩
  rw[Wv,Nat.sub_self,List.range'_zero]
  exact Steps.refl _ _
 |succ fuel ih=>
  intro t S dy a g w u hI hM hs Rj hu hnot
  simp only[Region.linearise.go]
  show ∃g' a' w',Steps P (lone (b.atR a (.inRegion ops (match(Region.ready .any ops S)[t%(Region.ready .any ops S).length]? with
   |some i=>Region.linearise.go .any ops fuel (t / (Region.ready .any ops S).length) (S.setIfInBounds i true) [i]
   |none=>[].reverse)::k)) cs w) (lone (b.atR a' (.inRegion ops (List.range' m (ops.size-m))::k)) cs w')∧_
  cases hi:(Region.ready .any ops S)[t%(Region.ready .any ops S).length]? with
  |none=>
   have I9:Region.ready .any ops S=[]:=by
    cases hr:Region.ready .any ops S with
    |nil=>rfl
    |cons x xs=>
     rw[hr] at hi
     have hlt:t%(x::xs).length<(x::xs).length:=Nat.mod_lt _ (by simp)
     rw[List.getElem?_eq_getElem hlt] at hi;cases hi
   have hall:=hI.all hO I9
   have Wv:=full S hall hnot
   obtain⟨h1,h2⟩:=fin S dy a g w hI hM hs (fun i hi=>hall i (by omega)) hnot
   refine⟨g,a,w,?_,rfl,h1,by rw[h2];exact cM.refl _ _ _,bB.refl _ _,fun _ _ h=>h⟩
   rw[Wv,Nat.sub_self,List.range'_zero]
   exact Steps.refl _ _
  |some i=>
   have NB:=List.mem_of_getElem? hi
   obtain⟨ZI,o,ho,_⟩:=mem_ready.1 NB
   have ho':ops.toList[i]? = some o:=by simpa using ho
   have hilt:i<ops.size:=(Array.getElem?_eq_some_iff.1 ho).1
   by_cases ZQ:i<m
   case neg=>
    have hme:i=m∧m+1=ops.size ∧ ∀j,j<m→Nat.testBit (L.getD m 0) j=true:=by
     rcases hm with q | ⟨q1,q2⟩
     · omega
     · exact⟨by omega,q1,q2⟩
    obtain⟨rfl,hsz,Ww⟩:=hme
    have hall : ∀j,j<i→S.getD j false=true:=fun j hj=>hI.ahead hO NB (Ww j hj)
    obtain⟨h1,h2⟩:=fin S dy a g w hI hM hs hall hnot
    dsimp only
    rw[linearise_go_acc,List.reverse_singleton,List.singleton_append,NH (fun j hj=>by
     by_cases e:i=j
     · subst e;simp[Array.getD_eq_getD_getElem?,hI.size,hj]
     · rw[getD_set_ne false e];exact hall j (by omega)) (by simp[hI.size])]
    refine⟨g,a,w,?_,rfl,h1,by rw[h2];exact cM.refl _ _ _,bB.refl _ _,fun _ _ h=>h⟩
    rw[show ops.size-i=1 by omega,List.range'_one]
    exact Steps.refl _ _
   obtain⟨d,gp,tE,BB,hd,hk,hf,Di,hmi,Wx,ZR⟩:=hspec i o ho' ZQ
   have hv:(ds.map (·.v))[i]? = some d.v:=by rw[List.getElem?_map,hd];rfl
   have tB : ∀t∈slots ops o,look dy.tm t=look gp.tm t:=fun t ht=>hI.slots hO ho' NB hl Di ht
   have hid:i<ds.length:=(List.getElem?_eq_some_iff.1 hd).1
   have hni:S.getD i false=false:=by rw[jE (by rw[hI.size];exact hilt) false true];exact ZI
   have Ja:i∈u:=hu i hilt hni
   have Nd : ∀j,j<ops.size→(S.setIfInBounds i true).getD j false=false→j∈u.erase i:=by
    intro j hj hq
    have hne:j≠i:=by
     intro e
     subst e
     rw[show(S.setIfInBounds j true).getD j false=true by simp[Array.getD_eq_getD_getElem?,hI.size,hj]] at hq
     cases hq
    rw[getD_set_ne false (fun e=>hne e.symm)] at hq
    exact(List.mem_erase_of_ne hne).2 (hu j hj hq)
   have Wy : ∀j,m≤j→(S.setIfInBounds i true).getD j false=false:=by
    intro j hj
    rw[getD_set_ne false (by omega)]
    exact hnot j hj
   have NC:(u.erase i).length=fuel:=by rw[List.length_erase_of_mem Ja,Rj];rfl
   have vY : ∀j,(S.setIfInBounds i true).getD j false=true↔S.getD j false=true∨j=i:=by
    intro j
    by_cases h:i=j
    · subst h
      simp[Array.getD_eq_getD_getElem?,hI.size,hilt]
    · rw[getD_set_ne false h]
      exact⟨.inl,fun q=>q.resolve_right fun e=>h e.symm⟩
   have hwf : ∀b∈d.w,b∈d.fp:=(hk.facts ZR).2.2.2
   have wfp : ∀(j:Nat) (e:fo),ds[j]? = some e → ∀b∈e.w,b∈e.fp:=by
    intro j e he
    have hj:=(List.getElem?_eq_some_iff.1 he).1
    have V4:ops.toList[j]? = some ops.toList[j]:=List.getElem?_eq_getElem (by omega)
    by_cases ZS:j<m
    case neg=>
     intro b hb
     rw[fo.w,Wu j e (by omega) he] at hb
     cases hb
    obtain⟨e',stj,nxj,ZT,q1,q2,_,_,_,_,q3⟩:=hspec j _ V4 ZS
    rw[he] at q1;cases q1
    exact(q2.facts q3).2.2.2
   have Zf:=tD ds eY.mem i (by omega)
   rw[←hmi] at Zf
   have wlt : ∀(j:Nat) (e:fo),ds[j]? = some e → ∀b∈e.w,b<eY.mem.length:=by
    intro j e he b hb
    have hj:=(List.getElem?_eq_some_iff.1 he).1
    have V4:ops.toList[j]? = some ops.toList[j]:=List.getElem?_eq_getElem (by omega)
    by_cases ZS:j<m
    case neg=>
     rw[fo.w,Wu j e (by omega) he] at hb
     cases hb
    obtain⟨e',stj,nxj,ZT,q1,q2,_,_,q4,_,q3⟩:=hspec j _ V4 ZS
    rw[he] at q1;cases q1
    have h1:=(q2.facts q3).2.2.1 b hb
    have h2:=(q2.facts q3).2.1
    have h3:=j8 (ds.take j) eY.mem
    rw[q4,h3] at h2
    omega
   have hag : ∀b∈d.fp,dy.mem[b]? = gp.mem[b]? ∨ (d.us=[] ∧ ∃x,dy.mem[b]? = some x∧d.ld b x=true):=by
    intro b hb
    by_cases hw : ∃j e,S.getD j false=true∧i<j∧ds[j]? = some e∧b∈e.w
    · obtain⟨j0,e0,q1,q2,q3,q4⟩:=hw
      obtain⟨j,⟨hj,e,he,vP⟩,hl⟩:=EV (p:=fun j=>S.getD j false=true ∧ ∃d,ds[j]? = some d∧b∈d.w) (n:=ds.length) (fun k ⟨_,d,hd,_⟩=>(List.getElem?_eq_some_iff.1 hd).1) _ j0 rfl ⟨q1,e0,q3,q4⟩
      have hij:i<j:=by
       rcases Nat.lt_or_ge i j with q | q
       · exact q
       · exact absurd (show j<j0 by omega) (hl j0 ⟨q1,e0,q3,q4⟩)
      have BD:=hM.last j e b hj he vP fun k x hk Ng hx hbx=>hl k ⟨hk,x,hx,hbx⟩ Ng
      rcases hL.pair j i e d hij he hd with q | ⟨_,q | q⟩
      · have:=hI.cl j i hj q;rw[hni] at this;cases this
      · exact absurd hb (q b vP)
      · obtain⟨x,hx,ZU⟩:=q.2 b vP hb
        rw[tH hx (wlt j e he b vP)] at BD
        exact .inr ⟨q.1,x,BD,ZU⟩
    · refine .inl (hM.agree Zf fun j e he vP=> ?_)
      rcases Nat.lt_trichotomy j i with hlt | heq | hgt
      · rcases hL.pair i j d e hlt hd he with q | ⟨q,_⟩
        · exact⟨fun _=>hlt,fun _=>hI.ahead hO NB q⟩
        · exact absurd hb (q b vP)
      · subst heq
        exact⟨fun q=>(by rw[hni] at q;cases q),fun q=>absurd q (Nat.lt_irrefl _)⟩
      · exact⟨fun q=>absurd ⟨j,e,q,hgt,he,vP⟩ hw,fun q=>by omega⟩
   have Je:dy.mem.length=gp.mem.length:=hM.len.trans Zf.len.symm
   have hM':iG ds eY.mem (fun j=>(S.setIfInBounds i true).getD j false=true) (apply dy.mem d.us):=by
    refine hM.step hd vY (by rw[hni];exact fun q=>by cases q) fun j e hS hij he b hb vP=> ?_
    rcases hL.pair j i e d hij he hd with q | ⟨q,_⟩
    · have:=hI.cl j i hS q;rw[hni] at this;cases this
    · exact q b hb (wfp j e he b vP)
   have Zk:=hI.step hO ho' hv NB
   have Zl:fits dy o.dst=true:=by
    have:fits dy o.dst=fits gp o.dst:=by unfold fits;rw[show dy.nt=eY.nt from hI.nt,show gp.nt=eY.nt from Di.2.1]
    rw[this];exact hf
   have abv:dy.fix=eY.fix:=hI.fix
   have hput : ∀m:Mem,put {dy with mem:=eY.mem} o.dst d.v={put {dy with mem:=m} o.dst d.v with mem:=eY.mem}:=by
    intro m;cases o.dst<;>rfl
   have QF : ∀m:Mem,(put {dy with mem:=m} o.dst d.v).mem=m:=by intro m;cases o.dst<;>rfl
   have Wz:dy.fix≤(apply dy.mem d.us).length:=by rw[dr];exact hs.fix
   dsimp only
   rw[linearise_go_acc,List.reverse_singleton,List.singleton_append]
   have Dj:=qF tB
   have CP:=By (E:=E) tB
   obtain⟨w1,w2,w3⟩:=mH hs (ops:=ops) (o:=o)
   have go : ∀(g2:Gh) (cv:Value) (w':World),VA g2 w' d.v cv→Rel g2 (apply dy.mem d.us) w'→Ext g w g2 w'→cM g dy.mem w g2 (apply dy.mem d.us) w' →
     Steps P (lone (b.atR a (.inRegion ops (i::Region.linearise.go .any ops fuel (t / (Region.ready .any ops S).length) (S.setIfInBounds i true) [])::k)) cs w)
      (lone (b.atR (a.put o.dst cv) (.inRegion ops (Region.linearise.go .any ops fuel (t / (Region.ready .any ops S).length) (S.setIfInBounds i true) [])::k)) cs w') →
     ∃g' a' w',Steps P (lone (b.atR a (.inRegion ops (i::Region.linearise.go .any ops fuel (t / (Region.ready .any ops S).length) (S.setIfInBounds i true) [])::k)) cs w) (lone (b.atR a' (.inRegion ops (List.range' m (ops.size-m))::k)) cs w')∧a'.defers=a.defers∧bS E g' st' a' w' ∧
      cM g dy.mem w g' st'.mem w'∧bB g g' eY.fix ∧ ∀i c,g.bE i=some c→g'.bE i=some c:=by
    intro g2 cv w' k2 k3 k4 k5 kst
    have hs':=hs.put Zl k2 k4 k3 Wz
    obtain⟨g3,a3,w3',r1,r2,r3,r4,r5,r6⟩:=ih (t / (Region.ready .any ops S).length) (S.setIfInBounds i true) _ _ _ _ (u.erase i) (by rw[←hput];exact Zk) (by rw[QF];exact hM') hs' NC Nd Wy
    rw[QF] at r4
    refine⟨g3,a3,w3',kst.trans r1,r2.trans put_defers,r3,k5.trans r4,(bB.ou k4 _).trans r5,fun j c q=>r6 j c (k4.bE j c q).1⟩
   rcases hk with⟨hw,Rm⟩ | ⟨hw,rfl,rfl⟩
   · have gq:Region.wanted o (yielded ops a.tmps)=true:=by
      rcases hw with hw | ⟨s',b',want,hw,hb⟩
      · exact w1 (Dj.trans hw)
      · rw[(w3 s' b' want (Dj.trans hw)).1];exact hb
     rcases Rm with⟨gf,args,v,m1,ht,ej,h1,h2,h3,h4,h5⟩ | ⟨ht,Rn,hop,hfp,acs,h3,h4,ZU⟩
     · have pY : ∀b∈d.fp,dy.mem[b]? = gp.mem[b]? :=fun b hb=>(hag b hb).resolve_right fun⟨_,x,_,q⟩=>by rw[h5] at q;cases q
       have NJ:target (ev E dy.tm) o=some (gf,args):=(z6 CP).trans ht
       have Ro:d.fp=close gp.mem 0 args++List.range' tE (m1.length-(close gp.mem 0 args).length):=by rw[h5];rfl
       have ZV:close dy.mem 0 args=close gp.mem 0 args:=BC Je.symm fun j hj=>(tJ (pY j (by rw[Ro];exact List.mem_append_left _ hj))).symm
       have WA:pack dy.mem (close gp.mem 0 args)=pack gp.mem (close gp.mem 0 args):=Dn fun j hj=>(tJ (pY j (by rw[Ro];exact List.mem_append_left _ hj))).symm
       obtain⟨hnd,_⟩:=dR gp.mem 0 args
       generalize close gp.mem 0 args=ord at *
       rw[←WA] at ej
       have hR : ∀j∈List.range' tE (m1.length-ord.length),dy.mem[j]? = some .free:=by
        intro j hj
        rw[pY j (by rw[Ro];exact List.mem_append_right _ hj)]
        rw[List.mem_range'_1] at hj
        exact Wx j hj.1 (by omega)
       have ZW:(ord++List.range' tE (m1.length-ord.length)).Nodup:=List.nodup_append.2 ⟨hnd,List.nodup_range',fun x hx y hy e=>by
        subst e
        rw[List.mem_range'_1] at hy
        have:=h2 x hx;omega⟩
       have ZX : ∀j∈ord++List.range' tE (m1.length-ord.length),j<dy.mem.length:=by
        intro j hj
        rcases List.mem_append.1 hj with q | q
        · have:=h2 j q;omega
        · rw[List.mem_range'_1] at q;omega
       obtain⟨⟨fn,Nw,Nx,Ny⟩,ej⟩:=ej
       unfold target at NJ
       split at NJ
       · rename_i call ZY
         split at NJ
         · rename_i x wv
           split at NJ
           · rename_i f' first captured hx
             simp only[Option.some.injEq,Prod.mk.injEq] at NJ
             obtain⟨rfl,Rp⟩:=NJ
             have wk:=eS hs x
             rw[hx,VA.fns] at wk
             obtain⟨fa,ca,wk,Rh,hca⟩:=wk
             have WB:=tv (P:=P) (w:=w) ZY wv wk Nw Nx Ny
             have hargs:cj g w args (fa++call.args.map a.eval++ca).toList:=by
              rw[←Rp]
              simp only[Array.toList_append,Array.toList_map]
              exact(Rh.append (fk (eS hs) _)).append hca
             obtain⟨I2,ER⟩:=hs.rel.pack hnd
             have j6:=cJ.pack g ord
             obtain⟨w',g',cv,fr,q1,q2,q3,q4,q5,q6,q7,q8⟩:=ej (g.pack ord) w (fa++call.args.map a.eval++ca) (b.atR a (.inRegion ops (i::Region.linearise.go .any ops fuel (t / (Region.ready .any ops S).length) (S.setIfInBounds i true) [])::k)::cs) I2
              (cj.fV j6 hargs) (hs.dj.mono fun _ _ p=>⟨p,rfl⟩)
             have hlen:(Am.pack dy.mem ord).length=ord.length:=by simp[Am.pack]
             rw[hlen] at q7 q8
             obtain⟨g2,r1,r2,r3,r4⟩:=hs.rel.Rl ZW ZX hR q5 q6 q7 (by simp;omega)
             have zM:d.us=(ord++List.range' tE (m1.length-ord.length)).zip (m1.map (ew (bp (ord++List.range' tE (m1.length-ord.length)) dy.mem.length))):=by rw[h5,Je];rfl
             have hdv:d.v=fV (bp (ord++List.range' tE (m1.length-ord.length)) dy.mem.length) v:=by rw[h5,Je];rfl
             rw[←zM] at r1 r3
             have hstep:=nv (b:=b) (k:=k) (cs:=cs) (rest:=Region.linearise.go .any ops fuel (t / (Region.ready .any ops S).length) (S.setIfInBounds i true) []) ho gq WB
             have hleave:=step_leave_returned (P:=P) (c:=b.atR a (.inRegion ops (i::Region.linearise.go .any ops fuel (t / (Region.ready .any ops S).length) (S.setIfInBounds i true) [])::k)) (cs:=cs) q2
             rw[Frame.finish_atR,ho] at hleave
             exact go g2 cv w' (by rw[hdv];exact q4.fV r4) r1 r2 r3 (.head hstep (q1.trans (.one hleave)))
           · cases NJ
         · cases NJ
       · cases NJ
     · have both:(qo P (fun j=>dy.mem.getD j .dead) (wr o) tE (ev E dy.tm) o=some (d.v,d.us,true))∧(makes o=true→dy.mem[tE]? = some .free):=by
        by_cases hsp : ∃b x,d.us=[]∧dy.mem[b]? = some x∧d.ld b x=true
        · obtain⟨b,x,zM,hx,BE⟩:=hsp
          rw[ZU] at BE
          unfold QY at BE
          split at BE
          · rename_i t a Rq
            split at BE
            · rename_i c off ZZ
              simp only[Bool.and_eq_true] at BE
              obtain⟨hcb,Q6⟩:=BE
              have hcb:=Nat.eq_of_beq_eq_true hcb
              subst hcb
              split at Q6
              · rename_i v' ok hlo
                simp only[Bool.and_eq_true] at Q6
                obtain⟨rfl,Z0⟩:=Q6
                have Z0:=iZ Z0
                subst Z0
                have hrd:(fun j=>dy.mem.getD j bg.dead) c=x:=by
                 show dy.mem.getD c .dead=x
                 rw[List.getD_eq_getElem?_getD,hx];rfl
                have oq:jl P (fun j=>dy.mem.getD j .dead) t (.mp c off)=jl P (fun _=>x) t (.mp c off):=by
                 simp only[jl,mX (rd:=fun j=>dy.mem.getD j bg.dead) (rd':=fun _=>x) (a:= .mp c off) (fun b hb=>by
                  have:b=c:=by simpa[refs] using hb
                  subst this;exact hrd)]
                refine⟨?_,fun hm=> ?_⟩
                · have e1:ev E dy.tm a = .mp c off:=by rw[CP a (by rw[Rq];simp[Op.operands]),ZZ]
                  simp only[qo,Rq,e1,oq,hlo,fG,Option.map_some,zM]
                · simp[makes,Rq] at hm
              · cases Q6
            · cases BE
          · cases BE
        · have pY : ∀b∈d.fp,dy.mem[b]? = gp.mem[b]? :=fun b hb=>(hag b hb).resolve_right fun⟨q0,x,q1,q2⟩=>hsp ⟨b,x,q0,q1,q2⟩
          refine⟨?_,fun hm=> ?_⟩
          · rw[←hop]
            refine(NF Rn (fun x hx=>(CP x hx).symm) fun j hj=> ?_).symm
            exact(tJ (pY j (by rw[hfp];exact List.mem_append_right _ (List.mem_append_left _ hj)))).symm
          · rw[pY tE (by rw[hfp,hm];exact List.mem_append_right _ (List.mem_append_right _ (by simp)))]
            rw[hm] at h3
            simp only[cond_true] at h3
            exact Wx tE (Nat.le_refl _) (by omega)
       obtain⟨Z1,hfree⟩:=both
       obtain⟨cv,w',g',k1,k2,k3,k4,k5⟩:=mG hs.rel (eS hs) (fun _=>rfl) hfree Z1
       exact go g' cv w' k2 k3 k4 k5 (.one (ox ho gq k1))
   · have gq:Region.wanted o (yielded ops a.tmps)=false:=by
      rcases hw with hw | ⟨s',b',want,hw,hb⟩
      · exact w2 (Dj.trans hw)
      · rw[(w3 s' b' want (Dj.trans hw)).1];exact hb
     refine go g undef w (VA.iA.2 trivial) hs.rel (Ext.refl g w) (cM.refl _ _ _) (.one ?_)
     have hst:=stepR_op_skip (P:=P) (b:=b) (a:=a) (k:=k) (cs:=cs) (w:=w) (ops:=ops) (i:=i) (rest:=Region.linearise.go .any ops fuel (t / (Region.ready .any ops S).length) (S.setIfInBounds i true) []) (by simp[ho,gq])
     simpa only[ho,Option.bind_some] using hst
theorem qJ : ∀{m:Mem},rS m=true → ∀(i:Nat) (b:bg),m[i]? = some b→b = .free
 |[],_,i,b,h=>by simp at h
 |x::r,h,i,b,hb=>by
  cases x with
  |free=>
   cases i with
   |zero=>simpa using hb.symm
   |succ i=>exact qJ (m:=r) h i b (by simpa using hb)
  |_=>cases h
theorem Rel.trim {g:Gh} {m:Mem} {w:World} (h:Rel g m w) {n:Nat} (hf:rS (m.drop n)=true):Rel g (m.take n) w∧cM g m w g (m.take n) w:=by
 have get : ∀i b,(m.take n)[i]? = some b→m[i]? = some b:=fun i b hb=>by
  rw[List.getElem?_take] at hb
  split at hb
  · exact hb
  · cases hb
 refine⟨⟨fun i hi=> ?_,fun i hi=>h.free i (get i _ hi),fun i b l hi hb=>h.cells i b l (get i b hi) hb,fun i c hi hc=>h.tok i c (get i _ hi) hc,
  fun i j b b' c hi hj ho ho' hc eP=>h.inj i j b b' c (get i b hi) (get j b' hj) ho ho' hc eP,h.there,fun i k l hi=>h.obs i k l (get i _ hi)⟩,cM.less fun c ⟨i,b,hi,ho,hc⟩=>⟨i,b,get i b hi,ho,hc⟩⟩
 rcases Nat.lt_or_ge i m.length with q | q
 · rw[List.length_take] at hi
   have hb:(m.drop n)[i-n]? = some m[i]:=by
    rw[List.getElem?_drop,show n+(i-n)=i by omega]
    exact List.getElem?_eq_getElem q
   have:=qJ hf _ _ hb
   exact h.free i (by rw[List.getElem?_eq_getElem q,this])
 · exact h.vT i q
theorem Rel.eg {g:Gh} {w:World} : ∀(n:Nat) {m:Mem},Rel g m w→Rel g (m++eg n) w∧cM g m w g (m++eg n) w
 |0,m,h=>by
  simp only[Am.eg,List.replicate_zero,List.append_nil]
  exact⟨h,cM.refl _ _ _⟩
 |n+1,m,h=>by
  obtain⟨h1,h2⟩:=h.reserve
  obtain⟨h3,h4⟩:=Rel.eg n h1
  have e:m++Am.eg (n+1)=(m++[.free])++Am.eg n:=by simp[Am.eg,List.replicate_succ]
  rw[e]
  exact⟨h3,h2.trans h4⟩
theorem oA {x:Nat} : ∀{n:Nat},rP x n=true → ∀j,j<n→Nat.testBit x j=true
 |0,_,j,h=>absurd h (Nat.not_lt_zero _)
 |n+1,h,j,hj=>by
  simp only[rP,Bool.and_eq_true] at h
  rcases Nat.lt_or_ge j n with q | q
  · exact oA h.2 j q
  · have:j=n:=by omega
    subst this;exact h.1
theorem z7 (ops:Array Oper):eW ops≤ops.size∧(eW ops=ops.size∨(eW ops+1=ops.size ∧ ∀j,j<eW ops→Nat.testBit ((masks [] ops.toList).getD (eW ops) 0) j=true)):=by
 unfold eW
 cases h:pK ops with
 |false=>exact⟨Nat.le_refl _,.inl rfl⟩
 |true=>
  simp only[cond_true]
  refine⟨by omega,?_⟩
  unfold pK at h
  simp only[Bool.and_eq_true] at h
  obtain⟨h1,h2⟩:=h
  have hp:0<ops.size:=by
   rcases Nat.eq_zero_or_pos ops.size with e | e
   · rw[show ops[ops.size-1]? = none from Array.getElem?_eq_none (by omega)] at h1;cases h1
   · exact e
  exact .inr ⟨by omega,fun j hj=>oA h2 j hj⟩
theorem wA.WC {wr:Oper→Bool} {ops:Array Oper} {m:Nat} {st st':St} {nx mT:Nat} {ds:List fo} (h:wA P E wr ops (ops.toList.take m) st nx ds st' mT) (hm:m≤ops.size) (hu:Bw ops.toList) (hn:nx≤st.mem.length) (hfr:jF nx st.mem) :
  QE P E wr ops m st (ds++List.replicate (ops.size-m) ⟨.aS [],[],[],fun _ _=>false⟩) st'∧ds.length=m∧st'.mem=kG st.mem ds∧st'.fix=st.fix:=by
 have get : ∀i,i<m→(ops.toList.take m)[i]? = ops.toList[i]? :=fun i hi=>by rw[List.getElem?_take,if_pos hi]
 have Nd:Bw (ops.toList.take m):=by
  intro i j p q t hij hp hq
  rw[List.getElem?_take] at hp hq
  split at hp
  · split at hq
    · exact hu i j p q t hij hp hq
    · cases hq
  · cases hp
 have hlen:(ops.toList.take m).length=m:=by simp;omega
 obtain⟨h1,h2,h3,_,h4⟩:=h.spec Nd hn hfr
 rw[hlen] at h1 h2
 have slots : ∀{i:Nat} {T:St},i≤m→cO (ops.toList.take m) (ds.map (·.v)) st i T→cO ops.toList ((ds++List.replicate (ops.size-m) (⟨.aS [],[],[],fun _ _=>false⟩:fo)).map (·.v)) st i T:=by
  intro i T hi ⟨q1,q2,q3,q4,q5⟩
  refine⟨q1,q2,q3,fun j p v t hj hp hv ht=>q4 j p v t hj (by rw[get j (by omega)];exact hp) ?_ ht,fun t ht=>q5 t fun j p hj hp=>ht j p hj ?_⟩
  · rw[List.map_append,List.getElem?_append_left (by simp;omega)] at hv;exact hv
  · rw[get j (by omega)] at hp;exact hp
 refine⟨⟨by simp;omega,slots (Nat.le_refl _) h2,?_,?_,?_⟩,h1,h3,h2.2.2.1⟩
 · rw[List.take_append_of_le_length (by omega),List.take_of_length_le (by omega)];exact h3
 · intro i o ho hi
   obtain⟨d,gp,tE,BB,q1,q2,q3,q4,q5,q6,q7⟩:=h4 i o (by rw[get i hi];exact ho)
   refine⟨d,gp,tE,BB,by rw[List.getElem?_append_left (by omega)];exact q1,q2,q3,slots (by omega) q4,?_,q6,q7⟩
   rw[List.take_append_of_le_length (by omega)];exact q5
 · intro i e hi he
   rw[List.getElem?_append_right (by omega),List.getElem?_replicate] at he
   split at he
   · cases he;rfl
   · cases he
theorem Ws.pad {L:List Nat} {ds:List fo} {n:Nat} (h : ∀(i j:Nat) (d e:fo),j<i→ds[i]? = some d→ds[j]? = some e→Nat.testBit (L.getD i 0) j=true∨((∀b∈e.w,b∉d.fp)∧((∀b∈d.w,b∉e.fp)∨NG d e))) :
  Ws L (ds++List.replicate n ⟨.aS [],[],[],fun _ _=>false⟩):=by
 refine⟨fun i j d e hj hd he=> ?_⟩
 rcases Nat.lt_or_ge i ds.length with q | q
 · exact h i j d e hj (by rw[List.getElem?_append_left q] at hd;exact hd) (by rw[List.getElem?_append_left (by omega)] at he;exact he)
 · rw[List.getElem?_append_right q,List.getElem?_replicate] at hd
   split at hd
   · cases hd
     exact .inr ⟨fun b _=>by simp,.inl fun b hb=>by simp at hb⟩
   · cases hd
theorem Rr {g:Gh} {w:World} {b:Frame} {a:Act} {k:List It} {ops:Array Oper} {f bK:Nat} {O:FuncId→List AV→Mem→Option (AV×Mem)} {st st':St} (hO : ∀g args m v m1,O g args m=some (v,m1)→aC P E g args m v m1)
  (hs:bS E g st a w) (h:iz P E f bK O ops st=some (st',true)) :
  ∀cs,∃g' a' w',Steps P (lone (b.atR a (.code (.region bK ops true)::cY k)) cs w) (lone (b.atR a' (cY (fX bK ops k))) cs w')∧a'.defers=a.defers∧bS E g' st' a' w' ∧
   cM g st.mem w g' st'.mem w'∧bB g g' st.fix∧st'.fix=st.fix ∧ ∀i c,g.bE i=some c→g'.bE i=some c:=by
 intro cs
 unfold iz at h
 split at h
 · rename_i Nz nx ds ok hq
   simp only[Option.some.injEq,Prod.mk.injEq,Bool.and_eq_true] at h
   obtain⟨rfl,rfl,Jc,Rn,hfree,Ii,Rk⟩:=h
   have Ii:=Nat.le_of_ble_eq_true Ii
   have hrun:=pW hO hq
   obtain⟨hQ,_⟩:=rA.of Jc
   obtain⟨Z2,Z3⟩:=z7 ops
   have hL:Ws (masks [] ops.toList) (ds++List.replicate (ops.size-eW ops) ⟨.aS [],[],[],fun _ _=>false⟩):=Ws.pad fun i j d e hj hd he=>qH (kJ:=[]) Rn i j d e (Nat.zero_le _) hj hd he
   obtain⟨Wq,V5⟩:=hs.rel.eg (60+ops.size)
   have hs1:bS E g {st with mem:=st.mem++eg (60+ops.size)} a w:=⟨hs.tm,hs.nt,Wq,by simp;have:=hs.fix;omega,hs.dj⟩
   have hgd : ∀j,(Array.replicate ops.size false).getD j false=false:=by
    intro j
    rw[Array.getD_eq_getD_getElem?,Array.getElem?_replicate]
    split<;>rfl
   have hfr:jF st.mem.length (st.mem++eg (60+ops.size)):=by
    intro i hi hl
    rw[List.getElem?_append_right hi]
    simp only[eg,List.length_append,List.length_replicate] at hl ⊢
    rw[List.getElem?_replicate,if_pos (by omega)]
   have Zi:st.mem.length≤(st.mem++eg (60+ops.size)).length:=by simp
   obtain⟨hspec,ZP,hmem,lP⟩:=hrun.WC Z2 hQ.uniq Zi hfr
   generalize hds:ds++List.replicate (ops.size-eW ops) (⟨.aS [],[],[],fun _ _=>false⟩:fo)=Z4 at *
   have hI:kL ops (masks [] ops.toList) (Z4.map (·.v)) {st with mem:=st.mem++eg (60+ops.size)} {st with mem:=st.mem++eg (60+ops.size)} (Array.replicate ops.size false):=
    ⟨by simp,rfl,rfl,rfl,fun j _ _ _ hj=>(by rw[hgd] at hj;cases hj),fun _ _=>rfl,fun i _ hi=>(by rw[hgd] at hi;cases hi)⟩
   have hM:iG Z4 (st.mem++eg (60+ops.size)) (fun j=>(Array.replicate ops.size false).getD j false=true) (st.mem++eg (60+ops.size)):=iG.nil fun j q=>by rw[hgd] at q;cases q
   have V3:=hs1.drew (w.drawn+1)
   obtain⟨g',a',w',r1,r2,r3,r4,r5,r6⟩:=NI (P:=P) (E:=E) (b:=b) (k:=cY k) cs hQ hL hspec Z3 ops.size (w.tape w.drawn (.order b.fn bK)) (Array.replicate ops.size false) {st with mem:=st.mem++eg (60+ops.size)} a g _ (List.range ops.size) hI hM V3 (by simp) (fun i hi _=>List.mem_range.2 hi) (fun i _=>hgd i)
   obtain⟨t1,t2⟩:=r3.rel.trim hfree
   have hlen:Nz.mem.length=st.mem.length+(60+ops.size):=by rw[hmem,j8];simp[eg]
   have lP:Nz.fix=st.fix:=lP
   refine⟨g',a',w',?_,r2,⟨r3.tm,r3.nt,t1,?_,r3.dj⟩,?_,r5,lP,r6⟩
   · refine .head stepR_region_draw ?_
     have Jd:Region.schedule (P.follows .mixedOrders) ops (w.tape w.drawn (.order b.fn bK))=Region.linearise.go .any ops ops.size (w.tape w.drawn (.order b.fn bK)) (Array.replicate ops.size false) []:=by
      simp only[Region.schedule,Rk,if_true,Region.linearise]
     rw[Jd]
     unfold fX
     unfold eW at r1
     cases BD:pK ops with
     |false=>
      rw[BD] at r1
      simp only[cond_false,Nat.sub_self,List.range'_zero] at r1 ⊢
      exact r1.trans (.one stepR_region_end)
     |true=>
      rw[BD] at r1
      simp only[cond_true] at r1 ⊢
      exact r1
   · have:=hs.fix
     show Nz.fix≤(Nz.mem.take nx).length
     rw[List.length_take,lP]
     omega
   · have hst:cM g (st.mem++eg (60+ops.size)) w g (st.mem++eg (60+ops.size)) {w with drawn:=w.drawn+1}:=⟨Nat.le_refl _,fun _ _ _=>rfl,fun _ _ h=>⟨h,rfl⟩,fun _ _ h=> .inl h,fun _ h=> .inl h,rfl,rfl,rfl⟩
     exact((V5.trans hst).trans r4).trans t2
 · cases h
def rC (s t:St):Prop:=s.nt=t.nt∧s.fix=t.fix∧s.mem=t.mem ∧ ∀k,look s.tm k=look t.tm k
theorem rC.refl (s:St):rC s s:=⟨rfl,rfl,rfl,fun _=>rfl⟩
theorem xq {a b:rG} : ∀{l:List Nat},No a b l=true → ∀k∈l,look a k=look b k
 |[],_,k,h=>by cases h
 |x::r,h,k,hk=>by
  simp only[No,Bool.and_eq_true] at h
  rcases List.mem_cons.1 hk with rfl | hk
  · exact iZ h.1
  · exact xq h.2 k hk
theorem pZ : ∀{a:rG} {k:Nat},k∉a.map (·.1)→look a k = .an
 |[],_,_=>rfl
 |(j,v)::r,k,h=>by
  simp only[List.map_cons,List.mem_cons,not_or] at h
  simp only[look]
  cases hb:Nat.beq j k with
  |true=>exact absurd (Nat.eq_of_beq_eq_true hb).symm h.1
  |false=>exact pZ h.2
theorem Gv {s t:St} (h:QX s t=true):rC s t:=by
 simp only[QX,Bool.and_eq_true] at h
 obtain⟨h1,h2,h3,h4⟩:=h
 refine⟨Nat.eq_of_beq_eq_true h1,Nat.eq_of_beq_eq_true h2,jz h3,fun k=> ?_⟩
 by_cases hk:k∈s.tm.map (·.1)++t.tm.map (·.1)
 · exact xq h4 k hk
 · rw[List.mem_append,not_or] at hk
   rw[pZ hk.1,pZ hk.2]
def Has (l:List Pt) (q:Pt):Prop:= ∃p∈l,p.1=q.1∧rC q.2 p.2
theorem xu {q:Pt} : ∀{l:List Pt},A2 q l=true→Has l q
 |[],h=>by cases h
 |p::r,h=>by
  simp only[A2,Bool.or_eq_true] at h
  rcases h with h | h
  · simp only[Wa,Bool.and_eq_true] at h
    exact⟨p,.head _,(Array.toList_inj.1 (sE h.1)).symm,Gv h.2⟩
  · obtain⟨x,h1,h2⟩:=xu h
    exact⟨x,.tail _ h1,h2⟩
theorem xw {q:Pt} {l:List Pt}:Has (A3 q l) q ∧ ∀x∈l,x∈A3 q l:=by
 unfold A3
 cases h:A2 q l with
 |true=>exact⟨xu h,fun _ hx=>hx⟩
 |false=>exact⟨⟨q,.head _,rfl,rC.refl _⟩,fun _ hx=> .tail _ hx⟩
theorem Has.mono {l l':List Pt} {q:Pt} (h:Has l q) (hl : ∀x∈l,x∈l'):Has l' q:=by
 obtain⟨p,h1,h2⟩:=h
 exact⟨p,hl p h1,h2⟩
theorem qK {f:FuncId} {ops:Array Oper} {q:Pt} : ∀{is:List Nat} {l l':List Pt},nU P E f ops q is l=some l' →
  (∀x∈l,x∈l') ∧ ∀i∈is,∃st,EC P E f ops i q.2=some st∧Has l' (q.1.setIfInBounds i true,st)
 |[],l,l',h=>by
  simp only[nU,Option.some.injEq] at h
  subst h
  exact⟨fun _ hx=>hx,fun i hi=>by cases hi⟩
 |i::r,l,l',h=>by
  simp only[nU] at h
  split at h
  · rename_i st hst
    obtain⟨h1,h2⟩:=qK h
    obtain⟨k1,k2⟩:=xw (q:=(q.1.setIfInBounds i true,st)) (l:=l)
    refine⟨fun x hx=>h1 x (k2 x hx),fun j hj=> ?_⟩
    rcases List.mem_cons.1 hj with rfl | hj
    · exact⟨st,hst,k1.mono h1⟩
    · exact h2 j hj
  · cases h
theorem mI {f:FuncId} {ops:Array Oper} : ∀{l acc l':List Pt},level P E f ops l acc=some l' →
  (∀x∈acc,x∈l') ∧ ∀q∈l,(Region.ready .any ops q.1=[]→Has l' q) ∧ ∀i∈Region.ready .any ops q.1,∃st,EC P E f ops i q.2=some st∧Has l' (q.1.setIfInBounds i true,st)
 |[],acc,l',h=>by
  simp only[level,Option.some.injEq] at h
  subst h
  exact⟨fun _ hx=>hx,fun q hq=>by cases hq⟩
 |q::r,acc,l',h=>by
  simp only[level] at h
  split at h
  · rename_i hr
    obtain⟨h1,h2⟩:=mI h
    obtain⟨k1,k2⟩:=xw (q:=q) (l:=acc)
    refine⟨fun x hx=>h1 x (k2 x hx),fun p hp=> ?_⟩
    rcases List.mem_cons.1 hp with rfl | hp
    · exact⟨fun _=>k1.mono h1,fun i hi=>by rw[hr] at hi;cases hi⟩
    · exact h2 p hp
  · rename_i hr
    split at h
    · rename_i l1 hn
      obtain⟨h1,h2⟩:=mI h
      obtain⟨k1,k2⟩:=qK hn
      refine⟨fun x hx=>h1 x (k1 x hx),fun p hp=> ?_⟩
      rcases List.mem_cons.1 hp with rfl | hp
      · refine⟨fun e=>absurd e hr,fun i hi=> ?_⟩
        obtain⟨st,q1,q2⟩:=k2 i hi
        exact⟨st,q1,q2.mono h1⟩
      · exact h2 p hp
    · cases h
theorem rC.trans {a b c:St} (h:rC a b) (k:rC b c):rC a c:=⟨h.1.trans k.1,h.2.1.trans k.2.1,h.2.2.1.trans k.2.2.1,fun x=>(h.2.2.2 x).trans (k.2.2.2 x)⟩
theorem bS.like {g:Gh} {w:World} {st st':St} {a:Act} (h:bS E g st a w) (q:rC st st'):bS E g st' a w:=h.same q.2.2.1 q.1 q.2.1 q.2.2.2
theorem oB {f:FuncId} {ops:Array Oper} : ∀(n:Nat) {l l':List Pt},levels P E f ops n l=some l' → ∀q∈l,Region.ready .any ops q.1=[]→Has l' q
 |0,l,l',h,q,hq,_=>by
  simp only[levels,Option.some.injEq] at h
  subst h
  exact⟨q,hq,rfl,rC.refl _⟩
 |n+1,l,l',h,q,hq,hr=>by
  simp only[levels] at h
  split at h
  · rename_i l1 hl
    obtain⟨p,h1,h2,h3⟩:=(((mI hl).2 q hq).1 hr)
    obtain⟨x,k1,k2,k3⟩:=oB n h p h1 (by rw[h2];exact hr)
    exact⟨x,k1,k2.trans h2,h3.trans k3⟩
  · cases h
theorem Jf {b:Frame} {k:List Item} {f:FuncId} {ops:Array Oper} : ∀(n:Nat) (l l':List Pt),levels P E f ops n l=some l' → ∀(q:Pt),q∈l → ∀(t:Nat) (a:Act) (g:Gh) (w:World),bS E g q.2 a w →
  ∃st'∈l'.map (·.2),∃g' a' w',(∀cs,Steps P (lone (b.atR a (.inRegion ops (Region.linearise.go .any ops n t q.1 [])::k)) cs w) (lone (b.atR a' (.inRegion ops []::k)) cs w'))∧a'.defers=a.defers∧bS E g' st' a' w' ∧
   cM g q.2.mem w g' st'.mem w'∧bB g g' q.2.fix∧st'.fix=q.2.fix ∧ ∀i c,g.bE i=some c→g'.bE i=some c
 |0,l,l',h,q,hq,t,a,g,w,hs=>by
  simp only[levels,Option.some.injEq] at h
  subst h
  exact⟨q.2,List.mem_map.2 ⟨q,hq,rfl⟩,g,a,w,fun cs=>Steps.refl _ _,rfl,hs,cM.refl _ _ _,bB.refl _ _,rfl,fun _ _ q=>q⟩
 |n+1,l,l',h,q,hq,t,a,g,w,hs=>by
  have h0:=h
  simp only[levels] at h
  split at h
  · rename_i l1 hl
    simp only[Region.linearise.go]
    show ∃st'∈l'.map (·.2),∃g' a' w',(∀cs,Steps P (lone (b.atR a (.inRegion ops (match(Region.ready .any ops q.1)[t%(Region.ready .any ops q.1).length]? with
     |some i=>Region.linearise.go .any ops n (t / (Region.ready .any ops q.1).length) (q.1.setIfInBounds i true) [i]
     |none=>[].reverse)::k)) cs w) (lone (b.atR a' (.inRegion ops []::k)) cs w'))∧_
    obtain⟨_,k2⟩:=(mI hl).2 q hq
    cases hr:(Region.ready .any ops q.1)[t%(Region.ready .any ops q.1).length]? with
    |none=>
     have I9:Region.ready .any ops q.1=[]:=by
      cases hz:Region.ready .any ops q.1 with
      |nil=>rfl
      |cons x xs=>
       rw[hz] at hr
       have hlt:t%(x::xs).length<(x::xs).length:=Nat.mod_lt _ (by simp)
       rw[List.getElem?_eq_getElem hlt] at hr;cases hr
     obtain⟨p,p1,p2,p3⟩:=oB (n+1) h0 q hq I9
     exact⟨p.2,List.mem_map.2 ⟨p,p1,rfl⟩,g,a,w,fun cs=>Steps.refl _ _,rfl,hs.like p3,by rw[←p3.2.2.1];exact cM.refl _ _ _,bB.refl _ _,p3.2.1.symm,fun _ _ q=>q⟩
    |some i=>
     dsimp only
     rw[linearise_go_acc,List.reverse_singleton,List.singleton_append]
     obtain⟨st,he,p,p1,p2,p3⟩:=k2 i (List.mem_of_getElem? hr)
     have p2:p.1=q.1.setIfInBounds i true:=p2
     have p3:rC st p.2:=p3
     unfold EC at he
     split at he
     · cases he
     · rename_i o ho
       split at he
       · rename_i hw
         dsimp only at he
         split at he
         · rename_i v us ok hop
           cases hok:(ok&&fits q.2 o.dst) with
           |false=>rw[hok] at he;cases he
           |true=>
            rw[hok] at he
            simp only[cond_true,Option.some.injEq] at he
            subst he
            simp only[Bool.and_eq_true] at hok
            obtain⟨rfl,hf⟩:=hok
            have gq:=(mH hs (ops:=ops) (o:=o)).1 hw
            have hres:Rel g (reserve o q.2.mem) w∧cM g q.2.mem w g (reserve o q.2.mem) w:=by
             unfold reserve
             cases makes o with
             |true=>exact hs.rel.reserve
             |false=>exact⟨hs.rel,cM.refl _ _ _⟩
            have hfree:makes o=true→(reserve o q.2.mem)[q.2.mem.length]? = some .free:=by
             intro hm
             simp[reserve,hm]
            obtain⟨cv,w1,g1,k1,k2,k3,k4,k5⟩:=mG hres.1 (eS hs) (fun _=>rfl) hfree hop
            have kE:q.2.fix≤(apply (reserve o q.2.mem) us).length:=by
             rw[dr]
             have:=hs.fix
             unfold reserve
             cases makes o<;>simp<;>omega
            have hs1:=(hs.put hf k2 k4 k3 kE).like p3
            have hm:p.2.mem=apply (reserve o q.2.mem) us:=by rw[←p3.2.2.1,qG]
            have hx:p.2.fix=q.2.fix:=by rw[←p3.2.1];cases o.dst<;>rfl
            obtain⟨st2,r0,g2,a2,w2,r1,r2,r3,r4,r5,r6,r7⟩:=Jf (b:=b) (k:=k) n l1 l' h p p1 (t / (Region.ready .any ops q.1).length) _ _ _ hs1
            rw[hm] at r4
            rw[hx] at r5 r6
            rw[p2] at r1
            exact⟨st2,r0,g2,a2,w2,fun cs=> .head (ox ho gq k1) (r1 cs),r2.trans put_defers,r3,(hres.2.trans k5).trans r4,(bB.ou k4 _).trans r5,r6,fun i c q=>r7 i c (k4.bE i c q).1⟩
         · cases he
       · cases he
  · cases h
theorem NK {g:Gh} {w:World} {b:Frame} {a:Act} {k:List Item} {ops:Array Oper} {f bK:Nat} {st:St} {Z5:List St} (hs:bS E g st a w) (h:zx P E f ops st=some Z5) :
  ∃st'∈Z5,∃g' a' w',(∀cs,Steps P (lone (b.atR a (.code (.region bK ops true)::k)) cs w) (lone (b.atR a' k) cs w'))∧a'.defers=a.defers∧bS E g' st' a' w' ∧
   cM g st.mem w g' st'.mem w'∧bB g g' st.fix∧st'.fix=st.fix ∧ ∀i c,g.bE i=some c→g'.bE i=some c:=by
 unfold zx at h
 cases hc:((IF ops||IG P ops)&&(P.follows .mixedOrders || !Region.departs ops)) with
 |false=>rw[hc] at h;cases h
 |true=>
  rw[hc] at h
  simp only[cond_true,Option.map_eq_some_iff] at h
  simp only[Bool.and_eq_true] at hc
  obtain⟨l',h1,rfl⟩:=h
  obtain⟨st',h2,g',a',w',r1,r2,r3,r4,r5,r6,r7⟩:=Jf (b:=b) (k:=k) _ _ _ h1 (Array.replicate ops.size false,st) (.head _) (w.tape w.drawn (.order b.fn bK)) a g _ (hs.drew (w.drawn+1))
  refine⟨st',h2,g',a',w',fun cs=> ?_,r2,r3,?_,r5,r6,r7⟩
  · refine .head stepR_region_draw ?_
    have Jd:Region.schedule (P.follows .mixedOrders) ops (w.tape w.drawn (.order b.fn bK))=Region.linearise.go .any ops ops.size (w.tape w.drawn (.order b.fn bK)) (Array.replicate ops.size false) []:=by
     simp only[Region.schedule,hc.2,if_true,Region.linearise]
    rw[Jd]
    exact(r1 cs).trans (.one stepR_region_end)
  · have hst:cM g st.mem w g st.mem {w with drawn:=w.drawn+1}:=⟨Nat.le_refl _,fun _ _ _=>rfl,fun _ _ h=>⟨h,rfl⟩,fun _ _ h=> .inl h,fun _ h=> .inl h,rfl,rfl,rfl⟩
    exact hst.trans r4
end
end Go.Am
end
