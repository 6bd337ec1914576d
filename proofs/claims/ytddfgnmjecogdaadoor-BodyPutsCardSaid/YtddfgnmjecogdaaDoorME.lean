/-
The executor's steps are the machine's: calls, ends, every step.
Regions whose order is open, where no operation changes memory: in any order that may be drawn, the same is made.
Regions whose order is open, where operations call functions, and write memory: what each looks at is left alone by those that may come on either side of it, so in any order that may be drawn the same is made.
Regions whose order is open, where operations call functions, and write memory: every order that may be drawn.
-/
import Derived.Test.YtddfgnmjecogdaaDoorMD
import Derived.Laws.Externs
import Derived.KernelRfl
import Derived.Orders
section
namespace Go.Am
open Go.RowKit
section
variable {P:Program} {E:Env} {g:Gh} {w:World}
theorem cB : ∀(us:iX) (m:Mem),(apply m us).length=m.length
 |[],_=>rfl
 |(i,b)::us,m=>by simp[apply,cB us]
def uL (P:Program) (E:Env) (g:Gh) (c:bD) (fr:Frame) (w:World) (l:List bD):Prop:=
 ∀cs,∃c'∈l,∃g' fr' w',Steps P (lone fr cs w) (lone fr' cs w')∧bH P E g' c' fr' w'∧bO g c.st.mem w g' c'.st.mem w'∧aP g g' c.st.fix∧c'.f=c.f∧c'.st.fix=c.st.fix∧c'.st.aZ=c.st.aZ
def uM (P:Program) (E:Env) (g:Gh) (c:bD) (fr:Frame) (w:World):Ev→Prop
 |.next c'=>cL P E g c fr w c'
 |.must b c'=>b=true→cL P E g c fr w c'
 |.test b y z=>(b=true→cL P E g c fr w y)∧(b=false→cL P E g c fr w z)
 |.call f args m ord dst c'=>(∀v m1,aB P E f args m v m1→cL P E g c fr w {c' with st:=back ord dst c'.st v m1}) ∧ ∀u m1,BH P E f args m u m1→cL P E g c fr w (jh ord c' u m1)
 |.late f args m ord pv c'=> ∀m1,BJ P E f args m pv m1→cL P E g c fr w {c' with st:=back ord none c'.st (.aO []) m1}
 |.round args m ord dst c'=> ∀v m1,zj P E args m v m1→cL P E g c fr w {c' with st:=back ord dst c'.st v m1}
 |.range f args m ord L c'=> ∀v m1,aB P E f args m v m1 → ∀m2 pd,dM (back ord none c'.st v m1).mem L=some (m2,pd)→cL P E g c fr w (behind c' m2 pd)
 |.draw aU ops c'=> ∀(O:FuncId→List AV→Mem→Option (AV×Mem)) (st':St),(∀g args m v m1,O g args m=some (v,m1)→aB P E g args m v m1)→fX P E c'.f aU O ops c'.st=some (st',true) →
    cL P E g c fr w {c' with st:={st' with bq:=c'.st.bq,aZ:=c'.st.aZ}}
 |.fork l=>uL P E g c fr w l
 |.done (.ret v m')=>fr.fn=c.f∧m'=c.st.mem ∧ ∃cv w2,BG P c.st.aZ fr w cv w2∧VA g w2 v cv∧Rel g m' w2∧bO g m' w g m' w2∧c.st.fix≤m'.length
 |.done (.rB v m')=>fr.fn=c.f∧m'=c.st.mem ∧ ∃cv,fr.leaving P w (.panicked [{v:=cv,recovered:=false}])∧VA g w v cv∧Rel g m' w∧c.st.fix≤m'.length
 |.fail=>True
theorem nf {x:It} {k:List It} (hx:It.pl x) (hk : ∀y∈k,It.pl y) : ∀y∈x::k,It.pl y:=by
 intro y hy
 cases hy with
 |head=>exact hx
 |tail _ hy=>exact hk y hy
theorem bH.mk {c:bD} {b:Frame} {a:Act} (hnf : ∀x∈c.todo,It.pl x) (h1:b.fn=c.f) (h2:cF g c.st.aZ b) (h3:Mk g c.st.bq a.defers) (h4:bn E g c.st a w):bH P E g c (b.atR a (cg c.todo)) w:=by
 unfold bH
 split
 · rename_i hk;exact absurd (hnf _ (by rw[hk];exact .head _)) id
 · rename_i hk;exact absurd (hnf _ (by rw[hk];exact .head _)) id
 · rename_i hk;exact absurd (hnf _ (by rw[hk];exact .head _)) id
 · rename_i hk;exact absurd (hnf _ (by rw[hk];exact .head _)) id
 · exact⟨b,a,rfl,h1,h2,h3,h4,hnf⟩
theorem cL.quiet {c c':bD} {b:Frame} {a:Act} {fr:Frame} (hst : ∀cs,Steps P (lone fr cs w) (lone (b.atR a (cg c'.todo)) cs w))
  (hnf : ∀x∈c'.todo,It.pl x) (h1:b.fn=c.f) (hf:c'.f=c.f) (h2:cF g c'.st.aZ b) (h3:Mk g c'.st.bq a.defers) (h4:bn E g c'.st a w) (hm:c'.st.mem=c.st.mem) (hx:c'.st.fix=c.st.fix) (hr:c'.st.aZ=c.st.aZ:=by rfl):cL P E g c fr w c':=by
 intro cs
 exact⟨g,_,w,hst cs,bH.mk hnf (h1.trans hf.symm) h2 h3 h4,by rw[hm];exact bO.refl _ _ _,aP.refl _ _,hf,hx,hr⟩
theorem put_defers {a:Act} {d:Option Tmp} {v:Value}:(a.put d v).defers=a.defers:=by cases d<;>rfl
theorem Fo {st:St} {d:Option Tmp} {v:AV}:(Am.put st d v).bq=st.bq:=by cases d<;>rfl
theorem fN {st:St} {d:Option Tmp} {v:AV}:(Am.put st d v).aZ=st.aZ:=by cases d<;>rfl
theorem cF.put {g g':Gh} {w w':World} {st st':St} {b:Frame} {d:Option Tmp} {u:AV} (h:cF g st.aZ b) (e:Ext g w g' w') (hm:st'.aZ=st.aZ):cF g' (Am.put st' d u).aZ b:=by
 rw[fN,hm]
 exact h.ext fun i c q=>(e.aN i c q).1
theorem Mk.put {g g':Gh} {w w':World} {st st':St} {a:Act} {d:Option Tmp} {v:Value} {u:AV} (h:Mk g st.bq a.defers) (e:Ext g w g' w') (hm:st'.bq=st.bq):Mk g' (Am.put st' d u).bq (a.put d v).defers:=by
 rw[put_defers,Fo,hm]
 exact h.ext fun i c q=>(e.aN i c q).1
theorem qe {a:Act} {o:Oper} {c:Call} {x:Operand} {f:FuncId} {fa ca:Array Value} (ho:o.op = .call c) (hc:c.callee = .value x) (hx:a.eval x = .func (.func f) fa ca)
  {fn:Func} (hf:P.funcs[f]? = some fn) (hb:fn.body.isSome=true) (hn:(fn.name == "runtime.NumGoroutine")=false) :
  (execOp a.eval o).run P w = .ok (.enter f (fa++c.args.map a.eval++ca)) w:=by
 have HQ:fn.body.isNone=false:=by cases hq:fn.body<;>simp_all
 simp only[execOp,ho,resolve,hc,hx,Deferred.ofValue,Sem.run_bind,Sem.run_pure,Result.andThen_ok,invoke,callFunc,run_program,hf,hn,Bool.false_eq_true,if_false,HQ]
theorem xY {b:Frame} {a:Act} {k:List Item} {cs:List Frame} {w':World} {ops:Array Oper} {i:Nat} {rest:List Nat} {o:Oper} {l:Nat} {f:FuncId} {tmps:Array Value} {as bd:Code} (ho:ops[i]? = some o)
  (hw:Region.wanted o (yielded ops a.tmps)=true) (hr:(execOp a.eval o).run P w = .ok (.round l f tmps as bd) w') :
  _root_.Go.step P (lone (b.atR a (.inRegion ops (i::rest)::k)) cs w) = .next (lone (Frame.round l f tmps as bd .normal) (b.atR a (.inRegion ops (i::rest)::k)::cs) w'):=by
 have hg:=stepGR_op (P:=P) (b:=b) (k:=k) (cs:=cs) (w:=w) (rest:=rest) ho hw
 exact step_lone_go (by rw[hg,semAt_eq hr fun _ e=>by cases e];simp[stepG.apply,hr,Frame.atR])
theorem rV {a:Act} {o:Oper} {c:Call} {x:Operand} {l:Nat} (ho:o.op = .call c) (hc:c.callee = .value x) (hx:a.eval x = .func (.yield l) #[] #[]) {n:Next} {w':World}
  (hy:(Instr.yield l (c.args.map a.eval)).run P w = .ok n w'):(execOp a.eval o).run P w = .ok n w':=by
 simp only[execOp,ho,resolve,hc,hx,Deferred.ofValue,Sem.run_bind,Sem.run_pure,Result.andThen_ok,invoke,callFunc,Array.empty_append]
 exact hy
theorem BK {st:St} {a:Act} {b:Frame} {k:List Item} {ops:Array Oper} {i:Nat} {rest:List Nat} {o:Oper} {args:List AV} {v:AV} {m1:Mem}
  (hs:bn E g st a w) (hd:Mk g st.bq a.defers) (hb:cF g st.aZ b) (ho:ops[i]? = some o) (hw:Region.wanted o (yielded ops a.tmps)=true) (ht:oI (ev E st.tm) o=some args)
  (hf:fits st o.dst=true) (hlt:fq (close st.mem 0 args) st.mem.length=true)
  (dc:zj P E (cO (idx (close st.mem 0 args)) args) (pack st.mem (close st.mem 0 args)) v m1) :
  ∀cs,∃g' a' w',Steps P (lone (b.atR a (.inRegion ops (i::rest)::k)) cs w) (lone (b.atR a' (.inRegion ops rest::k)) cs w') ∧
   Mk g' (back (close st.mem 0 args) o.dst st v m1).bq a'.defers∧cF g' (back (close st.mem 0 args) o.dst st v m1).aZ b∧bn E g' (back (close st.mem 0 args) o.dst st v m1) a' w' ∧
   bO g st.mem w g' (back (close st.mem 0 args) o.dst st v m1).mem w'∧aP g g' st.fix∧(back (close st.mem 0 args) o.dst st v m1).fix=st.fix:=by
 intro cs
 have xA:=dQ hs
 unfold oI at ht
 split at ht
 · rename_i call hop
   split at ht
   · rename_i x rW
     split at ht
     · rename_i bl hx
       simp only[Option.some.injEq] at ht
       subst ht
       have rR:=xA x
       rw[hx] at rR
       generalize hcx:a.eval x=cx at rR
       cases rR with
       |vy _ l hl=>
        have hin:bl∈close st.mem 0 (.vy bl::call.args.toList.map (ev E st.tm)):=by
         obtain⟨_,t,h2⟩:=b9 (eM (.vy bl::call.args.toList.map (ev E st.tm))) (upTo 0) (gi 0)
         obtain⟨_,t',h4⟩:=iE st.mem (st.mem.length+1) (eR (upTo 0) (eM (.vy bl::call.args.toList.map (ev E st.tm)))) 0 (b9 _ _ (gi 0)).1
         unfold close
         rw[h4]
         refine List.mem_append_left _ ?_
         show bl∈eR [] (bl::eM (call.args.toList.map (ev E st.tm)))
         simp only[eR,has,cond_false,List.nil_append]
         obtain⟨_,t2,h5⟩:=b9 (eM (call.args.toList.map (ev E st.tm))) [bl] (by simp)
         rw[h5]
         exact List.mem_append_left _ (by simp)
        have hargs:bM g w (call.args.toList.map (ev E st.tm)) (call.args.map a.eval).toList:=by
         rw[Array.toList_map];exact eg xA _
        generalize hxs:call.args.toList.map (ev E st.tm)=xs at *
        obtain⟨hnd,_⟩:=cS st.mem 0 (.vy bl::xs)
        generalize close st.mem 0 (.vy bl::xs)=ord at *
        obtain⟨BE,BF⟩:=hs.rel.pack hnd
        have iF:=bK.pack g ord
        obtain⟨j,L4,hj2⟩:=List.getElem_of_mem hin
        have Hs:ord[j]? = some bl:=by rw[List.getElem?_eq_getElem L4,hj2]
        have hidx:idx ord bl=some j:=lf hnd Hs
        have L5:cO (idx ord) (.vy bl::xs) = .vy j::cO (idx ord) xs:=by simp only[cO,Am.fU,hidx]
        have L6:(g.pack ord).aN j=some l:=by simp[Gh.pack,Hs,hl]
        obtain⟨f,tmps,as,bd,w',g',cv,y,q1,q4,q5,q6,q7,q8⟩:=dc (g.pack ord) w j l (cO (idx ord) xs) (call.args.map a.eval) (b.atR a (.inRegion ops (i::rest)::k)) cs L5 BE L6
         (bM.fU iF hargs) (hs.ct.mono fun _ _ p=>⟨p,rfl⟩)
        have hlen:(Am.pack st.mem ord).length=ord.length:=by simp[Am.pack]
        rw[hlen] at q7 q8
        obtain⟨r1,r2,r3,r4⟩:=hs.rel.back hnd (dG hlt) q5 q6 q7 q8
        have hstep:=xY (b:=b) (k:=k) (cs:=cs) (rest:=rest) ho hw (rV hop rW hcx y)
        have jB:(b.atR a (.inRegion ops (i::rest)::k)).finish cv=b.atR (a.put o.dst cv) (.inRegion ops rest::k):=by rw[Frame.finish_atR,ho];rfl
        rw[jB] at q1
        have iO:st.fix≤(bF (aI ord st.mem.length) ord m1 st.mem).length:=by
         rw[cm _ _ _ _ q8];have:=hs.fix;omega
        refine⟨_,a.put o.dst cv,w',.head hstep q1,hd.put (st':={st with mem:=_}) r2 rfl,hb.put (st':={st with mem:=_}) r2 rfl,hs.put hf (q4.fU r4) r2 r1 iO,?_,aP.me r2 _,?_⟩
        · have:(back ord o.dst st v m1).mem=bF (aI ord st.mem.length) ord m1 st.mem:=by
           unfold back Am.put;cases o.dst<;>rfl
          rw[this];exact r3
        · unfold back Am.put;cases o.dst<;>rfl
     · cases ht
   · cases ht
 · cases ht
theorem Al {f:FuncId} (h:yV P f=true) (x:Value):(callFunc f #[x]).run P w = .ok (.value x) w:=by
 unfold yV at h
 split at h
 · rename_i fn hf
   simp only[Bool.and_eq_true] at h
   obtain⟨h1,h2,h3⟩:=h
   have h2:=of_decide_eq_true h2
   have h3:=of_decide_eq_true h3
   have hn:(fn.name == "runtime.NumGoroutine")=false:=by rw[h2];decide
   have q1:Extern.findNext fn=none:=by
    simp only[Extern.findNext,h2,h3]
    kernel_rfl
   have q2:Extern.find fn=some Extern.AbiNoEscape.same:=by
    simp only[Extern.find,h2,h3]
    kernel_rfl
   rw[run_callFunc_extern hf hn h1 q1 q2]
   rfl
 · cases h
theorem wk {ρ:Operand→AV} {aV:Operand→Value} (hr : ∀x,VA g w (ρ x) (aV x)) {o:Oper} {v:AV} (h:Bg P ρ o=some v) : ∃cv,(execOp aV o).run P w = .ok (.value cv) w∧VA g w v cv:=by
 unfold Bg at h
 split at h
 · rename_i c ho
   split at h
   · rename_i f x hc ha
     have gZ:c.args = #[x]:=by have:=congrArg List.toArray ha;simpa using this
     split at h
     · rename_i q hq
       cases he:yV P q with
       |false=>rw[he] at h;cases h
       |true=>
        rw[he] at h
        simp only[cond_true,Option.some.injEq] at h
        subst h
        have hf:=hr f
        rw[hq,VA.fns] at hf
        obtain⟨fa,ca,JU,q1,q2⟩:=hf
        have e1:fa = #[]:=by cases fa with | mk l=>cases l with | nil=>rfl | cons _ _=>exact q1.elim
        have e2:ca = #[]:=by cases ca with | mk l=>cases l with | nil=>rfl | cons _ _=>exact q2.elim
        subst e1;subst e2
        refine⟨aV x,?_,hr x⟩
        simp only[execOp,ho,resolve,hc,JU,gZ,Deferred.ofValue,Sem.run_bind,Sem.run_pure,Result.andThen_ok,invoke,List.map_toArray,List.map_cons,List.map_nil,Array.append_empty,Array.empty_append]
        exact Al he _
     · cases h
   · cases h
 · cases h
theorem wm {v:AV} {cv:Value} (h:sA v=true) (hv:VA g w v cv) : ∃t x,cv = .iface t x:=by
 cases hv with
 |gx t v cv h=>exact⟨t,cv,rfl⟩
 |p v cv h'=>cases h' with
  |gx t v cv h=>exact⟨t,cv,rfl⟩
  |_=>cases h
 |_=>cases h
theorem xZ {b:Frame} {a:Act} {k:List Item} {cs:List Frame} {ops:Array Oper} {i:Nat} {rest:List Nat} {o:Oper} {v:Value} (ho:ops[i]? = some o) (hw:Region.wanted o (yielded ops a.tmps)=true)
  (hr:(o.semAt b.roundOf a.eval).run P w = .halt (.panic v) w) :
  _root_.Go.step P (lone (b.atR a (.inRegion ops (i::rest)::k)) cs w) = .next (lone {b.atR a (.inRegion ops (i::rest)::k) with mode:=bB (some v) false} cs w):=by
 have hg:=stepGR_op (P:=P) (b:=b) (k:=k) (cs:=cs) (w:=w) (rest:=rest) ho hw
 refine step_lone_go ?_
 rw[hg]
 simp[stepG.apply,hr,Frame.raise,Frame.atR,bB]
theorem jC : ∀{l:List AV} {q:List (Nat×Nat)} {cs:List Value},sy l=some q→bM g w l cs→Jz g q cs
 |[],q,[],h,_=>by
  simp only[sy,Option.some.injEq] at h;subst h;trivial
 |.mp b off::l,q,cv::cs,h,hv=>by
  simp only[sy] at h
  split at h
  · rename_i l' hl
    simp only[Option.some.injEq] at h;subst h
    have h1:=hv.1
    cases h1 with
    |mp _ _ c hc=>exact⟨⟨c,hc,rfl⟩,jC hl hv.2⟩
  · cases h
 |[],_,_::_,_,hv=>hv.elim
 |_::_,_,[],_,hv=>hv.elim
 |.ah::_,_,_::_,h,_ | .p _::_,_,_::_,h,_ | .os .. :: _,_,_::_,h,_ | .ms .. :: _,_,_::_,h,_ | .fn .. :: _,_,_::_,h,_ | .agg _::_,_,_::_,h,_ | .aO _::_,_,_::_,h,_
 |.gx .. :: _,_,_::_,h,_ | .vm _::_,_,_::_,h,_ | .vy _::_,_,_::_,h,_=>by cases h
theorem BL {c:bD} {b:Frame} {a:Act} {k0:List It} {ops:Array Oper} {i aU:Nat} {o:Oper} (hs:bn E g c.st a w) (qg:b.fn=c.f) (hbk:cF g c.st.aZ b) (hd:Mk g c.st.bq a.defers)
  (ho:ops[i]? = some o) (hw:Region.wanted o (yielded ops a.tmps)=true) (Fp : ∀x∈k0,It.pl x) :
  uM P E g c (b.atR a (.inRegion ops (i::List.range' (i+1) (ops.size-(i+1)))::cg k0)) w (Bh E c o (.ops aU ops (i+1) false::k0)):=by
 have xA:=dQ hs
 have throw : ∀(x:Operand),sA (ev E c.st.tm x)=true→(∀v,a.eval x=v→(∃t y,v = .iface t y)→(o.semAt b.roundOf a.eval).run P w = .halt (.panic v) w) →
   cL P E g c (b.atR a (.inRegion ops (i::List.range' (i+1) (ops.size-(i+1)))::cg k0)) w {c with todo:=[.eD (ev E c.st.tm x)]}:=by
  intro x hx hrun cs
  have hr:=hrun _ rfl (wm hx (xA x))
  exact⟨g,_,w,.one (xZ ho hw hr),⟨b,a,_,a.eval x,rfl,qg,hbk,hd,hs,xA x⟩,bO.refl _ _ _,aP.refl _ _,rfl,rfl,rfl⟩
 unfold Bh
 split
 · rename_i x hop
   cases hx:sA (ev E c.st.tm x) with
   |false=>trivial
   |true=>
    refine throw x hx fun v hv ⟨t,y,e⟩=> ?_
    have Fq:o.semAt b.roundOf a.eval=execOp a.eval o:=by unfold Oper.semAt;rw[hop];cases b.roundOf<;>rfl
    rw[Fq]
    subst hv
    simp only[execOp,hop,e,Instr.panic]
    rfl
 · rename_i d hop
   split
   · rename_i x hc ha
     have gZ:d.args = #[x]:=by have:=congrArg List.toArray ha;simpa using this
     cases hx:sA (ev E c.st.tm x) with
     |false=>trivial
     |true=>
      refine throw x hx fun v hv ⟨t,y,e⟩=> ?_
      have Fq:o.semAt b.roundOf a.eval=execOp a.eval o:=by unfold Oper.semAt;rw[hop];cases b.roundOf<;>rfl
      rw[Fq]
      subst hv
      simp only[execOp,hop,resolve,hc,gZ,Sem.run_bind,Sem.run_pure,Result.andThen_ok,invoke,List.map_toArray,List.map_cons,List.map_nil,e]
      rfl
   · trivial
 · rename_i d hop
   split
   · trivial
   · rename_i f hmk rW qh
     split
     · rename_i gf first captured hf
       split
       · rename_i l m hl hm
         intro hfit cs
         have hvf:=xA f
         rw[hf,VA.fns] at hvf
         obtain⟨fa,ca,JU,Ft,hca⟩:=hvf
         have hro:=hbk.uK fun i e=>qh i e
         have hrun:(o.semAt b.roundOf a.eval).run P w = .ok (.defer {target:= .fn (.func gf) ca,args:=fa++d.args.map a.eval}) w:=by
          rw[hro]
          simp only[Oper.semAt,execOp,hop,resolve,rW,JU,Deferred.ofValue,Sem.run_bind,Sem.run_pure,Result.andThen_ok]
         have hargs:bM g w (first++d.args.toList.map (ev E c.st.tm)) (fa++d.args.map a.eval).toList:=by
          simp only[Array.toList_append,Array.toList_map]
          exact Ft.append (eg xA _)
         rw[hmk] at hd
         have hds:a.defers=[]:=by
          cases hq:a.defers with
          |nil=>rfl
          |cons _ _=>rw[hq] at hd;exact hd.elim
         have hstep:_root_.Go.step P (lone (b.atR a (.inRegion ops (i::List.range' (i+1) (ops.size-(i+1)))::cg k0)) cs w) =
          .next (lone (b.atR ({a with defers:=[{target:= .fn (.func gf) ca,args:=fa++d.args.map a.eval}]}.put o.dst undef) (.inRegion ops (List.range' (i+1) (ops.size-(i+1)))::cg k0)) cs w):=by
          have hg:=stepGR_op (P:=P) (b:=b) (k:=cg k0) (cs:=cs) (w:=w) (rest:=List.range' (i+1) (ops.size-(i+1))) ho hw
          have jB:({b.atR a (.inRegion ops (i::List.range' (i+1) (ops.size-(i+1)))::cg k0) with defers:={target:= .fn (.func gf) ca,args:=fa++d.args.map a.eval}::a.defers}:Frame).finish undef =
           b.atR ({a with defers:=[{target:= .fn (.func gf) ca,args:=fa++d.args.map a.eval}]}.put o.dst undef) (.inRegion ops (List.range' (i+1) (ops.size-(i+1)))::cg k0):=by
           have:=Frame.finish_atR b {a with defers:=[{target:= .fn (.func gf) ca,args:=fa++d.args.map a.eval}]} ops i (List.range' (i+1) (ops.size-(i+1))) (cg k0) undef
           rw[ho] at this
           rw[hds]
           exact this
          refine step_lone_go ?_
          rw[hg]
          simp only[stepG.apply,Sem.runT_eq,hrun,GStep.bare_after]
          exact congrArg (fun fr=>GStep.go {frame:=fr,callers:=cs,status:= .running,dying:=none} w) jB
         have hs':bn E g {c.st with bq:=[.late gf l m]} {a with defers:=[{target:= .fn (.func gf) ca,args:=fa++d.args.map a.eval}]} w:=⟨hs.tm,hs.nt,hs.rel,hs.fix,hs.ct⟩
         have hd':Mk g [.late gf l m] [{target:= .fn (.func gf) ca,args:=fa++d.args.map a.eval}]:=⟨⟨_,_,jC hl hargs,jC hm hca,rfl⟩,trivial⟩
         refine⟨g,_,w,.one hstep,bH.mk (c:={c with todo:= .ops aU ops (i+1) false::k0,st:=put {c.st with bq:=[.late gf l m]} o.dst (.aO [])}) (nf trivial Fp) qg
          (hbk.put (st:=c.st) (st':={c.st with bq:=[.late gf l m]}) (Ext.refl g w) rfl)
          (Mk.put (st:={c.st with bq:=[.late gf l m]}) (st':={c.st with bq:=[.late gf l m]}) (a:={a with defers:=[{target:= .fn (.func gf) ca,args:=fa++d.args.map a.eval}]}) hd' (Ext.refl g w) rfl)
          (hs'.put (cv:=undef) (v:= .aO []) (m':=c.st.mem) hfit (VA.fY.2 trivial) (Ext.refl g w) hs.rel hs.fix),?_,aP.refl _ _,rfl,?_,fN⟩
         · have:(put {c.st with bq:=[.late gf l m]} o.dst (.aO [])).mem=c.st.mem:=by unfold Am.put;cases o.dst<;>rfl
           show bO g c.st.mem w g (put {c.st with bq:=[.late gf l m]} o.dst (.aO [])).mem w
           rw[this];exact bO.refl _ _ _
         · show(put {c.st with bq:=[.late gf l m]} o.dst (.aO [])).fix=c.st.fix
           unfold Am.put;cases o.dst<;>rfl
       · trivial
     · trivial
   · trivial
 · trivial
theorem zk {c:bD} {b:Frame} {a:Act} {k0:List It} {ops:Array Oper} {i aU:Nat} {o:Oper} (hs:bn E g c.st a w) (qg:b.fn=c.f) (hbk:cF g c.st.aZ b) (hd:Mk g c.st.bq a.defers)
  (ho:ops[i]? = some o) (hw:Region.wanted o (yielded ops a.tmps)=true) (Fp : ∀x∈k0,It.pl x) :
  uM P E g c (b.atR a (.inRegion ops (List.range' i (ops.size-i))::cg k0)) w (Bi P E c aU o (.ops aU ops (i+1) false::k0)):=by
 have hi:i<ops.size:=by
  rcases Nat.lt_or_ge i ops.size with q | q
  · exact q
  · rw[Array.getElem?_eq_none q] at ho;cases ho
 rw[jA hi]
 unfold Bi
 have xA:=dQ hs
 split
 · rename_i f args ht
   split
   · rename_i v JV
     intro hok cs
     obtain⟨cv,k1,k2⟩:=wk xA JV
     have hstep:=mj (b:=b) (k:=cg k0) (cs:=cs) (rest:=List.range' (i+1) (ops.size-(i+1))) ho hw (.inl k1)
     refine⟨g,_,w,.one hstep,bH.mk (a:=a.put o.dst cv) (c:={c with todo:= .ops aU ops (i+1) false::k0,st:=put {c.st with mem:=c.st.mem} o.dst v}) (nf trivial Fp) qg (hbk.put (st':={c.st with mem:=_}) (Ext.refl g w) rfl) (hd.put (st':={c.st with mem:=_}) (Ext.refl g w) rfl) (hs.put hok k2 (Ext.refl g w) hs.rel hs.fix),?_,aP.refl _ _,rfl,?_,fN⟩
     · have:(put c.st o.dst v).mem=c.st.mem:=(by unfold Am.put;cases o.dst<;>rfl)
       show bO g c.st.mem w g (put c.st o.dst v).mem w
       rw[this];exact bO.refl _ _ _
     · show(put c.st o.dst v).fix=c.st.fix
       unfold Am.put;cases o.dst<;>rfl
   cases hb:(fits c.st o.dst&&fq (close c.st.mem 0 args) c.st.mem.length) with
   |false=>simp only[hb,cond_false];trivial
   |true=>
    simp only[hb,cond_true]
    simp only[Bool.and_eq_true] at hb
    unfold target at ht
    split at ht
    · rename_i call hop
      split at ht
      · rename_i x rW
        split at ht
        · rename_i f' first captured hx
          simp only[Option.some.injEq,Prod.mk.injEq] at ht
          obtain⟨rfl,rfl⟩:=ht
          have rR:=xA x
          rw[hx,VA.fns] at rR
          obtain⟨fa,ca,rR,Ft,hca⟩:=rR
          have hargs:bM g w (first++call.args.toList.map (ev E c.st.tm)++captured) (fa++call.args.map a.eval++ca).toList:=by
           simp only[Array.toList_append,Array.toList_map]
           exact(Ft.append (eg xA _)).append hca
          generalize first++call.args.toList.map (ev E c.st.tm)++captured=args at *
          obtain⟨hnd,_⟩:=cS c.st.mem 0 args
          generalize close c.st.mem 0 args=ord at *
          obtain⟨BE,BF⟩:=hs.rel.pack hnd
          have iF:=bK.pack g ord
          have hlen:(Am.pack c.st.mem ord).length=ord.length:=by simp[Am.pack]
          constructor
          · intro v m1 dc cs
            obtain⟨⟨fn,DA,DB,DC⟩,dc⟩:=dc
            have hrun:=qe (P:=P) (w:=w) hop rW rR DA DB DC
            obtain⟨w',g',cv,fr,q1,q2,q3,q4,q5,q6,q7,q8⟩:=dc (g.pack ord) w (fa++call.args.map a.eval++ca) (b.atR a (.inRegion ops (i::List.range' (i+1) (ops.size-(i+1)))::cg k0)::cs) BE
             (bM.fU iF hargs) (hs.ct.mono fun _ _ p=>⟨p,rfl⟩)
            rw[hlen] at q7 q8
            obtain⟨r1,r2,r3,r4⟩:=hs.rel.back hnd (dG hb.2) q5 q6 q7 q8
            have hstep:=lg (b:=b) (k:=cg k0) (cs:=cs) (rest:=List.range' (i+1) (ops.size-(i+1))) ho hw hrun
            have hleave:=step_leave_returned (P:=P) (c:=b.atR a (.inRegion ops (i::List.range' (i+1) (ops.size-(i+1)))::cg k0)) (cs:=cs) q2
            have jB:(b.atR a (.inRegion ops (i::List.range' (i+1) (ops.size-(i+1)))::cg k0)).finish cv=b.atR (a.put o.dst cv) (.inRegion ops (List.range' (i+1) (ops.size-(i+1)))::cg k0):=by
             rw[Frame.finish_atR,ho];rfl
            rw[jB] at hleave
            have iO:c.st.fix≤(bF (aI ord c.st.mem.length) ord m1 c.st.mem).length:=by
             rw[cm _ _ _ _ q8];have:=hs.fix;omega
            refine⟨_,_,w',.head hstep (q1.trans (.one hleave)),bH.mk (a:=a.put o.dst cv) (c:={c with todo:= .ops aU ops (i+1) false::k0,st:=back ord o.dst c.st v m1}) (nf trivial Fp) qg (hbk.put (st':={c.st with mem:=_}) r2 rfl) (hd.put (st':={c.st with mem:=_}) r2 rfl) (hs.put hb.1 (q4.fU r4) r2 r1 iO),?_,aP.me r2 _,rfl,?_,fN⟩
            · have:(back ord o.dst c.st v m1).mem=bF (aI ord c.st.mem.length) ord m1 c.st.mem:=by
               unfold back Am.put;cases o.dst<;>rfl
              show bO g c.st.mem w _ (back ord o.dst c.st v m1).mem w'
              rw[this];exact r3
            · show(back ord o.dst c.st v m1).fix=c.st.fix
              unfold back Am.put;cases o.dst<;>rfl
          · intro u m1 dc cs
            obtain⟨⟨fn,DA,DB,DC⟩,dc⟩:=dc
            have hrun:=qe (P:=P) (w:=w) hop rW rR DA DB DC
            obtain⟨w',g',cv,fr,q1,q2,q3,q4,q5,q6,q7,q8⟩:=dc (g.pack ord) w (fa++call.args.map a.eval++ca) (b.atR a (.inRegion ops (i::List.range' (i+1) (ops.size-(i+1)))::cg k0)::cs) BE
             (bM.fU iF hargs) (hs.ct.mono fun _ _ p=>⟨p,rfl⟩)
            rw[hlen] at q7 q8
            obtain⟨r1,r2,r3,r4⟩:=hs.rel.back hnd (dG hb.2) q5 q6 q7 q8
            have hstep:=lg (b:=b) (k:=cg k0) (cs:=cs) (rest:=List.range' (i+1) (ops.size-(i+1))) ho hw hrun
            have hleave:=step_leave_panicked (P:=P) (c:=b.atR a (.inRegion ops (i::List.range' (i+1) (ops.size-(i+1)))::cg k0)) (cs:=cs) q2
            have iO:c.st.fix≤(bF (aI ord c.st.mem.length) ord m1 c.st.mem).length:=by
             rw[cm _ _ _ _ q8];have:=hs.fix;omega
            refine⟨_,_,w',.head hstep (q1.trans (.one hleave)),⟨b,a,_,cv,rfl,qg,hbk.ext fun i c q=>(r2.aN i c q).1,hd.ext fun i c q=>(r2.aN i c q).1,⟨fun k=>(hs.tm k).mono r2,hs.nt,r1,iO,hs.ct.mono r2.pure⟩,q4.fU r4⟩,r3,aP.me r2 _,rfl,rfl,rfl⟩
        · cases ht
      · cases ht
    · cases ht
 · dsimp only
   split
   · rename_i args ht
     cases hb:(fits c.st o.dst&&fq (close c.st.mem 0 args) c.st.mem.length) with
     |false=>trivial
     |true=>
      simp only[cond_true]
      simp only[Bool.and_eq_true] at hb
      intro v m1 dc cs
      obtain⟨g',a',w',r1,r2,r3,r4,r5,r6,r7⟩:=BK (P:=P) (k:=cg k0) (rest:=List.range' (i+1) (ops.size-(i+1))) hs hd hbk ho hw ht hb.1 hb.2 dc cs
      exact⟨g',_,w',r1,bH.mk (a:=a') (c:={c with todo:= .ops aU ops (i+1) false::k0,st:=back (close c.st.mem 0 args) o.dst c.st v m1}) (nf trivial Fp) qg r3 r2 r4,r5,r6,rfl,r7,fN⟩
   · split
     · rename_i v us ok he
       intro hok cs
       simp only[Bool.and_eq_true] at hok
       obtain⟨rfl,hfit⟩:=hok
       have hres:Rel g (reserve o c.st.mem) w∧bO g c.st.mem w g (reserve o c.st.mem) w:=by
        unfold reserve
        cases makes o with
        |true=>exact hs.rel.reserve
        |false=>exact⟨hs.rel,bO.refl _ _ _⟩
       have hfree:makes o=true→(reserve o c.st.mem)[c.st.mem.length]? = some .free:=by
        intro hm
        simp[reserve,hm]
       obtain⟨cv,w',g',k1,k2,k3,k4,k5⟩:=ke hres.1 xA (fun _=>rfl) hfree he
       have hstep:=mj (b:=b) (k:=cg k0) (cs:=cs) (rest:=List.range' (i+1) (ops.size-(i+1))) ho hw k1
       have iO:c.st.fix≤(apply (reserve o c.st.mem) us).length:=by
        rw[cB]
        have:=hs.fix
        unfold reserve
        cases makes o<;>simp<;>omega
       refine⟨g',_,w',.one hstep,bH.mk (a:=a.put o.dst cv) (c:={c with todo:= .ops aU ops (i+1) false::k0,st:=put {c.st with mem:=apply (reserve o c.st.mem) us} o.dst v}) (nf trivial Fp) qg (hbk.put (st':={c.st with mem:=_}) k4 rfl) (hd.put (st':={c.st with mem:=_}) k4 rfl) (hs.put hfit k2 k4 k3 iO),?_,aP.me k4 _,rfl,?_,fN⟩
       · have:(put {c.st with mem:=apply (reserve o c.st.mem) us} o.dst v).mem=apply (reserve o c.st.mem) us:=by unfold Am.put;cases o.dst<;>rfl
         show bO g c.st.mem w _ (put {c.st with mem:=apply (reserve o c.st.mem) us} o.dst v).mem w'
         rw[this];exact hres.2.trans k5
       · show(put {c.st with mem:=apply (reserve o c.st.mem) us} o.dst v).fix=c.st.fix
         unfold Am.put;cases o.dst<;>rfl
     · exact BL hs qg hbk hd ho hw Fp
end
end Go.Am
end
section
namespace Go.Am
section
variable {P:Program} {E:Env}
theorem nT {ρ ρ':Operand→AV} : ∀{l:List Operand},(∀x∈l,ρ x=ρ' x)→nE ρ l=nE ρ' l
 |[],_=>rfl
 |x::r,h=>by simp only[nE,h x (.head _),nT fun y hy=>h y (.tail _ hy)]
theorem jD {ρ ρ':Operand→AV} {x:Option Operand} (h : ∀y∈x,ρ y=ρ' y) (d:Nat):bound ρ x d=bound ρ' x d:=by
 cases x with
 |none=>rfl
 |some x=>simp only[bound,h x (by simp)]
theorem sV {rd:Nat→av} {wr:Bool} {aF:Nat} {ρ ρ':Operand→AV} {o:Oper} (hq:dW o=true) (h : ∀x∈o.op.operands,ρ x=ρ' x):nH P rd wr aF ρ o=nH P rd wr aF ρ' o:=by
 have hsel : ∀cs b,o.op ≠ .select cs b:=by
  intro cs b e
  simp[dW,e] at hq
 have hsc:scalar P ρ o=scalar P ρ' o:=by
  unfold scalar
  rw[nT (ρ:=ρ) (ρ':=ρ') fun x hx=>h x (by simpa using hx),
   execOp_congr (ρ:=fun x=>(xF (ρ x)).getD undef) (ρ':=fun x=>(xF (ρ' x)).getD undef) o hsel fun x hx=>by rw[h x hx]]
 obtain⟨dst,op,type,pos,after,guard⟩:=o
 cases op<;>simp only[dW,Bool.false_eq_true] at hq<;>simp only[Op.operands] at h<;>simp only[nH]
 case move x=>rw[h x (by simp)]
 case assign x=>rw[h x (by simp)]
 case pick c a b=>rw[h c (by simp),h a (by simp),h b (by simp)]
 case build t ps=>
  have:ps.toList.map (fun q=>(q.1,ρ q.2))=ps.toList.map fun q=>(q.1,ρ' q.2):=
   List.map_congr_left fun q hq=>by rw[h q.2 (by simp only[List.mem_toArray,List.mem_map];exact⟨q,hq,rfl⟩)]
  rw[this]
 case load t a=>rw[h a (by simp)]
 case nilCheck x=>rw[h x (by simp)];simp only[fR,hsc]
 case binOp op t x y r=>rw[h x (by simp),h y (by simp)];simp only[lM,hsc]
 case unOp op t x=>rw[h x (by simp)];simp only[oW,hsc]
 case convert s d x=>rw[h x (by simp)];simp only[convertOp,hsc]
 case makeInterface t x=>rw[h x (by simp)]
 case makeFunc f first captured=>
  rw[List.map_congr_left (l:=first.toList) fun x hx=>h x (by simp_all),List.map_congr_left (l:=captured.toList) fun x hx=>h x (by simp_all)]
 case slice t x lo hi mx=>
  rw[h x (by simp)]
  have h1:=jD (ρ:=ρ) (ρ':=ρ') (x:=lo) fun y hy=>h y (by simp_all)
  have h2:=jD (ρ:=ρ) (ρ':=ρ') (x:=hi) fun y hy=>h y (by simp_all)
  have h3:=jD (ρ:=ρ) (ρ':=ρ') (x:=mx) fun y hy=>h y (by simp_all)
  cases mx with
  |none=>
   simp only[jX,h1,h2]
   repeat' first | rfl | split
   all_goals simp_all
  |some m=>
   simp only[jX,h1,h2]
   repeat' first | rfl | split
   all_goals simp_all
 case fieldAddr t x f=>rw[h x (by simp)]
 case field t x f=>rw[h x (by simp)]
 case indexAddr t x i=>rw[h x (by simp),h i (by simp)]
 case index t x i=>rw[h x (by simp),h i (by simp)]
 case extract x i=>rw[h x (by simp)]
 case call c=>
  obtain⟨callee,args,tys⟩:=c
  cases callee with
  |value _=>simp at hq
  |invoke _ _=>simp at hq
  |builtin b=>
   simp only[Call.operands] at h
   obtain⟨args⟩:=args
   have L7 : ∀mn,fT P ρ ⟨dst,.call ⟨.builtin b,⟨args⟩,tys⟩,type,pos,after,guard⟩ mn args=fT P ρ' ⟨dst,.call ⟨.builtin b,⟨args⟩,tys⟩,type,pos,after,guard⟩ mn args:=by
    intro mn
    unfold fT
    rw[hsc,List.map_congr_left (l:=args) fun x hx=>h x (by simp_all)]
   cases b<;>simp only[Bool.false_eq_true] at hq<;>simp only[L7]
   cases args with
   |nil=>rfl
   |cons x r=>cases r with
    |nil=>simp only[h x (by simp)]
    |cons _ _=>rfl
theorem mq (st:St) (dst:Option Tmp) (v:AV) (t:Nat):look (put st dst v).tm t=if dst=some t then v else look st.tm t:=by
 cases dst with
 |none=>simp[put]
 |some d=>simp only[put,fP,Option.some.injEq]
theorem uN (st:St) (dst:Option Tmp) (v:AV):(put st dst v).mem=st.mem∧(put st dst v).nt=st.nt∧(put st dst v).fix=st.fix:=by
 cases dst<;>exact⟨rfl,rfl,rfl⟩
theorem iG {a b:List Nat} (h:meet a b=false) {i:Nat} (ha:i∈a) (hb:i∈b):False:=by
 simp only[meet,List.any_eq_false] at h
 have:=h i ha
 simp only[List.any_eq_true,not_exists,not_and] at this
 exact this i hb (Nat.beq_refl i)
theorem wo : ∀(l:List Oper) (acc:List Nat),∃M,masks acc l=acc++M∧M.length=l.length ∧ ∀i o,l[i]? = some o→M[i]? = some (kT (acc++M.take i) o)
 |[],acc=>⟨[],by simp[masks]⟩
 |o::r,acc=>by
  obtain⟨M,h1,h2,h3⟩:=wo r (acc++[kT acc o])
  refine⟨kT acc o::M,by simp[masks,h1],by simp[h2],?_⟩
  intro i p hp
  cases i with
  |zero=>simp only[List.getElem?_cons_zero,Option.some.injEq] at hp;subst hp;simp
  |succ i=>
   simp only[List.getElem?_cons_succ] at hp
   have:=h3 i p hp
   simpa using this
theorem x7 {acc:List Nat} {o:Oper} {j:Nat} (h:Nat.testBit (kT acc o) j=true) : ∃e∈o.after,Region.binds .any e=true∧(e.on=j∨Nat.testBit (acc.getD e.on 0) j=true):=by
 unfold kT at h
 have key : ∀(l:List Edge) (s:Nat),Nat.testBit (l.foldl (fun s e=>cond (Region.binds .any e) (s|||(2 ^ e.on|||acc.getD e.on 0)) s) s) j=true →
   Nat.testBit s j=true ∨ ∃e∈l,Region.binds .any e=true∧(e.on=j∨Nat.testBit (acc.getD e.on 0) j=true):=by
  intro l
  induction l with
  |nil=>intro s h;exact .inl h
  |cons e r ih=>
   intro s h
   simp only[List.foldl_cons] at h
   rcases ih _ h with h | ⟨e',he',q⟩
   · cases hb:Region.binds .any e with
     |false=>rw[hb] at h;exact .inl h
     |true=>
      rw[hb] at h
      simp only[cond_true,Nat.testBit_or,Bool.or_eq_true] at h
      rcases h with h | h | h
      · exact .inl h
      · refine .inr ⟨e,.head _,hb,.inl ?_⟩
        rw[Nat.testBit_two_pow] at h
        exact of_decide_eq_true h
      · exact .inr ⟨e,.head _,hb,.inr h⟩
   · exact .inr ⟨e',.tail _ he',q⟩
 rcases key _ _ h with h | ⟨e,he,q⟩
 · simp at h
 · exact⟨e,by simpa using he,q⟩
theorem kG {q:Oper→Bool} {ops:Array Oper} {L:List Nat} : ∀{r iT:List Oper},fV q ops L iT.length iT r=true →
  ∀i o,(iT++r)[i]? = some o→iT.length≤i →
   q o=true∧(∀e∈o.after,Region.binds .any e=true→e.on<i) ∧ ∀j p,j<i→(iT++r)[j]? = some p→kU ops L i o j p=true
 |[],iT,_,i,o,ho,hi=>by
  simp only[List.append_nil] at ho
  rw[List.getElem?_eq_none hi] at ho;cases ho
 |q0::r,iT,h,i,o,ho,hi=>by
  simp only[fV,Bool.and_eq_true] at h
  obtain⟨⟨⟨h1,h2⟩,h3⟩,h4⟩:=h
  by_cases hc:i=iT.length
  · subst hc
    have:o=q0:=by simpa using ho.symm
    subst this
    refine⟨h1,?_,?_⟩
    · intro e he hb
      have:=List.all_eq_true.1 h2 e (by simpa using he)
      simp only[hb,Bool.not_true,Bool.false_or] at this
      rwa [Nat.blt_eq] at this
    · intro j p hj hp
      have key : ∀(l:List Oper) (k:Nat),oK ops L iT.length o k l=true → ∀m p,l[m]? = some p→kU ops L iT.length o (k+m) p=true:=by
       intro l
       induction l with
       |nil=>intro k _ m p hp;simp at hp
       |cons x l ih=>
        intro k hk m p hp
        simp only[oK,Bool.and_eq_true] at hk
        cases m with
        |zero=>simp only[List.getElem?_cons_zero,Option.some.injEq] at hp;subst hp;exact hk.1
        |succ m=>
         simp only[List.getElem?_cons_succ] at hp
         have:=ih (k+1) hk.2 m p hp
         rwa [Nat.add_assoc,Nat.add_comm 1 m] at this
      have hp':iT[j]? = some p:=by rwa [List.getElem?_append_left hj] at hp
      simpa using key iT 0 h3 j p hp'
  · have h4':fV q ops L (iT++[q0]).length (iT++[q0]) r=true:=by simpa using h4
    have:=kG h4' i o (by simpa using ho) (by simp;omega)
    simpa using this
def ER (P:Program) (E:Env) (rd:Nat→av) (wr:Bool) (aF:Nat) (ops:Array Oper) (st:St) (o:Oper) (v:AV):Prop:=
 ((cw ops st.tm o = .yes ∨ ∃d b want,cw ops st.tm o = .ask d b want∧(b==want)=true)∧nH P rd wr aF (ev E st.tm) o=some (v,[],true)) ∨
 ((cw ops st.tm o = .no ∨ ∃d b want,cw ops st.tm o = .ask d b want∧(b==want)=false)∧v = .aO [])
inductive uO (P:Program) (E:Env) (rd:Nat→av) (wr:Bool) (aF:Nat) (ops:Array Oper):List Oper→St→List AV→St→Prop
 |nil (st:St):uO P E rd wr aF ops [] st [] st
 |cons (o:Oper) (r:List Oper) (st:St) (v:AV) (vs:List AV) (st':St) (hf:fits st o.dst=true) (h:ER P E rd wr aF ops st o v)
   (hr:uO P E rd wr aF ops r (put st o.dst v) vs st'):uO P E rd wr aF ops (o::r) st (v::vs) st'
theorem jE {rd:Nat→av} {wr:Bool} {aF:Nat} {ops:Array Oper} : ∀{l:List Oper} {st st':St},gE P E rd wr aF ops l st=some (st',true) → ∃vs,uO P E rd wr aF ops l st vs st'
 |[],st,st',h=>by
  simp only[gE,Option.some.injEq,Prod.mk.injEq,and_true] at h
  subst h
  exact⟨[],.nil st⟩
 |o::r,st,st',h=>by
  have skip:(match gE P E rd wr aF ops r (put st o.dst (.aO [])) with
   |some (st',ok)=>some (st',fits st o.dst&&ok)
   |none=>none)=some (st',true)→fits st o.dst=true ∧ ∃vs,uO P E rd wr aF ops r (put st o.dst (.aO [])) vs st':=by
   intro h
   split at h
   · rename_i DD ok hq
     simp only[Option.some.injEq,Prod.mk.injEq,Bool.and_eq_true] at h
     obtain⟨rfl,h1,rfl⟩:=h
     exact⟨h1,jE hq⟩
   · cases h
  have lQ:(match nH P rd wr aF (ev E st.tm) o with
   |some (v,[],ok)=>match gE P E rd wr aF ops r (put st o.dst v) with
    |some (st',ok')=>some (st',ok&&(fits st o.dst&&ok'))
    |none=>none
   |_=>none)=some (st',true) → ∃v,nH P rd wr aF (ev E st.tm) o=some (v,[],true)∧fits st o.dst=true ∧ ∃vs,uO P E rd wr aF ops r (put st o.dst v) vs st':=by
   intro h
   split at h
   · rename_i v ok hop
     split at h
     · rename_i DD ok' hq
       simp only[Option.some.injEq,Prod.mk.injEq,Bool.and_eq_true] at h
       obtain⟨rfl,rfl,h1,rfl⟩:=h
       exact⟨v,hop,h1,jE hq⟩
     · cases h
   · cases h
  unfold gE at h
  dsimp only at h
  cases hw:cw ops st.tm o with
  |yes=>
   rw[hw] at h
   obtain⟨v,h1,h2,vs,h3⟩:=lQ h
   exact⟨v::vs,.cons o r st v vs st' h2 (.inl ⟨.inl hw,h1⟩) h3⟩
  |no=>
   rw[hw] at h
   obtain⟨h2,vs,h3⟩:=skip h
   exact⟨.aO []::vs,.cons o r st _ vs st' h2 (.inr ⟨.inl hw,rfl⟩) h3⟩
  |lost=>rw[hw] at h;cases h
  |ask d b want=>
   rw[hw] at h
   dsimp only at h
   cases hb:b==want with
   |true=>
    rw[hb] at h
    obtain⟨v,h1,h2,vs,h3⟩:=lQ h
    exact⟨v::vs,.cons o r st v vs st' h2 (.inl ⟨.inr ⟨d,b,want,hw,hb⟩,h1⟩) h3⟩
   |false=>
    rw[hb] at h
    obtain⟨h2,vs,h3⟩:=skip h
    exact⟨.aO []::vs,.cons o r st _ vs st' h2 (.inr ⟨.inr ⟨d,b,want,hw,hb⟩,rfl⟩) h3⟩
def wq (l:List Oper):Prop:= ∀(i j:Nat) (p q:Oper) (t:Tmp),i<j→l[i]? = some p→l[j]? = some q→p.dst=some t→q.dst≠some t
def bT (l:List Oper) (vs:List AV) (st:St) (i:Nat) (ff:St):Prop:=
 ff.mem=st.mem∧ff.nt=st.nt∧ff.fix=st.fix∧(∀j p v t,j<i→l[j]? = some p→vs[j]? = some v→p.dst=some t→look ff.tm t=v) ∧
 (∀t,(∀j p,j<i→l[j]? = some p→p.dst≠some t)→look ff.tm t=look st.tm t)
theorem bT.cons {o:Oper} {r:List Oper} {v:AV} {vs:List AV} {st ff:St} {i:Nat} (hu:wq (o::r)) (h:bT r vs (put st o.dst v) i ff):bT (o::r) (v::vs) st (i+1) ff:=by
 obtain⟨h1,h2,h3,h4,h5⟩:=h
 obtain⟨q1,q2,q3⟩:=uN st o.dst v
 refine⟨h1.trans q1,h2.trans q2,h3.trans q3,?_,?_⟩
 · intro j p w t hj hp hw ht
   cases j with
   |zero=>
    simp only[List.getElem?_cons_zero,Option.some.injEq] at hp hw
    subst hp;subst hw
    rw[h5 t fun j p _ hp=>hu 0 (j+1) o p t (by omega) rfl (by simpa using hp) ht,mq,if_pos ht]
   |succ j=>exact h4 j p w t (by omega) (by simpa using hp) (by simpa using hw) ht
 · intro t ht
   rw[h5 t fun j p hj hp=>ht (j+1) p (by omega) (by simpa using hp),mq,if_neg (ht 0 o (by omega) rfl)]
theorem uO.spec {rd:Nat→av} {wr:Bool} {aF:Nat} {ops:Array Oper} {l:List Oper} {st st':St} {vs:List AV} (h:uO P E rd wr aF ops l st vs st') (hu:wq l) :
  vs.length=l.length∧bT l vs st l.length st' ∧ ∀i o,l[i]? = some o → ∃v ff,vs[i]? = some v∧ER P E rd wr aF ops ff o v∧fits ff o.dst=true∧bT l vs st i ff:=by
 induction h with
 |nil st=>exact⟨rfl,⟨rfl,rfl,rfl,fun j _ _ _ hj=>absurd hj (Nat.not_lt_zero _),fun _ _=>rfl⟩,fun i o ho=>by simp at ho⟩
 |cons o r st v vs st' hf hk hr ih=>
  have Df:wq r:=fun i j p q t hij hp hq=>hu (i+1) (j+1) p q t (by omega) (by simpa using hp) (by simpa using hq)
  obtain⟨h1,h2,h3⟩:=ih Df
  refine⟨by simp[h1],h2.cons hu,?_⟩
  intro i p hp
  cases i with
  |zero=>
   simp only[List.getElem?_cons_zero,Option.some.injEq] at hp
   subst hp
   exact⟨v,st,rfl,hk,hf,rfl,rfl,rfl,fun j _ _ _ hj=>absurd hj (Nat.not_lt_zero _),fun _ _=>rfl⟩
  |succ i=>
   obtain⟨w,ff,q1,q2,q3,q4⟩:=h3 i p (by simpa using hp)
   exact⟨w,ff,by simpa using q1,q2,q3,q4.cons hu⟩
structure iU (ops:Array Oper) (L:List Nat) (vs:List AV) (dZ cD:St) (S:Array Bool):Prop where
 size:S.size=ops.size
 mem:cD.mem=dZ.mem
 nt:cD.nt=dZ.nt
 fix:cD.fix=dZ.fix
 a : ∀(j:Nat) (p:Oper) (v:AV) (t:Tmp),S.getD j false=true→ops.toList[j]? = some p→vs[j]? = some v→p.dst=some t→look cD.tm t=v
 b : ∀t:Tmp,(∀(j:Nat) (p:Oper),S.getD j false=true→ops.toList[j]? = some p→p.dst≠some t)→look cD.tm t=look dZ.tm t
 cl : ∀i j:Nat,S.getD i false=true→Nat.testBit (L.getD i 0) j=true→S.getD j false=true
structure ot (ops:Array Oper) (L:List Nat):Prop where
 mask : ∀i o,ops.toList[i]? = some o→L[i]? = some (kT (L.take i) o)
 low : ∀(i:Nat) o,ops.toList[i]? = some o → ∀e∈o.after,Region.binds .any e=true→e.on<i
 pair : ∀(i:Nat) o,ops.toList[i]? = some o → ∀j p,j<i→ops.toList[j]? = some p→kU ops L i o j p=true
theorem ot.of {q:Oper→Bool} {ops:Array Oper} (h:fV q ops (masks [] ops.toList) 0 [] ops.toList=true):ot ops (masks [] ops.toList) ∧ ∀(i:Nat) o,ops.toList[i]? = some o→q o=true:=by
 obtain⟨M,h1,_,h3⟩:=wo ops.toList []
 simp only[List.nil_append] at h1 h3
 rw[h1] at h ⊢
 have hs:=fun i o ho=>kG (iT:=[]) h i o ho (Nat.zero_le _)
 exact⟨⟨h3,fun i o ho=>(hs i o ho).2.1,fun i o ho=>(hs i o ho).2.2⟩,fun i o ho=>(hs i o ho).1⟩
theorem ot.uniq {ops:Array Oper} {L:List Nat} (h:ot ops L):wq ops.toList:=by
 intro i j p q t hij hp hq ht ht'
 have:=h.pair j q hq i p hij hp
 simp only[kU,Bool.and_eq_true,Bool.not_eq_true'] at this
 exact iG this.1 (i:=t) (by simp[ht']) (by simp[ht])
theorem hH {S:Array Bool} {j:Nat} (h:j<S.size) (d d':Bool):S.getD j d=S.getD j d':=by
 simp[Array.getD_eq_getD_getElem?,Array.getElem?_eq_getElem h]
theorem DE {S:Array Bool} {j:Nat} (h:S.getD j false=true):j<S.size:=by
 rcases Nat.lt_or_ge j S.size with q | q
 · exact q
 · rw[Array.getD_eq_getD_getElem?,Array.getElem?_eq_none q] at h;cases h
section
variable {ops:Array Oper} {L:List Nat} {vs:List AV} {dZ cD ff:St} {S:Array Bool}
theorem iU.ahead (hI:iU ops L vs dZ cD S) (hO:ot ops L) {i:Nat} (hi:i∈Region.ready .any ops S) {j:Nat} (hb:Nat.testBit (L.getD i 0) j=true):S.getD j false=true:=by
 obtain⟨_,o,ho,hr⟩:=mem_ready.1 hi
 have ho':ops.toList[i]? = some o:=by simpa using ho
 have hm:=hO.mask i o ho'
 rw[List.getD_eq_getElem?_getD,hm,Option.getD_some] at hb
 obtain⟨e,he,rC,h⟩:=x7 hb
 rcases h with h | h
 · exact h▸hr e he rC
 · have hlt:=hO.low i o ho' e he rC
   refine hI.cl e.on j (hr e he rC) ?_
   rw[List.getD_eq_getElem?_getD,List.getElem?_take,if_pos hlt,←List.getD_eq_getElem?_getD] at h
   exact h
theorem iU.slots (hI:iU ops L vs dZ cD S) (hO:ot ops L) {i:Nat} {o:Oper} (ho:ops.toList[i]? = some o) (hi:i∈Region.ready .any ops S) (hl:vs.length=ops.toList.length) (x8:bT ops.toList vs dZ i ff)
  {t:Tmp} (ht:t∈Am.slots ops o):look cD.tm t=look ff.tm t:=by
 obtain⟨_,_,_,hA,hB⟩:=x8
 have hu:=hO.uniq
 have hni:S.getD i false=false:=by
  obtain⟨h,_⟩:=mem_ready.1 hi
  cases hq:S.getD i false with
  |false=>rfl
  |true=>rw[hH (DE hq) false true,h] at hq;cases hq
 by_cases hw : ∃(j:Nat) (p:Oper),ops.toList[j]? = some p∧p.dst=some t
 · obtain⟨j,p,hp,hd⟩:=hw
   have only : ∀(k:Nat) (q:Oper),ops.toList[k]? = some q→q.dst=some t→k=j:=by
    intro k q hq Dg
    rcases Nat.lt_trichotomy k j with h | h | h
    · exact absurd hd (hu k j q p t h hq hp Dg)
    · exact h
    · exact absurd Dg (hu j k p q t h hp hq hd)
   rcases Nat.lt_trichotomy j i with h | h | h
   · have wu:=hO.pair i o ho j p h hp
     simp only[kU,Bool.and_eq_true,Bool.or_eq_true,Bool.not_eq_true'] at wu
     have Fu:Nat.testBit (L.getD i 0) j=true:=by
      rcases wu.2 with q | q
      · exact q
      · exact(iG q.1 (i:=t) (by simp[hd]) ht).elim
     have hS:=hI.ahead hO hi Fu
     have Br : ∃v,vs[j]? = some v:=by
      have:j<vs.length:=by rw[hl];exact(List.getElem?_eq_some_iff.1 hp).1
      exact⟨vs[j],List.getElem?_eq_getElem this⟩
     obtain⟨v,hv⟩:=Br
     rw[hI.a j p v t hS hp hv hd,hA j p v t h hp hv hd]
   · subst h
     rw[hI.b t,hB t]
     · intro k q hk hq Dg
       have:=only k q hq Dg
       omega
     · intro k q hk hq Dg
       have:=only k q hq Dg
       subst this
       rw[hni] at hk;cases hk
   · have wu:=hO.pair j p hp i o h ho
     simp only[kU,Bool.and_eq_true,Bool.or_eq_true,Bool.not_eq_true'] at wu
     have Fu:Nat.testBit (L.getD j 0) i=true:=by
      rcases wu.2 with q | q
      · exact q
      · exact(iG q.2 (i:=t) (by simp[hd]) ht).elim
     rw[hI.b t,hB t]
     · intro k q hk hq Dg
       have:=only k q hq Dg
       omega
     · intro k q hk hq Dg
       have:=only k q hq Dg
       subst this
       have:=hI.cl k i hk Fu
       rw[hni] at this;cases this
 · have hno : ∀(k:Nat) (q:Oper),ops.toList[k]? = some q→q.dst≠some t:=fun k q hq hd=>hw ⟨k,q,hq,hd⟩
   rw[hI.b t fun k q _ hq=>hno k q hq,hB t fun k q _ hq=>hno k q hq]
theorem iU.step (hI:iU ops L vs dZ cD S) (hO:ot ops L) {i:Nat} {o:Oper} {v:AV} (ho:ops.toList[i]? = some o) (hv:vs[i]? = some v) (hi:i∈Region.ready .any ops S) :
  iU ops L vs dZ (put cD o.dst v) (S.setIfInBounds i true):=by
 obtain⟨q1,q2,q3⟩:=uN cD o.dst v
 have hu:=hO.uniq
 have rL : ∀j,(S.setIfInBounds i true).getD j false=true→j=i∨S.getD j false=true:=by
  intro j hj
  by_cases h:i=j
  · exact .inl h.symm
  · rw[getD_set_ne false h] at hj;exact .inr hj
 have JW : ∀j,S.getD j false=true→(S.setIfInBounds i true).getD j false=true:=fun j hj=>getD_set_true hj
 refine⟨by simp[hI.size],q1.trans hI.mem,q2.trans hI.nt,q3.trans hI.fix,?_,?_,?_⟩
 · intro j p w t hj hp hw hd
   rw[mq]
   by_cases hji:j=i
   · subst hji
     rw[ho] at hp;cases hp
     rw[hv] at hw;cases hw
     rw[if_pos hd]
   · have hne:o.dst≠some t:=by
      rcases Nat.lt_or_gt_of_ne hji with h | h
      · exact hu j i p o t h hp ho hd
      · exact fun L8=>hu i j o p t h ho hp L8 hd
     rw[if_neg hne]
     rcases rL j hj with h | h
     · exact absurd h hji
     · exact hI.a j p w t h hp hw hd
 · intro t ht
   have vr:i<S.size:=by rw[hI.size];have:=(List.getElem?_eq_some_iff.1 ho).1;simpa using this
   have hne:o.dst≠some t:=ht i o (by simp[Array.getD_eq_getD_getElem?,vr]) ho
   rw[mq,if_neg hne]
   exact hI.b t fun j p hj hp=>ht j p (JW j hj) hp
 · intro k j hk hb
   rcases rL k hk with h | h
   · subst h;exact JW j (hI.ahead hO hi hb)
   · exact JW j (hI.cl k j h hb)
theorem iU.all (hI:iU ops L vs dZ cD S) (hO:ot ops L) (hr:Region.ready .any ops S=[]) : ∀i,i<ops.size→S.getD i false=true:=by
 intro i
 induction i using Nat.strongRecOn with
 |ind i ih=>
  intro hi
  have ho:ops[i]? = some ops[i]:=Array.getElem?_eq_getElem hi
  have ho':ops.toList[i]? = some ops[i]:=by simp[hi]
  cases hq:S.getD i false with
  |true=>rfl
  |false=>
   have:i∈Region.ready .any ops S:=mem_ready.2 ⟨by rw[hH (by rw[hI.size];exact hi) true false];exact hq,ops[i],ho,fun e he hb=>ih e.on (hO.low i _ ho' e he hb) (by have:=hO.low i _ ho' e he hb;omega)⟩
   rw[hr] at this;cases this
theorem iU.ends (hI:iU ops L vs dZ cD S) (hl:vs.length=ops.toList.length) {st':St} (hst:bT ops.toList vs dZ ops.toList.length st') (hall : ∀i,i<ops.size→S.getD i false=true) :
  cD.mem=st'.mem∧cD.nt=st'.nt∧cD.fix=st'.fix ∧ ∀t,look cD.tm t=look st'.tm t:=by
 obtain⟨h1,h2,h3,hA,hB⟩:=hst
 refine⟨hI.mem.trans h1.symm,hI.nt.trans h2.symm,hI.fix.trans h3.symm,fun t=> ?_⟩
 by_cases hw : ∃(j:Nat) (p:Oper),ops.toList[j]? = some p∧p.dst=some t
 · obtain⟨j,p,hp,hd⟩:=hw
   have hjl:=(List.getElem?_eq_some_iff.1 hp).1
   have Br:vs[j]? = some vs[j]:=List.getElem?_eq_getElem (by rw[hl];exact hjl)
   rw[hI.a j p _ t (hall j (by simpa using hjl)) hp Br hd,hA j p _ t hjl hp Br hd]
 · rw[hI.b t fun k q _ hq hd=>hw ⟨k,q,hq,hd⟩,hB t fun k q _ hq hd=>hw ⟨k,q,hq,hd⟩]
end
theorem bn.same {g:Gh} {w:World} {st st':St} {a:Act} (h:bn E g st a w) (h1:st.mem=st'.mem) (h2:st.nt=st'.nt) (h3:st.fix=st'.fix) (h4 : ∀t,look st.tm t=look st'.tm t):bn E g st' a w:=
 ⟨fun k=>h4 k▸h.tm k,h2▸h.nt,h1▸h.rel,by rw[←h1,←h3];exact h.fix,h.ct⟩
theorem nU {ops:Array Oper} {tm HR:mO} {o:Oper} (h : ∀t∈slots ops o,look tm t=look HR t):cw ops tm o=cw ops HR o:=by
 unfold cw
 unfold slots at h
 cases hg:o.guard with
 |none=>rfl
 |some q=>
  obtain⟨j,want⟩:=q
  simp only[hg] at h
  dsimp only
  cases hj:ops[j]? with
  |none=>rfl
  |some oj=>
   simp only[hj] at h
   dsimp only
   cases hd:oj.dst with
   |none=>rfl
   |some d=>simp only[h d (by simp[hd])]
theorem wv {tm HR:mO} {ops:Array Oper} {o:Oper} (h : ∀t∈slots ops o,look tm t=look HR t) : ∀x∈o.op.operands,ev E tm x=ev E HR x:=by
 intro x hx
 cases x with
 |tmp t=>exact h t (List.mem_append_right _ (List.mem_filterMap.2 ⟨.tmp t,by simpa using hx,rfl⟩))
 |_=>rfl
theorem An {b:Frame} {k:List Item} {ops:Array Oper} {L:List Nat} {vs:List AV} {dZ st':St} {wr:Bool} {aF:Nat} (hO:ot ops L) (hQ : ∀(i:Nat) o,ops.toList[i]? = some o→dW o=true) (hn:dZ.mem[aF]? = some .free)
  (hrun:uO P E (fun i=>dZ.mem.getD i .dead) wr aF ops ops.toList dZ vs st') : ∀(fuel t:Nat) (S:Array Bool) (cD:St) (a:Act) (g:Gh) (w:World) (u:List Nat),
    iU ops L vs dZ cD S→bn E g cD a w→u.length=fuel→(∀i,i<ops.size→S.getD i false=false→i∈u) →
    ∃g' a' w',(∀cs,Steps P (lone (b.atR a (.inRegion ops (Region.linearise.go .any ops fuel t S [])::k)) cs w) (lone (b.atR a' (.inRegion ops []::k)) cs w'))∧a'.defers=a.defers∧bn E g' st' a' w' ∧
     bO g dZ.mem w g' dZ.mem w'∧aP g g' dZ.fix ∧ ∀i c,g.aN i=some c→g'.aN i=some c:=by
 obtain⟨hl,hend,hspec⟩:=hrun.spec hO.uniq
 intro fuel
 induction fuel with
 |zero=>
  intro t S cD a g w u hI hs Fv hu
  have hall : ∀i,i<ops.size→S.getD i false=true:=by
   intro i hi
   cases hq:S.getD i false with
   |true=>rfl
   |false=>
    have:=hu i hi hq
    rw[List.eq_nil_of_length_eq_zero Fv] at this;cases this
  obtain⟨e1,e2,e3,e4⟩:=hI.ends hl hend hall
  exact⟨g,a,w,fun cs=>Steps.refl _ _,rfl,hs.same e1 e2 e3 e4,bO.refl _ _ _,aP.refl _ _,fun _ _ h=>h⟩
 |succ fuel ih=>
  intro t S cD a g w u hI hs Fv hu
  simp only[Region.linearise.go]
  show ∃g' a' w',(∀cs,Steps P (lone (b.atR a (.inRegion ops (match(Region.ready .any ops S)[t%(Region.ready .any ops S).length]? with
   |some i=>Region.linearise.go .any ops fuel (t / (Region.ready .any ops S).length) (S.setIfInBounds i true) [i]
   |none=>[].reverse)::k)) cs w) (lone (b.atR a' (.inRegion ops []::k)) cs w'))∧_
  cases hi:(Region.ready .any ops S)[t%(Region.ready .any ops S).length]? with
  |none=>
   have BM:Region.ready .any ops S=[]:=by
    cases hr:Region.ready .any ops S with
    |nil=>rfl
    |cons x xs=>
     rw[hr] at hi
     have hlt:t%(x::xs).length<(x::xs).length:=Nat.mod_lt _ (by simp)
     rw[List.getElem?_eq_getElem hlt] at hi;cases hi
   obtain⟨e1,e2,e3,e4⟩:=hI.ends hl hend (hI.all hO BM)
   exact⟨g,a,w,fun cs=>Steps.refl _ _,rfl,hs.same e1 e2 e3 e4,bO.refl _ _ _,aP.refl _ _,fun _ _ h=>h⟩
  |some i=>
   have DF:=List.mem_of_getElem? hi
   obtain⟨JX,o,ho,_⟩:=mem_ready.1 DF
   have ho':ops.toList[i]? = some o:=by simpa using ho
   obtain⟨v,ff,hv,hk,hf,x8⟩:=hspec i o ho'
   have qi : ∀t∈slots ops o,look cD.tm t=look ff.tm t:=fun t ht=>hI.slots hO ho' DF hl x8 ht
   have hilt:i<ops.size:=(Array.getElem?_eq_some_iff.1 ho).1
   have BN:i∈u:=hu i hilt (by rw[hH (by rw[hI.size];exact hilt) false true];exact JX)
   have Df : ∀j,j<ops.size→(S.setIfInBounds i true).getD j false=false→j∈u.erase i:=by
    intro j hj hq
    have hne:j≠i:=by
     intro e
     subst e
     rw[show(S.setIfInBounds j true).getD j false=true by simp[Array.getD_eq_getD_getElem?,hI.size,hj]] at hq
     cases hq
    rw[getD_set_ne false (fun e=>hne e.symm)] at hq
    exact(List.mem_erase_of_ne hne).2 (hu j hj hq)
   have DG:(u.erase i).length=fuel:=by rw[List.length_erase_of_mem BN,Fv];rfl
   have JA:=hI.step hO ho' hv DF
   have JB:fits cD o.dst=true:=by
    have:fits cD o.dst=fits ff o.dst:=by unfold fits;rw[hI.nt,x8.2.1]
    rw[this];exact hf
   dsimp only
   rw[linearise_go_acc,List.reverse_singleton,List.singleton_append]
   have Ao:=nU qi
   obtain⟨w1,w2,w3⟩:=kf hs (ops:=ops) (o:=o)
   rcases hk with⟨hw,hop⟩ | ⟨hw,rfl⟩
   · have fj:Region.wanted o (yielded ops a.tmps)=true:=by
      rcases hw with hw | ⟨d,b',want,hw,hb⟩
      · exact w1 (Ao.trans hw)
      · rw[(w3 d b' want (Ao.trans hw)).1];exact hb
     have JY:nH P (fun i=>cD.mem.getD i .dead) wr aF (ev E cD.tm) o=some (v,[],true):=by
      rw[hI.mem,sV (hQ i o ho') (wv qi)];exact hop
     obtain⟨cv,w',g',k1,k2,k3,k4,k5⟩:=ke hs.rel (dQ hs) (fun _=>rfl) (fun _=>by rw[hI.mem];exact hn) JY
     have hs':=hs.put JB k2 k4 k3 hs.fix
     obtain⟨g2,a2,JZ,r1,r2,r3,r4,r5,r6⟩:=ih (t / (Region.ready .any ops S).length) _ _ _ _ _ _ JA hs' DG Df
     refine⟨g2,a2,JZ,fun cs=> .head (mj ho fj k1) (r1 cs),r2.trans put_defers,r3,?_,(aP.me k4 _).trans r5,fun i c q=>r6 i c (k4.aN i c q).1⟩
     have L9:bO g dZ.mem w g' dZ.mem w':=by rw[←hI.mem];exact k5
     exact L9.trans r4
   · have fj:Region.wanted o (yielded ops a.tmps)=false:=by
      rcases hw with hw | ⟨d,b',want,hw,hb⟩
      · exact w2 (Ao.trans hw)
      · rw[(w3 d b' want (Ao.trans hw)).1];exact hb
     have hs':=hs.put (v:= .aO []) (cv:=undef) JB (VA.fY.2 trivial) (Ext.refl g w) hs.rel hs.fix
     obtain⟨g2,a2,JZ,r1,r2,r3,r4,r5,r6⟩:=ih (t / (Region.ready .any ops S).length) _ _ _ _ _ _ JA hs' DG Df
     refine⟨g2,a2,JZ,fun cs=> .head ?_ (r1 cs),r2.trans put_defers,r3,r4,r5,r6⟩
     have hst:=stepR_op_skip (P:=P) (b:=b) (a:=a) (k:=k) (cs:=cs) (w:=w) (ops:=ops) (i:=i) (rest:=Region.linearise.go .any ops fuel (t / (Region.ready .any ops S).length) (S.setIfInBounds i true) []) (by simp[ho,fj])
     simpa only[ho,Option.bind_some] using hst
theorem bn.drew {g:Gh} {w:World} {st:St} {a:Act} (h:bn E g st a w) (n:Nat):bn E g st a {w with drawn:=n}:=by
 have he:Ext g w g {w with drawn:=n}:=⟨fun _ _ e=>⟨e,rfl,rfl⟩,fun _ _ e=>⟨e,rfl⟩⟩
 refine⟨fun k=>(h.tm k).mono he,h.nt,(h.rel.gY (w':={w with drawn:=n}) rfl rfl rfl rfl).1,h.fix,h.ct.mono he.pure⟩
theorem DH {g:Gh} {w:World} {b:Frame} {a:Act} {k:List Item} {ops:Array Oper} {f aU:Nat} {st st':St} (hs:bn E g st a w) (h:pe P E f aU ops st=some (st',true)) :
  ∃g' a' w',(∀cs,Steps P (lone (b.atR a (.code (.region aU ops true)::k)) cs w) (lone (b.atR a' k) cs w'))∧a'.defers=a.defers∧bn E g' st' a' w' ∧
   bO g st.mem w g' st'.mem w'∧aP g g' st.fix∧st'.fix=st.fix ∧ ∀i c,g.aN i=some c→g'.aN i=some c:=by
 unfold pe at h
 dsimp only at h
 split at h
 · rename_i DD ok hq
   cases BO:(ops.toList.all dW&&Bj E f ops) with
   |false=>rw[BO] at hq;cases hq
   |true=>
   rw[BO] at hq
   simp only[cond_true] at hq
   have hall:ops.toList.all dW=true:=(Bool.and_eq_true _ _▸BO).1
   simp only[Option.some.injEq,Prod.mk.injEq,Bool.and_eq_true] at h
   obtain⟨rfl,rfl,BP,Fw⟩:=h
   obtain⟨vs,hrun⟩:=jE hq
   obtain⟨hO,hQ⟩:=ot.of BP
   obtain⟨Fx,Ht⟩:=hs.rel.reserve
   have hs1:bn E g {st with mem:=st.mem++[.free]} a w:=⟨hs.tm,hs.nt,Fx,by simp;have:=hs.fix;omega,hs.ct⟩
   have hgd : ∀j,(Array.replicate ops.size false).getD j false=false:=by
    intro j
    rw[Array.getD_eq_getD_getElem?,Array.getElem?_replicate]
    split<;>rfl
   have hI:iU ops (masks [] ops.toList) vs {st with mem:=st.mem++[.free]} {st with mem:=st.mem++[.free]} (Array.replicate ops.size false):=
    ⟨by simp,rfl,rfl,rfl,fun j _ _ _ hj=>(by rw[hgd] at hj;cases hj),fun _ _=>rfl,fun i _ hi=>(by rw[hgd] at hi;cases hi)⟩
   have Hr:=hs1.drew (w.drawn+1)
   obtain⟨g',a',w',r1,r2,r3,r4,r5,r6⟩:=An (P:=P) (E:=E) (b:=b) (k:=k) hO hQ (by simp) hrun ops.size (w.tape w.drawn (.order b.fn aU)) _ _ a g _ (List.range ops.size) hI Hr (by simp) (fun i hi _=>List.mem_range.2 hi)
   have hend:=(hrun.spec hO.uniq).2.1
   refine⟨g',a',w',fun cs=> ?_,r2,r3,?_,r5,hend.2.2.1,r6⟩
   · refine .head stepR_region_draw ?_
     have BQ:Region.schedule (P.follows .mixedOrders) ops (w.tape w.drawn (.order b.fn aU))=Region.linearise.go .any ops ops.size (w.tape w.drawn (.order b.fn aU)) (Array.replicate ops.size false) []:=by
      simp only[Region.schedule,Fw,if_true,Region.linearise]
     rw[BQ]
     exact(r1 cs).trans (.one stepR_region_end)
   · rw[hend.1]
     have hst:bO g (st.mem++[.free]) w g (st.mem++[.free]) {w with drawn:=w.drawn+1}:=⟨Nat.le_refl _,fun _ _ _=>rfl,fun _ _ h=>⟨h,rfl⟩,fun _ _ h=> .inl h,fun _ h=> .inl h,rfl,rfl,rfl⟩
     exact(Ht.trans hst).trans r4
 · cases h
end
end Go.Am
end
section
namespace Go.Am
open Go.RowKit
section
variable {P:Program} {E:Env}
theorem kH {rd rd':Nat→av} {a:AV} (h : ∀b∈refs a,rd b=rd' b) (n:Nat):ij rd a n=ij rd' a n:=by
 cases a with
 |mp b off=>simp only[ij,h b (by simp[refs])]
 |p v=>cases v<;>rfl
 |_=>rfl
theorem dw {rd rd':Nat→av} {a:AV} (h : ∀b∈refs a,rd b=rd' b) (sz:Nat):contents rd sz a=contents rd' sz a:=by
 cases a with
 |ms b off len s c=>
  cases c with
  |none=>simp only[contents,h b (by simp[refs])]
  |some c=>simp only[contents,h b (by simp[refs])]
 |p v=>
  cases v with
  |sc v=>cases v<;>rfl
  |_=>rfl
 |_=>rfl
theorem ou {rd rd':Nat→av} {a:AV} (h : ∀b∈refs a,rd b=rd' b) (sz:Nat):dD rd sz a=dD rd' sz a:=by
 have hc:=dw h sz
 unfold dD
 rw[hc]
 cases contents rd' sz a with
 |some r=>rfl
 |none=>
  cases a with
  |ms b off len s c=>
   cases c with
   |none=>rfl
   |some c=>simp only[h b (by simp[refs])]
  |_=>rfl
theorem lp {rd rd':Nat→av} {x n:AV} (h : ∀b∈refs x,rd b=rd' b) {ts:List TypeId}:cI P rd ts x n=cI P rd' ts x n:=by
 have hg:Bf rd x=Bf rd' x:=by
  cases x with
  |mp b off=>cases off with
   |zero=>simp only[Bf,h b (by simp[refs])]
   |succ _=>rfl
  |_=>rfl
 unfold cI
 simp only[hg]
theorem rX {rd rd':Nat→av} {a:AV} (h : ∀b∈refs a,rd b=rd' b) {aF:Nat} {ρ:Operand→AV} {o:Oper} {s d:TypeId}:convertOp P rd aF ρ o s d a=convertOp P rd' aF ρ o s d a:=by
 have hc:=fun sz=>dw (a:=a) h sz
 unfold convertOp
 split<;>first
  |rfl
  |(rename_i b off len sz cap hd;have hb:=h b (by simp[refs]);simp only[hb];done)
  |(rename_i b off hd;have hb:=h b (by simp[refs]);simp only[hb];done)
  |(rename_i u b hd;have hb:=h b (by simp[refs]);simp only[hb];done)
  |simp only[hc]
theorem append_congr {rd rd':Nat→av} {s x:AV} (h : ∀b∈refs s++refs x,rd b=rd' b) {aF:Nat} {ts:Array TypeId}:fm P rd aF ts s x=fm P rd' aF ts s x:=by
 have hc:=fun sz=>dw (a:=x) (fun b hb=>h b (List.mem_append_right _ hb)) sz
 have ht : ∀tok len sz cs,s = .os tok len sz cs→jY rd aF tok=jY rd' aF tok:=by
  rintro tok len sz cs rfl
  cases tok with
  |none=>rfl
  |some t=>simp only[jY,h t (by simp[refs])]
 unfold fm
 simp only[hc]
 repeat' first | rfl | split
 all_goals first
  |rfl
  |(rw[ht _ _ _ _ rfl])
  |simp_all
theorem qj {rd rd':Nat→av} {s x:AV} (h : ∀b∈refs s++refs x,rd b=rd' b) {aF:Nat} {ts:Array TypeId}:dh P rd aF ts s x=dh P rd' aF ts s x:=by
 have hc:=fun sz=>ou (a:=x) (fun b hb=>h b (List.mem_append_right _ hb)) sz
 have hp : ∀sz,gC rd sz x=gC rd' sz x:=fun sz=>by unfold gC;rw[dw (a:=x) (fun b hb=>h b (List.mem_append_right _ hb)) sz]
 cases s with
 |ms b off len sz cap=>
  have hb:=h b (by simp[refs])
  unfold dh
  simp only[hc,hp]
  cases off with
  |zero=>cases cap<;>simp only[hb]
  |succ off=>rfl
 |os tok len sz cells=>
  cases tok with
  |none=>
   unfold dh
   simp only[hc,hp]
  |some t=>
   unfold dh
   simp only[hc]
 |_=>
  unfold dh
  simp only[hc]
theorem m4 {rd rd':Nat→av} {wr:Bool} {s x:AV} (h : ∀b∈refs s++refs x,rd b=rd' b) {aF:Nat} {ts:Array TypeId} :
  (match E3 s||wr with | true=>dh P rd aF ts (jc s) x | false=>fm P rd aF ts (jc s) x)=(match E3 s||wr with | true=>dh P rd' aF ts (jc s) x | false=>fm P rd' aF ts (jc s) x):=by
 have hs : ∀b∈refs (jc s),b∈refs s:=by
  intro b hb
  unfold jc at hb
  split at hb
  · simp[refs] at hb
  · exact hb
 have h' : ∀b∈refs (jc s)++refs x,rd b=rd' b:=fun b hb=>h b ((List.mem_append.1 hb).elim (fun q=>List.mem_append_left _ (hs b q)) fun q=>List.mem_append_right _ q)
 rw[qj h',append_congr h']
theorem x9 {rd rd':Nat→av} {d s:AV} (h : ∀b∈refs d++refs s,rd b=rd' b) {ts:Array TypeId}:mP P rd ts d s=mP P rd' ts d s:=by
 have hc:=fun sz=>dw (a:=s) (fun b hb=>h b (List.mem_append_right _ hb)) sz
 have ht : ∀b off len sz cap,d = .ms b off len sz cap→rd b=rd' b:=by
  rintro b off len sz cap rfl
  exact h b (by simp[refs])
 unfold mP
 simp only[hc]
 repeat' first | rfl | split
 all_goals first
  |rfl
  |(rename_i h1 h2;rw[ht _ _ _ _ _ rfl] at h1;simp_all)
  |(rename_i h1;rw[ht _ _ _ _ _ rfl] at h1;simp_all)
  |simp_all
theorem uP {rd rd':Nat→av} {x:AV} (h : ∀b∈refs x,rd b=rd' b) {t:TypeId} {k:AV} {ok:Bool}:gV P rd t x k ok=gV P rd' t x k ok:=by
 have hm:mapOf rd x=mapOf rd' x:=by
  cases x with
  |vm b=>simp only[mapOf,h b (by simp[refs])]
  |p v=>
   cases v with
   |sc v=>
    cases v with
    |map r=>cases r<;>rfl
    |_=>rfl
   |_=>rfl
  |_=>rfl
 have hu:mQ rd x=mQ rd' x:=by
  cases x with
  |vm b=>simp only[mQ,h b (by simp[refs])]
  |_=>rfl
 unfold gV oF
 simp only[hm,hu]
theorem iP {rd rd':Nat→av} {x:AV} (h : ∀b∈refs x,rd b=rd' b) {t:TypeId} {k v:AV}:dj P rd t x k v=dj P rd' t x k v:=by
 cases x with
 |vm b=>
  have hb:=h b (by simp[refs])
  cases k with
  |p u=>
   cases u with
   |sc u=>simp only[dj,hb]
   |_=>rfl
  |agg l=>
   show eP P rd t (.vm b) (.agg l) v=eP P rd' t (.vm b) (.agg l) v
   unfold eP
   generalize xF (AV.agg l)=kk
   generalize P.underlying t=tt
   cases kk with
   |none=>rfl
   |some key=>
    cases tt with
    |none=>rfl
    |some d=>cases d<;>first
     |rfl
     |simp only[hb]
  |_=>rfl
 |_=>cases k<;>rfl
theorem DI {rd rd':Nat→av} {wr:Bool} {aF:Nat} {ρ ρ':Operand→AV} {o:Oper} (hq:sC o=true) (h : ∀x∈o.op.operands,ρ x=ρ' x) (hrd : ∀b∈Ab ρ o,rd b=rd' b):nH P rd wr aF ρ o=nH P rd' wr aF ρ' o:=by
 have h1:nH P rd wr aF ρ o=nH P rd' wr aF ρ o:=by
  obtain⟨dst,op,type,pos,after,guard⟩:=o
  cases op<;>try rfl
  case load t a=>simp only[nH,gN,kH (a:=ρ a) hrd]
  case store t a v=>
   simp only[nH,lK]
   have hrd : ∀b∈refs (ρ a),rd b=rd' b:=hrd
   generalize ρ a=x at hrd ⊢
   cases x with
   |mp b off=>
    cases dg P t with
    |none=>rfl
    |some n=>simp only[hrd b (by simp[refs])]
   |_=>rfl
  case convert s d x=>exact rX hrd
  case lookup t x i ok=>exact congrArg fS (uP hrd)
  case mapUpdate t x k v=>exact iP hrd
  case insert t x k v=>exact iP hrd
  case next=>simp[sC,dW] at hq
  case call c=>
   obtain⟨callee,args,tys⟩:=c
   cases callee with
   |value _=>rfl
   |invoke _ _=>rfl
   |builtin b=>cases b<;>first
    |rfl
    |(obtain⟨args⟩:=args;rcases args with _ | ⟨x,_ | ⟨y,r⟩⟩<;>rfl)
    |(obtain⟨args⟩:=args;rcases args with _ | ⟨x,_ | ⟨y,_ | ⟨z,r⟩⟩⟩<;>first | rfl | exact m4 fun b hb=>hrd b (by simpa[Ab,eM] using hb) | exact x9 fun b hb=>hrd b (by simpa[Ab,eM] using hb) | exact lp fun b hb=>hrd b (by simp[Ab,eM,hb]))
    |simp[sC,dW] at hq
  case makeMap t r=>cases r<;>rfl
 rw[h1]
 cases Lr:dW o with
 |true=>exact sV Lr h
 |false=>
  simp only[sC,Lr,Bool.false_or] at hq
  obtain⟨dst,op,type,pos,after,guard⟩:=o
  cases op<;>simp only[Bool.false_eq_true] at hq<;>simp only[Op.operands] at h<;>simp only[nH]
  case box t v=>rw[h v (by simp)]
  case buildSlice t n ps=>
   have:ps.toList.map (fun q=>(q.1,ρ q.2))=ps.toList.map fun q=>(q.1,ρ' q.2):=
    List.map_congr_left fun q hq=>by rw[h q.2 (by simp only[List.mem_toArray,List.mem_map];exact⟨q,hq,rfl⟩)]
   rw[this]
  case makeSlice t l c=>rw[h l (by simp),h c (by simp)]
  case store t a v=>rw[h a (by simp),h v (by simp)]
  case makeMap t r=>cases r<;>rfl
  case lookup t x i ok=>rw[h x (by simp),h i (by simp)]
  case mapUpdate t x k v=>rw[h x (by simp),h k (by simp),h v (by simp)]
  case insert t x k v=>rw[h x (by simp),h k (by simp),h v (by simp)]
  case call c=>
   obtain⟨callee,args,tys⟩:=c
   cases callee with
   |value _=>simp at hq
   |invoke _ _=>simp at hq
   |builtin b=>
    simp only[Call.operands] at h
    obtain⟨args⟩:=args
    cases b<;>simp only[Bool.false_eq_true] at hq
    all_goals
     rcases args with _ | ⟨x,_ | ⟨y,_ | ⟨z,r⟩⟩⟩<;>first | rfl | simp only[h x (by simp),h y (by simp)] | simp only[h x (by simp)]
theorem uQ {ρ ρ':Operand→AV} {o:Oper} (h : ∀x∈o.op.operands,ρ x=ρ' x):target ρ o=target ρ' o:=by
 obtain⟨dst,op,type,pos,after,guard⟩:=o
 cases op<;>try rfl
 case call c=>
  obtain⟨callee,args,tys⟩:=c
  cases callee with
  |value f=>
   simp only[Op.operands,Call.operands] at h
   have h1:ρ f=ρ' f:=h f (by simp)
   have h2:args.toList.map ρ=args.toList.map ρ':=List.map_congr_left fun x hx=>h x (by simp_all)
   simp only[target,h1,h2]
  |_=>rfl
theorem eV : ∀(us:iX) (m:Mem) (b:Nat),b∉us.map (·.1)→(apply m us)[b]? = m[b]?
 |[],_,_,_=>rfl
 |(i,x)::us,m,b,h=>by
  simp only[List.map_cons,List.mem_cons,not_or] at h
  simp only[apply]
  rw[eV us _ b h.2,List.getElem?_set_ne (fun e=>h.1 e.symm)]
theorem wz : ∀(us:iX) (m m':Mem) (b:Nat),m.length=m'.length→b∈us.map (·.1)→(apply m us)[b]? = (apply m' us)[b]?
 |(i,x)::us,m,m',b,hl,h=>by
  simp only[apply]
  by_cases hb:b∈us.map (·.1)
  · exact wz us _ _ b (by simp[hl]) hb
  · rw[eV us _ b hb,eV us _ b hb]
    simp only[List.map_cons,List.mem_cons] at h
    have:b=i:=h.resolve_right hb
    subst this
    simp only[List.getElem?_set,hl,if_true]
abbrev eu.w (d:eu):List Nat:=d.us.map (·.1)
structure gj (ds:List eu) (base:Mem) (S:Nat→Prop) (M:Mem):Prop where
 len:M.length=base.length
 out : ∀b,(∀j d,S j→ds[j]? = some d→b∉d.w)→M[b]? = base[b]?
 last : ∀j d b,S j→ds[j]? = some d→b∈d.w→(∀k e,S k→j<k→ds[k]? = some e→b∉e.w)→M[b]? = (apply base d.us)[b]?
theorem gj.nil {ds:List eu} {base:Mem} {S:Nat→Prop} (h : ∀j,¬S j):gj ds base S base:=⟨rfl,fun _ _=>rfl,fun j _ _ hj=>absurd hj (h j)⟩
theorem gj.step {ds:List eu} {base M:Mem} {S S':Nat→Prop} {i:Nat} {d:eu} (h:gj ds base S M) (hd:ds[i]? = some d) (hS : ∀j,S' j↔S j∨j=i) (hi : ¬S i)
  (J0 : ∀j e,S j→i<j→ds[j]? = some e → ∀b∈d.w,b∉e.w):gj ds base S' (apply M d.us):=by
 refine⟨by rw[cB];exact h.len,fun b hb=> ?_,fun j e b hj he rC hl=> ?_⟩
 · rw[eV _ _ _ (hb i d ((hS i).2 (.inr rfl)) hd)]
   exact h.out b fun j e hj he=>hb j e ((hS j).2 (.inl hj)) he
 · rcases(hS j).1 hj with hj' | rfl
   · have hbd:b∉d.w:=by
      intro q
      rcases Nat.lt_trichotomy j i with hlt | heq | hgt
      · exact hl i d ((hS i).2 (.inr rfl)) hlt hd q
      · subst heq;exact hi hj'
      · exact J0 j e hj' hgt he b q rC
     rw[eV _ _ _ hbd]
     exact h.last j e b hj' he rC fun k x hk Dh hx=>hl k x ((hS k).2 (.inl hk)) Dh hx
   · rw[hd] at he;cases he
     exact wz _ _ _ _ h.len rC
theorem zl {p:Nat→Prop} {n:Nat} (hb : ∀k,p k→k<n) : ∀(r j:Nat),n-j=r→p j → ∃j,p j ∧ ∀k,p k → ¬j<k:=by
 intro r
 induction r using Nat.strongRecOn with
 |ind r ih=>
  intro j hr hj
  by_cases h : ∃k,p k∧j<k
  · obtain⟨k,hk,Dh⟩:=h
    have:=hb k hk
    exact ih (n-k) (by omega) k rfl hk
  · exact⟨j,hj,fun k hk Dh=>h ⟨k,hk,Dh⟩⟩
theorem gj.agree {ds:List eu} {base M M':Mem} {S T:Nat→Prop} (h:gj ds base S M) (h':gj ds base T M') {b:Nat} (J1 : ∀j d,ds[j]? = some d→b∈d.w→(S j↔T j)):M[b]? = M'[b]? :=by
 by_cases hw : ∃j d,S j∧ds[j]? = some d∧b∈d.w
 · obtain⟨j0,d0,q1,q2,q3⟩:=hw
   obtain⟨j,⟨hj,d,hd,hbd⟩,hl⟩:=zl (p:=fun j=>S j ∧ ∃d,ds[j]? = some d∧b∈d.w) (n:=ds.length) (fun k ⟨_,d,hd,_⟩=>(List.getElem?_eq_some_iff.1 hd).1) _ j0 rfl ⟨q1,d0,q2,q3⟩
   rw[h.last j d b hj hd hbd fun k e hk Dh he rC=>hl k ⟨hk,e,he,rC⟩ Dh,
    h'.last j d b ((J1 j d hd hbd).1 hj) hd hbd fun k e hk Dh he rC=>hl k ⟨(J1 k e he rC).2 hk,e,he,rC⟩ Dh]
 · rw[h.out b fun j d hj hd hbd=>hw ⟨j,d,hj,hd,hbd⟩,h'.out b fun j d hj hd hbd=>hw ⟨j,d,(J1 j d hd hbd).2 hj,hd,hbd⟩]
def iQ (m:Mem):List eu→Mem
 |[]=>m
 |d::r=>iQ (apply m d.us) r
theorem mu (m:Mem) : ∀(ds es:List eu),iQ m (ds++es)=iQ (iQ m ds) es
 |[],_=>rfl
 |d::ds,es=>mu (apply m d.us) ds es
theorem qk (ds:List eu) (base:Mem) : ∀i,i≤ds.length→gj ds base (· < i) (iQ base (ds.take i))
 |0,_=>gj.nil fun _ h=>absurd h (Nat.not_lt_zero _)
 |i+1,h=>by
  have hi:i<ds.length:=h
  rw[List.take_succ_eq_append_getElem hi,mu]
  exact(qk ds base i (by omega)).step (d:=ds[i]) (List.getElem?_eq_getElem hi) (fun j=>by omega) (by omega) fun j e hj hij=>absurd hj (by omega)
def hJ (nx:Nat) (m:Mem):Prop:= ∀i,nx≤i→i<m.length→m[i]? = some .free
def JC (P:Program) (E:Env) (wr:Oper→Bool) (st:St) (nx:Nat) (o:Oper) (d:eu) (fW:Nat):Prop:=
 (∃g args v m1,target (ev E st.tm) o=some (g,args)∧aB P E g (cO (idx (close st.mem 0 args)) args) (pack st.mem (close st.mem 0 args)) v m1∧(close st.mem 0 args).length≤m1.length ∧
   (∀i∈close st.mem 0 args,i<nx)∧fW=nx+(m1.length-(close st.mem 0 args).length)∧fW≤st.mem.length∧d=j3 st.mem.length nx (close st.mem 0 args) v m1) ∨
 (target (ev E st.tm) o=none∧sC o=true∧nH P (fun i=>st.mem.getD i .dead) (wr o) nx (ev E st.tm) o=some (d.v,d.us,true)∧d.fp=d.w++(Ab (ev E st.tm) o++cond (makes o) [nx] []) ∧
   (∀b∈d.w,b<fW)∧fW=cond (makes o) (nx+1) nx∧fW≤st.mem.length∧d.ld=E5 P (ev E st.tm) o d.v)
def wA (P:Program) (E:Env) (wr:Oper→Bool) (ops:Array Oper) (st:St) (nx:Nat) (o:Oper) (d:eu) (fW:Nat):Prop:=
 ((cw ops st.tm o = .yes ∨ ∃s b want,cw ops st.tm o = .ask s b want∧(b==want)=true)∧JC P E wr st nx o d fW) ∨
 ((cw ops st.tm o = .no ∨ ∃s b want,cw ops st.tm o = .ask s b want∧(b==want)=false)∧d=⟨.aO [],[],[],fun _ _=>false⟩∧fW=nx)
inductive rY (P:Program) (E:Env) (wr:Oper→Bool) (ops:Array Oper):List Oper→St→Nat→List eu→St→Nat→Prop
 |nil (st:St) (nx:Nat):rY P E wr ops [] st nx [] st nx
 |cons (o:Oper) (r:List Oper) (st:St) (nx:Nat) (d:eu) (fW:Nat) (ds:List eu) (st':St) (kD:Nat) (hf:fits st o.dst=true) (h:wA P E wr ops st nx o d fW)
   (hr:rY P E wr ops r (put {st with mem:=apply st.mem d.us} o.dst d.v) fW ds st' kD):rY P E wr ops (o::r) st nx (d::ds) st' kD
theorem ya {t:Option AV} {r:Option (eu×Nat×Bool)} {d:eu} {nx:Nat} (h:yY t r=some (d,nx,true)):r=some (d,nx,true):=by
 unfold yY at h
 split at h
 · exact h
 · split at h
   · rename_i v d0 n0 ok
     simp only[Option.some.injEq,Prod.mk.injEq,Bool.and_eq_true] at h
     obtain⟨rfl,rfl,h1,h2⟩:=h
     have e:=gF h2
     subst h1
     obtain⟨v0,us,fp,ld⟩:=d0
     simp only at e
     subst e
     rfl
   · cases h
theorem Ap {f aU:Nat} {O:FuncId→List AV→Mem→Option (AV×Mem)} (hO : ∀g args m v m1,O g args m=some (v,m1)→aB P E g args m v m1) {nx fW:Nat} {o:Oper} {st:St} {d:eu}
  (h:fI P E f aU O nx o st=some (d,fW,true)):JC P E (fun o=>E.wr f (o.dst.getD 0)) st nx o d fW:=by
 have h:=ya h
 unfold j4 at h
 split at h
 · rename_i g args ht
   dsimp only at h
   split at h
   · rename_i v m1 ho
     simp only[Option.some.injEq,Prod.mk.injEq,Bool.and_eq_true] at h
     obtain⟨rfl,rfl,h1,h2,h3⟩:=h
     exact .inl ⟨g,args,v,m1,ht,hO _ _ _ _ _ ho,Nat.le_of_ble_eq_true h1,dG h2,rfl,Nat.le_of_ble_eq_true h3,rfl⟩
   · cases h
 · rename_i ht
   split at h
   · rename_i v us ok hop
     simp only[Option.some.injEq,Prod.mk.injEq,Bool.and_eq_true] at h
     obtain⟨rfl,rfl,rfl,h1,h2,h3⟩:=h
     exact .inr ⟨ht,h1,hop,rfl,dG h2,rfl,Nat.le_of_ble_eq_true h3,rfl⟩
   · cases h
theorem m5 {f aU:Nat} {O:FuncId→List AV→Mem→Option (AV×Mem)} (hO : ∀g args m v m1,O g args m=some (v,m1)→aB P E g args m v m1) {ops:Array Oper} : ∀{l:List Oper} {nx kD:Nat} {st st':St} {ds:List eu},
  eN P E f aU O ops l nx st=some (st',kD,ds,true)→rY P E (fun o=>E.wr f (o.dst.getD 0)) ops l st nx ds st' kD
 |[],nx,kD,st,st',ds,h=>by
  simp only[eN,Option.some.injEq,Prod.mk.injEq,and_true] at h
  obtain⟨rfl,rfl,rfl⟩:=h
  exact .nil st nx
 |o::r,nx,kD,st,st',ds,h=>by
  have skip:(match eN P E f aU O ops r nx (put st o.dst (.aO [])) with
   |some (st',kD,ds,ok)=>some (st',kD,(⟨.aO [],[],[],fun _ _=>false⟩:eu)::ds,fits st o.dst&&ok)
   |none=>none)=some (st',kD,ds,true)→(cw ops st.tm o = .no ∨ ∃s b want,cw ops st.tm o = .ask s b want∧(b==want)=false)→rY P E (fun o=>E.wr f (o.dst.getD 0)) ops (o::r) st nx ds st' kD:=by
   intro h hw
   split at h
   · rename_i DD fW Ls ok hq
     simp only[Option.some.injEq,Prod.mk.injEq,Bool.and_eq_true] at h
     obtain⟨rfl,rfl,rfl,h1,rfl⟩:=h
     exact .cons o r st nx _ nx _ _ _ h1 (.inr ⟨hw,rfl,rfl⟩) (m5 hO hq)
   · cases h
  have lQ:(match fI P E f aU O nx o st with
   |some (d,fW,ok)=>match eN P E f aU O ops r fW (put {st with mem:=apply st.mem d.us} o.dst d.v) with
    |some (st',kD,ds,ok')=>some (st',kD,d::ds,ok&&(fits st o.dst&&ok'))
    |none=>none
   |none=>none)=some (st',kD,ds,true)→(cw ops st.tm o = .yes ∨ ∃s b want,cw ops st.tm o = .ask s b want∧(b==want)=true)→rY P E (fun o=>E.wr f (o.dst.getD 0)) ops (o::r) st nx ds st' kD:=by
   intro h hw
   split at h
   · rename_i d fW ok hop
     split at h
     · rename_i DD Na Ls ok' hq
       simp only[Option.some.injEq,Prod.mk.injEq,Bool.and_eq_true] at h
       obtain⟨rfl,rfl,rfl,rfl,h1,rfl⟩:=h
       exact .cons o r st nx d fW _ _ _ h1 (.inl ⟨hw,Ap hO hop⟩) (m5 hO hq)
     · cases h
   · cases h
  unfold eN at h
  dsimp only at h
  cases hw:cw ops st.tm o with
  |yes=>rw[hw] at h;exact lQ h (.inl hw)
  |no=>rw[hw] at h;exact skip h (.inl hw)
  |lost=>rw[hw] at h;cases h
  |ask s b want=>
   rw[hw] at h
   dsimp only at h
   cases hb:b==want with
   |true=>rw[hb] at h;exact lQ h (.inr ⟨s,b,want,hw,hb⟩)
   |false=>rw[hb] at h;exact skip h (.inr ⟨s,b,want,hw,hb⟩)
theorem sW {N nx:Nat} {ord:List Nat} {v:AV} {m1:Mem} {b:Nat} (h:b∈(j3 N nx ord v m1).w):b∈(j3 N nx ord v m1).fp:=by
 simp only[j3,eu.w,List.mem_map] at h ⊢
 obtain⟨q,hq,rfl⟩:=h
 exact(List.of_mem_zip hq).1
theorem JC.facts {wr:Oper→Bool} {st:St} {nx fW:Nat} {o:Oper} {d:eu} (h:JC P E wr st nx o d fW):nx≤fW∧fW≤st.mem.length∧(∀b∈d.w,b<fW) ∧ ∀b∈d.w,b∈d.fp:=by
 rcases h with⟨g,args,v,m1,_,_,h1,h2,rfl,h3,rfl⟩ | ⟨_,_,_,h1,h2,rfl,h3,_⟩
 · refine⟨by omega,h3,fun b hb=> ?_,fun b hb=>sW hb⟩
   have:=sW hb
   simp only[j3,List.mem_append,List.mem_range'_1] at this
   rcases this with q | q
   · have:=h2 b q;omega
   · omega
 · refine⟨by cases makes o<;>simp,h3,h2,fun b hb=> ?_⟩
   rw[h1]
   exact List.mem_append_left _ hb
theorem wA.facts {wr:Oper→Bool} {ops:Array Oper} {st:St} {nx fW:Nat} {o:Oper} {d:eu} (h:wA P E wr ops st nx o d fW) (hn:nx≤st.mem.length):nx≤fW∧fW≤st.mem.length∧(∀b∈d.w,b<fW) ∧ ∀b∈d.w,b∈d.fp:=by
 rcases h with⟨_,h⟩ | ⟨_,rfl,rfl⟩
 · exact h.facts
 · exact⟨Nat.le_refl _,hn,by simp,by simp⟩
theorem bT.HS {l:List Oper} {vs:List AV} {S S' T T':St} {i:Nat} (h:bT l vs S i T) (h1:S'.tm=S.tm) (h2:S'.nt=S.nt) (h3:S'.fix=S.fix) (h4:T'.tm=T.tm) (h5:T'.nt=T.nt) (h6:T'.fix=T.fix) (h7:T'.mem=S'.mem):bT l vs S' i T':=by
 obtain⟨_,q2,q3,q4,q5⟩:=h
 refine⟨h7,by rw[h5,h2];exact q2,by rw[h6,h3];exact q3,?_,?_⟩
 · intro j p v t a b c d;rw[h4];exact q4 j p v t a b c d
 · intro t ht;rw[h4,h1];exact q5 t ht
theorem nV (st:St) (m:Mem) (dst:Option Tmp) (v:AV):put {st with mem:=m} dst v={put st dst v with mem:=m}:=by cases dst<;>rfl
theorem rY.spec {wr:Oper→Bool} {ops:Array Oper} {l:List Oper} {st st':St} {nx kD:Nat} {ds:List eu} (h:rY P E wr ops l st nx ds st' kD) (hu:wq l) (hn:nx≤st.mem.length) (hfr:hJ nx st.mem) :
  ds.length=l.length∧bT l (ds.map (·.v)) st l.length {st' with mem:=st.mem}∧st'.mem=iQ st.mem ds∧st'.bq=st.bq ∧
    ∀(i:Nat) (o:Oper),l[i]? = some o → ∃d ff ql wB,ds[i]? = some d∧wA P E wr ops ff ql o d wB∧fits ff o.dst=true∧bT l (ds.map (·.v)) st i {ff with mem:=st.mem}∧ff.mem=iQ st.mem (ds.take i)∧hJ ql ff.mem∧ql≤ff.mem.length:=by
 induction h with
 |nil st nx=>exact⟨rfl,⟨rfl,rfl,rfl,fun j _ _ _ hj=>absurd hj (Nat.not_lt_zero _),fun _ _=>rfl⟩,rfl,rfl,fun i o ho=>by simp at ho⟩
 |cons o r st nx d fW ds st' kD hf hk hr ih=>
  have Df:wq r:=fun i j p q t hij hp hq=>hu (i+1) (j+1) p q t (by omega) (by simpa using hp) (by simpa using hq)
  obtain⟨f1,f2,f3,f4⟩:=hk.facts hn
  have hm:(put {st with mem:=apply st.mem d.us} o.dst d.v).mem=apply st.mem d.us:=by rw[nV]
  have J2:hJ fW (apply st.mem d.us):=by
   intro i hi hl
   rw[cB] at hl
   rw[eV _ _ _ fun q=>by have:=f3 i q;omega]
   exact hfr i (by omega) hl
  obtain⟨h1,h2,h3,h5,h4⟩:=ih Df (by rw[hm,cB];exact f2) (by rw[hm];exact J2)
  have shift : ∀{i:Nat} {T:St},bT r (ds.map (·.v)) (put {st with mem:=apply st.mem d.us} o.dst d.v) i {T with mem:=(put {st with mem:=apply st.mem d.us} o.dst d.v).mem} →
    bT (o::r) ((d::ds).map (·.v)) st (i+1) {T with mem:=st.mem}:=by
   intro i T hs
   refine bT.cons (vs:=ds.map (·.v)) (v:=d.v) hu (hs.HS (S':=put st o.dst d.v) (T':={T with mem:=st.mem}) ?_ ?_ ?_ rfl rfl rfl ?_)
   · cases o.dst<;>rfl
   · cases o.dst<;>rfl
   · cases o.dst<;>rfl
   · exact(uN st o.dst d.v).1.symm
  refine⟨by simp[h1],shift h2,by rw[h3,hm];rfl,h5.trans (by cases o.dst<;>rfl),?_⟩
  intro i p hp
  cases i with
  |zero=>
   simp only[List.getElem?_cons_zero,Option.some.injEq] at hp
   subst hp
   exact⟨d,st,nx,fW,rfl,hk,hf,⟨rfl,rfl,rfl,fun j _ _ _ hj=>absurd hj (Nat.not_lt_zero _),fun _ _=>rfl⟩,rfl,hfr,hn⟩
  |succ i=>
   obtain⟨e,ff,ql,wB,q1,q2,q3,q4,q5,q6,q7⟩:=h4 i p (by simpa using hp)
   refine⟨e,ff,ql,wB,by simpa using q1,q2,q3,shift q4,?_,q6,q7⟩
   rw[q5,hm];rfl
def DJ (d e:eu):Prop:=e.us=[] ∧ ∀b∈d.w,b∈e.fp → ∃x,pg d.us b=some x∧e.ld b x=true
theorem qm : ∀{l:List Nat} {i:Nat},i∈l→has l i=true
 |j::r,i,h=>by
  simp only[has]
  cases hb:Nat.beq j i with
  |true=>rfl
  |false=>
   rcases List.mem_cons.1 h with e | h
   · subst e;rw[Nat.beq_refl] at hb;cases hb
   · exact qm h
theorem yc {d e:eu} (h:uh d e=true):DJ d e:=by
 simp only[uh,Bool.and_eq_true,List.all_eq_true] at h
 refine⟨?_,fun b hb hf=> ?_⟩
 · have h1:=h.1
   cases hu:e.us with
   |nil=>rfl
   |cons _ _=>rw[hu] at h1;cases h1
 · have:=h.2 b hb
   rw[qm hf,Bool.not_true,Bool.false_or] at this
   split at this
   · rename_i x hx
     exact⟨x,hx,this⟩
   · cases this
theorem qn : ∀{us:iX} {b:Nat},pg us b=none→b∉us.map (·.1)
 |[],_,_=>by simp
 |(i,x)::r,b,h=>by
  simp only[pg] at h
  split at h
  · cases h
  · rename_i hr
    cases hb:Nat.beq i b with
    |true=>rw[hb] at h;cases h
    |false=>
     simp only[List.map_cons,List.mem_cons,not_or]
     exact⟨fun e=>(by subst e;rw[Nat.beq_refl] at hb;cases hb),qn hr⟩
theorem qo : ∀{us:iX} {m:Mem} {b:Nat} {x:av},pg us b=some x→b<m.length→(apply m us)[b]? = some x
 |(i,y)::r,m,b,x,h,hb=>by
  simp only[pg] at h
  simp only[apply]
  split at h
  · rename_i z hz
    simp only[Option.some.injEq] at h
    subst h
    exact qo hz (by simpa using hb)
  · rename_i hr
    cases hib:Nat.beq i b with
    |false=>rw[hib] at h;cases h
    |true=>
     rw[hib] at h
     simp only[cond_true,Option.some.injEq] at h
     subst h
     have:=Nat.eq_of_beq_eq_true hib
     subst this
     rw[eV r _ _ (qn hr),List.getElem?_set_self hb]
structure HT (L:List Nat) (ds:List eu):Prop where
 pair : ∀(i j:Nat) (d e:eu),j<i→ds[i]? = some d→ds[j]? = some e→Nat.testBit (L.getD i 0) j=true∨((∀b∈e.w,b∉d.fp)∧((∀b∈d.w,b∉e.fp)∨DJ d e))
theorem m6 {a b:List Nat} (h:meet a b=false) : ∀i∈a,i∉b:=fun _ ha hb=>iG h ha hb
theorem nW {L:List Nat} : ∀{r iT:List eu},pz L iT.length iT r=true → ∀(i j:Nat) (d e:eu),iT.length≤i→j<i→(iT++r)[i]? = some d→(iT++r)[j]? = some e →
  Nat.testBit (L.getD i 0) j=true∨((∀b∈e.w,b∉d.fp)∧((∀b∈d.w,b∉e.fp)∨DJ d e))
 |[],iT,_,i,j,d,e,hi,_,hd,_=>by
  simp only[List.append_nil] at hd
  rw[List.getElem?_eq_none hi] at hd;cases hd
 |d0::r,iT,h,i,j,d,e,hi,hj,hd,he=>by
  simp only[pz,Bool.and_eq_true] at h
  by_cases hc:i=iT.length
  · subst hc
    have:d=d0:=by simpa using hd.symm
    subst this
    have key : ∀(l:List eu) (k:Nat),lS L iT.length d k l=true → ∀m x,l[m]? = some x→uj L iT.length d (k+m) x=true:=by
     intro l
     induction l with
     |nil=>intro k _ m x hx;simp at hx
     |cons y l ih=>
      intro k hk m x hx
      simp only[lS,Bool.and_eq_true] at hk
      cases m with
      |zero=>simp only[List.getElem?_cons_zero,Option.some.injEq] at hx;subst hx;exact hk.1
      |succ m=>
       simp only[List.getElem?_cons_succ] at hx
       have:=ih (k+1) hk.2 m x hx
       rwa [Nat.add_assoc,Nat.add_comm 1 m] at this
    have he':iT[j]? = some e:=by rwa [List.getElem?_append_left hj] at he
    have:=key iT 0 h.1 j e he'
    simp only[uj,Nat.zero_add,Bool.or_eq_true,Bool.and_eq_true,Bool.not_eq_true'] at this
    rcases this with q | ⟨q1,q2 | q2⟩
    · exact .inl q
    · exact .inr ⟨m6 q1,.inl (m6 q2)⟩
    · exact .inr ⟨m6 q1,.inr (yc q2)⟩
  · have h':pz L (iT++[d0]).length (iT++[d0]) r=true:=by simpa using h.2
    exact nW h' i j d e (by simp;omega) hj (by simpa using hd) (by simpa using he)
theorem nX {m m':Mem} : ∀(f:Nat) (ord:List Nat) (k:Nat),ord.Nodup→(∀i∈reach m f ord k,m.getD i .dead=m'.getD i .dead)→reach m' f ord k=reach m f ord k
 |0,_,_,_,_=>rfl
 |f+1,ord,k,hnd,h=>by
  simp only[reach] at h ⊢
  cases hk:ord[k]? with
  |none=>rfl
  |some i=>
   simp only[hk] at h
   dsimp only
   have xW:=(b9 (sx (m.getD i .dead)) ord hnd).1
   obtain⟨t1,h1⟩:=(b9 (sx (m.getD i .dead)) ord hnd).2
   obtain⟨t2,h2⟩:=(iE m f _ (k+1) xW).2
   have hi:m.getD i .dead=m'.getD i .dead:=h i (by rw[h2,h1];exact List.mem_append_left _ (List.mem_append_left _ (List.mem_of_getElem? hk)))
   rw[←hi]
   exact nX f _ (k+1) xW h
theorem wC {m m':Mem} {args:List AV} (hl:m.length=m'.length) (h : ∀i∈close m 0 args,m.getD i .dead=m'.getD i .dead):close m' 0 args=close m 0 args:=by
 unfold close at h ⊢
 rw[←hl]
 exact nX _ _ _ (b9 _ _ (gi 0)).1 h
theorem yd {m m':Mem} {ord:List Nat} (h : ∀i∈ord,m.getD i .dead=m'.getD i .dead):pack m' ord=pack m ord:=by
 unfold pack
 exact List.map_congr_left fun i hi=>by rw[h i hi]
theorem kI (ρ:Nat→Option Nat) : ∀(ord:List Nat) (m1 m:Mem),ord.length=m1.length→bF ρ ord m1 m=apply m (ord.zip (m1.map (ez ρ)))
 |[],[],m,_=>by simp[bF,apply]
 |i::ord,b::m1,m,h=>by
  simp only[bF,List.map_cons,List.zip_cons_cons,apply]
  exact kI ρ ord m1 _ (by simpa using h)
 |[],_::_,_,h=>by simp at h
 |_::_,[],_,h=>by simp at h
theorem Rel.Fy {g g1:Gh} {m m1:Mem} {w w':World} (h:Rel g m w) {ord R:List Nat} (hnd:(ord++R).Nodup) (hlt : ∀i∈ord++R,i<m.length) (hR : ∀i∈R,m[i]? = some .free)
  (h1:Rel g1 m1 w') (hs:bO (g.pack ord) (Am.pack m ord) w g1 m1 w') (hf:aP (g.pack ord) g1 ord.length) (hl:(ord++R).length=m1.length) :
  ∃g',Rel g' (apply m ((ord++R).zip (m1.map (ez (aI (ord++R) m.length))))) w'∧Ext g w g' w'∧bO g m w g' (apply m ((ord++R).zip (m1.map (ez (aI (ord++R) m.length))))) w'∧bK (aI (ord++R) m.length) g1 g':=by
 have own : ∀c,dH (g.pack ord) (Am.pack m ord) c→dH (g.pack (ord++R)) (Am.pack m (ord++R)) c:=by
  rintro c ⟨k,b,hk,ho,hc⟩
  obtain⟨i,hi,rfl⟩:=gh hk
  have hi':(ord++R)[k]? = some i:=by rw[List.getElem?_append_left (aM hi)];exact hi
  refine⟨k,ez (idx (ord++R)) (m.getD i .dead),?_,by rw[hG] at ho ⊢;exact ho,?_⟩
  · simp only[Am.pack,List.getElem?_map,hi',Option.map_some]
  · simpa[Gh.pack,hi,hi'] using hc
 have hs':bO (g.pack (ord++R)) (Am.pack m (ord++R)) w g1 m1 w':=
  ⟨hs.size,fun c hc hn=>hs.keep c hc fun q=>hn (own c q),hs.pure,fun c o p=>(hs.fresh c o p).imp id fun q=>q.imp (own c) id,fun c ho=>(hs.owned c ho).imp (own c) id,hs.os,hs.tape,hs.output⟩
 have hf':aP (g.pack (ord++R)) g1 (ord++R).length:=by
  intro k c hk hc
  rcases Nat.lt_or_ge k ord.length with q | q
  · have e:(ord++R)[k]? = ord[k]? :=List.getElem?_append_left q
    have:=hf k c q (by simpa[Gh.pack,e] using hc)
    simpa[Gh.pack,e] using this
  · have e:(ord++R)[k]? = R[k-ord.length]? :=List.getElem?_append_right q
    simp only[Gh.pack,e] at hc
    cases hr:R[k-ord.length]? with
    |none=>rw[hr] at hc;cases hc
    |some i=>
     rw[hr] at hc
     simp only[Option.bind_some] at hc
     rw[h.free i (hR i (List.mem_of_getElem? hr))] at hc;cases hc
 obtain⟨r1,r2,r3,r4⟩:=h.back hnd hlt h1 hs' hf' (by omega)
 rw[kI _ _ _ _ hl] at r1 r3
 exact⟨_,r1,r2,r3,r4⟩
theorem qp {m m':Mem} {i:Nat} (h:m[i]? = m'[i]?):m.getD i .dead=m'.getD i .dead:=by
 rw[List.getD_eq_getElem?_getD,List.getD_eq_getElem?_getD,h]
end
end Go.Am
end
section
namespace Go.Am
open Go.RowKit
section
variable {P:Program} {E:Env}
theorem iH : ∀(ds:List eu) (m:Mem),(iQ m ds).length=m.length
 |[],_=>rfl
 |d::ds,m=>by rw[iQ,iH ds,cB]
structure ES (P:Program) (E:Env) (wr:Oper→Bool) (ops:Array Oper) (m:Nat) (dZ:St) (ds:List eu) (st':St):Prop where
 len:ds.length=ops.toList.length
 ends:bT ops.toList (ds.map (·.v)) dZ m {st' with mem:=dZ.mem}
 mem:st'.mem=iQ dZ.mem (ds.take m)
 each : ∀(i:Nat) (o:Oper),ops.toList[i]? = some o→i<m → ∃d ff ql wB,ds[i]? = some d∧wA P E wr ops ff ql o d wB∧fits ff o.dst=true∧bT ops.toList (ds.map (·.v)) dZ i {ff with mem:=dZ.mem}∧ff.mem=iQ dZ.mem (ds.take i)∧hJ ql ff.mem∧ql≤ff.mem.length
 Nb : ∀(i:Nat) (e:eu),m≤i→ds[i]? = some e→e.us=[]
theorem iU.HU {ops:Array Oper} {L:List Nat} {vs:List AV} {dZ cD:St} {S:Array Bool} (hI:iU ops L vs dZ cD S) (hl:vs.length=ops.toList.length) {st':St} {m:Nat} (hst:bT ops.toList vs dZ m st') (hall : ∀i,i<m→S.getD i false=true) (hnot : ∀i,m≤i→S.getD i false=false) :
  cD.mem=st'.mem∧cD.nt=st'.nt∧cD.fix=st'.fix ∧ ∀t,look cD.tm t=look st'.tm t:=by
 obtain⟨h1,h2,h3,hA,hB⟩:=hst
 have lt : ∀j,S.getD j false=true→j<m:=fun j hj=>by
  rcases Nat.lt_or_ge j m with q | q
  · exact q
  · rw[hnot j q] at hj;cases hj
 refine⟨hI.mem.trans h1.symm,hI.nt.trans h2.symm,hI.fix.trans h3.symm,fun t=> ?_⟩
 by_cases hw : ∃(j:Nat) (p:Oper),j<m∧ops.toList[j]? = some p∧p.dst=some t
 · obtain⟨j,p,hj,hp,hd⟩:=hw
   have hjl:=(List.getElem?_eq_some_iff.1 hp).1
   have Br:vs[j]? = some vs[j]:=List.getElem?_eq_getElem (by rw[hl];exact hjl)
   rw[hI.a j p _ t (hall j hj) hp Br hd,hA j p _ t hj hp Br hd]
 · rw[hI.b t fun k q hk hq hd=>hw ⟨k,q,lt k hk,hq,hd⟩,hB t fun k q hk hq hd=>hw ⟨k,q,hk,hq,hd⟩]
theorem DK {ops:Array Oper} {S:Array Bool} (h : ∀i,i<ops.size→S.getD i false=true) (hs:S.size=ops.size) (fuel t:Nat):Region.linearise.go .any ops fuel t S []=[]:=by
 cases fuel with
 |zero=>rfl
 |succ fuel=>
  have hr:Region.ready .any ops S=[]:=by
   cases hr:Region.ready .any ops S with
   |nil=>rfl
   |cons x xs=>
    have hx:x∈Region.ready .any ops S:=by rw[hr];exact .head _
    obtain⟨h1,o,ho,_⟩:=mem_ready.1 hx
    have hlt:=(Array.getElem?_eq_some_iff.1 ho).1
    have:=h x hlt
    rw[hH (by omega) false true,h1] at this
    cases this
  simp only[Region.linearise.go]
  show(match(Region.ready .any ops S)[t%(Region.ready .any ops S).length]? with
   |some i=>Region.linearise.go .any ops fuel (t / (Region.ready .any ops S).length) (S.setIfInBounds i true) [i]
   |none=>[].reverse)=[]
  rw[hr]
  rfl
theorem DL {b:Frame} {k:List Item} (cs:List Frame) {ops:Array Oper} {L:List Nat} {ds:List eu} {dZ st':St} {m:Nat} {wr:Oper→Bool} (hO:ot ops L) (hL:HT L ds) (hrun:ES P E wr ops m dZ ds st')
  (hm:m=ops.size∨(m+1=ops.size ∧ ∀j,j<m→Nat.testBit (L.getD m 0) j=true)) : ∀(fuel t:Nat) (S:Array Bool) (cD:St) (a:Act) (g:Gh) (w:World) (u:List Nat),
    iU ops L (ds.map (·.v)) dZ {cD with mem:=dZ.mem} S→gj ds dZ.mem (fun j=>S.getD j false=true) cD.mem→bn E g cD a w→u.length=fuel→(∀i,i<ops.size→S.getD i false=false→i∈u)→(∀i,m≤i→S.getD i false=false) →
    ∃g' a' w',Steps P (lone (b.atR a (.inRegion ops (Region.linearise.go .any ops fuel t S [])::k)) cs w) (lone (b.atR a' (.inRegion ops (List.range' m (ops.size-m))::k)) cs w')∧a'.defers=a.defers∧bn E g' st' a' w' ∧
     bO g cD.mem w g' st'.mem w'∧aP g g' dZ.fix ∧ ∀i c,g.aN i=some c→g'.aN i=some c:=by
 obtain⟨J3,hend,hmem,hspec,HV⟩:=hrun
 have hl:(ds.map (·.v)).length=ops.toList.length:=by simpa using J3
 have Ma:ds.length=ops.size:=by simpa using J3
 have HH:m≤ops.size:=by omega
 have fin : ∀(S:Array Bool) (cD:St) (a:Act) (g:Gh) (w:World),iU ops L (ds.map (·.v)) dZ {cD with mem:=dZ.mem} S→gj ds dZ.mem (fun j=>S.getD j false=true) cD.mem→bn E g cD a w →
   (∀i,i<m→S.getD i false=true)→(∀i,m≤i→S.getD i false=false)→bn E g st' a w∧cD.mem=st'.mem:=by
  intro S cD a g w hI hM hs hall hnot
  obtain⟨_,e2,e3,e4⟩:=hI.HU hl hend hall hnot
  have hm:cD.mem=st'.mem:=by
   apply List.ext_getElem?
   intro i
   rw[hmem]
   have h2:=qk ds dZ.mem m (by omega)
   refine hM.agree h2 fun j d hd _=> ?_
   refine⟨fun hS=> ?_,fun hj=>hall j hj⟩
   rcases Nat.lt_or_ge j m with q | q
   · exact q
   · rw[hnot j q] at hS;cases hS
  exact⟨hs.same hm e2 e3 e4,hm⟩
 have full : ∀(S:Array Bool),(∀i,i<ops.size→S.getD i false=true)→(∀i,m≤i→S.getD i false=false)→m=ops.size:=by
  intro S h1 h2
  rcases hm with q | ⟨q,_⟩
  · exact q
  · have:=h1 m (by omega);rw[h2 m (Nat.le_refl _)] at this;cases this
 intro fuel
 induction fuel with
 |zero=>
  intro t S cD a g w u hI hM hs Fv hu hnot
  have hall : ∀i,i<ops.size→S.getD i false=true:=by
   intro i hi
   cases hq:S.getD i false with
   |true=>rfl
   |false=>
    have:=hu i hi hq
    rw[List.eq_nil_of_length_eq_zero Fv] at this;cases this
  have J4:=full S hall hnot
  obtain⟨h1,h2⟩:=fin S cD a g w hI hM hs (fun i hi=>hall i (by omega)) hnot
  refine⟨g,a,w,?_,rfl,h1,by rw[h2];exact bO.refl _ _ _,aP.refl _ _,fun _ _ h=>h⟩
  rw[J4,Nat.sub_self,List.range'_zero]
  exact Steps.refl _ _
 |succ fuel ih=>
  intro t S cD a g w u hI hM hs Fv hu hnot
  simp only[Region.linearise.go]
  show ∃g' a' w',Steps P (lone (b.atR a (.inRegion ops (match(Region.ready .any ops S)[t%(Region.ready .any ops S).length]? with
   |some i=>Region.linearise.go .any ops fuel (t / (Region.ready .any ops S).length) (S.setIfInBounds i true) [i]
   |none=>[].reverse)::k)) cs w) (lone (b.atR a' (.inRegion ops (List.range' m (ops.size-m))::k)) cs w')∧_
  cases hi:(Region.ready .any ops S)[t%(Region.ready .any ops S).length]? with
  |none=>
   have BM:Region.ready .any ops S=[]:=by
    cases hr:Region.ready .any ops S with
    |nil=>rfl
    |cons x xs=>
     rw[hr] at hi
     have hlt:t%(x::xs).length<(x::xs).length:=Nat.mod_lt _ (by simp)
     rw[List.getElem?_eq_getElem hlt] at hi;cases hi
   have hall:=hI.all hO BM
   have J4:=full S hall hnot
   obtain⟨h1,h2⟩:=fin S cD a g w hI hM hs (fun i hi=>hall i (by omega)) hnot
   refine⟨g,a,w,?_,rfl,h1,by rw[h2];exact bO.refl _ _ _,aP.refl _ _,fun _ _ h=>h⟩
   rw[J4,Nat.sub_self,List.range'_zero]
   exact Steps.refl _ _
  |some i=>
   have DF:=List.mem_of_getElem? hi
   obtain⟨JX,o,ho,_⟩:=mem_ready.1 DF
   have ho':ops.toList[i]? = some o:=by simpa using ho
   have hilt:i<ops.size:=(Array.getElem?_eq_some_iff.1 ho).1
   by_cases J5:i<m
   case neg=>
    have hme:i=m∧m+1=ops.size ∧ ∀j,j<m→Nat.testBit (L.getD m 0) j=true:=by
     rcases hm with q | ⟨q1,q2⟩
     · omega
     · exact⟨by omega,q1,q2⟩
    obtain⟨rfl,hsz,HW⟩:=hme
    have hall : ∀j,j<i→S.getD j false=true:=fun j hj=>hI.ahead hO DF (HW j hj)
    obtain⟨h1,h2⟩:=fin S cD a g w hI hM hs hall hnot
    dsimp only
    rw[linearise_go_acc,List.reverse_singleton,List.singleton_append,DK (fun j hj=>by
     by_cases e:i=j
     · subst e;simp[Array.getD_eq_getD_getElem?,hI.size,hj]
     · rw[getD_set_ne false e];exact hall j (by omega)) (by simp[hI.size])]
    refine⟨g,a,w,?_,rfl,h1,by rw[h2];exact bO.refl _ _ _,aP.refl _ _,fun _ _ h=>h⟩
    rw[show ops.size-i=1 by omega,List.range'_one]
    exact Steps.refl _ _
   obtain⟨d,ff,ql,wB,hd,hk,hf,x8,Mb,HX,J6⟩:=hspec i o ho' J5
   have hv:(ds.map (·.v))[i]? = some d.v:=by rw[List.getElem?_map,hd];rfl
   have qi : ∀t∈slots ops o,look cD.tm t=look ff.tm t:=fun t ht=>hI.slots hO ho' DF hl x8 ht
   have hid:i<ds.length:=(List.getElem?_eq_some_iff.1 hd).1
   have hni:S.getD i false=false:=by rw[hH (by rw[hI.size];exact hilt) false true];exact JX
   have BN:i∈u:=hu i hilt hni
   have Df : ∀j,j<ops.size→(S.setIfInBounds i true).getD j false=false→j∈u.erase i:=by
    intro j hj hq
    have hne:j≠i:=by
     intro e
     subst e
     rw[show(S.setIfInBounds j true).getD j false=true by simp[Array.getD_eq_getD_getElem?,hI.size,hj]] at hq
     cases hq
    rw[getD_set_ne false (fun e=>hne e.symm)] at hq
    exact(List.mem_erase_of_ne hne).2 (hu j hj hq)
   have HY : ∀j,m≤j→(S.setIfInBounds i true).getD j false=false:=by
    intro j hj
    rw[getD_set_ne false (by omega)]
    exact hnot j hj
   have DG:(u.erase i).length=fuel:=by rw[List.length_erase_of_mem BN,Fv];rfl
   have rL : ∀j,(S.setIfInBounds i true).getD j false=true↔S.getD j false=true∨j=i:=by
    intro j
    by_cases h:i=j
    · subst h
      simp[Array.getD_eq_getD_getElem?,hI.size,hilt]
    · rw[getD_set_ne false h]
      exact⟨.inl,fun q=>q.resolve_right fun e=>h e.symm⟩
   have hwf : ∀b∈d.w,b∈d.fp:=(hk.facts J6).2.2.2
   have Mc : ∀(j:Nat) (e:eu),ds[j]? = some e → ∀b∈e.w,b∈e.fp:=by
    intro j e he
    have hj:=(List.getElem?_eq_some_iff.1 he).1
    have Hs:ops.toList[j]? = some ops.toList[j]:=List.getElem?_eq_getElem (by omega)
    by_cases J7:j<m
    case neg=>
     intro b hb
     rw[eu.w,HV j e (by omega) he] at hb
     cases hb
    obtain⟨e',Md,Me,J8,q1,q2,_,_,_,_,q3⟩:=hspec j _ Hs J7
    rw[he] at q1;cases q1
    exact(q2.facts q3).2.2.2
   have Jv:=qk ds dZ.mem i (by omega)
   rw[←Mb] at Jv
   have Mf : ∀(j:Nat) (e:eu),ds[j]? = some e → ∀b∈e.w,b<dZ.mem.length:=by
    intro j e he b hb
    have hj:=(List.getElem?_eq_some_iff.1 he).1
    have Hs:ops.toList[j]? = some ops.toList[j]:=List.getElem?_eq_getElem (by omega)
    by_cases J7:j<m
    case neg=>
     rw[eu.w,HV j e (by omega) he] at hb
     cases hb
    obtain⟨e',Md,Me,J8,q1,q2,_,_,q4,_,q3⟩:=hspec j _ Hs J7
    rw[he] at q1;cases q1
    have h1:=(q2.facts q3).2.2.1 b hb
    have h2:=(q2.facts q3).2.1
    have h3:=iH (ds.take j) dZ.mem
    rw[q4,h3] at h2
    omega
   have hag : ∀b∈d.fp,cD.mem[b]? = ff.mem[b]? ∨ (d.us=[] ∧ ∃x,cD.mem[b]? = some x∧d.ld b x=true):=by
    intro b hb
    by_cases hw : ∃j e,S.getD j false=true∧i<j∧ds[j]? = some e∧b∈e.w
    · obtain⟨j0,e0,q1,q2,q3,q4⟩:=hw
      obtain⟨j,⟨hj,e,he,rC⟩,hl⟩:=zl (p:=fun j=>S.getD j false=true ∧ ∃d,ds[j]? = some d∧b∈d.w) (n:=ds.length) (fun k ⟨_,d,hd,_⟩=>(List.getElem?_eq_some_iff.1 hd).1) _ j0 rfl ⟨q1,e0,q3,q4⟩
      have hij:i<j:=by
       rcases Nat.lt_or_ge i j with q | q
       · exact q
       · exact absurd (show j<j0 by omega) (hl j0 ⟨q1,e0,q3,q4⟩)
      have wD:=hM.last j e b hj he rC fun k x hk Dh hx Mg=>hl k ⟨hk,x,hx,Mg⟩ Dh
      rcases hL.pair j i e d hij he hd with q | ⟨_,q | q⟩
      · have:=hI.cl j i hj q;rw[hni] at this;cases this
      · exact absurd hb (q b rC)
      · obtain⟨x,hx,J9⟩:=q.2 b rC hb
        rw[qo hx (Mf j e he b rC)] at wD
        exact .inr ⟨q.1,x,wD,J9⟩
    · refine .inl (hM.agree Jv fun j e he rC=> ?_)
      rcases Nat.lt_trichotomy j i with hlt | heq | hgt
      · rcases hL.pair i j d e hlt hd he with q | ⟨q,_⟩
        · exact⟨fun _=>hlt,fun _=>hI.ahead hO DF q⟩
        · exact absurd hb (q b rC)
      · subst heq
        exact⟨fun q=>(by rw[hni] at q;cases q),fun q=>absurd q (Nat.lt_irrefl _)⟩
      · exact⟨fun q=>absurd ⟨j,e,q,hgt,he,rC⟩ hw,fun q=>by omega⟩
   have BR:cD.mem.length=ff.mem.length:=hM.len.trans Jv.len.symm
   have Mh:gj ds dZ.mem (fun j=>(S.setIfInBounds i true).getD j false=true) (apply cD.mem d.us):=by
    refine hM.step hd rL (by rw[hni];exact fun q=>by cases q) fun j e hS hij he b hb rC=> ?_
    rcases hL.pair j i e d hij he hd with q | ⟨q,_⟩
    · have:=hI.cl j i hS q;rw[hni] at this;cases this
    · exact q b hb (Mc j e he b rC)
   have JA:=hI.step hO ho' hv DF
   have JB:fits cD o.dst=true:=by
    have:fits cD o.dst=fits ff o.dst:=by unfold fits;rw[show cD.nt=dZ.nt from hI.nt,show ff.nt=dZ.nt from x8.2.1]
    rw[this];exact hf
   have Lt:cD.fix=dZ.fix:=hI.fix
   have hput : ∀m:Mem,put {cD with mem:=dZ.mem} o.dst d.v={put {cD with mem:=m} o.dst d.v with mem:=dZ.mem}:=by
    intro m;cases o.dst<;>rfl
   have ET : ∀m:Mem,(put {cD with mem:=m} o.dst d.v).mem=m:=by intro m;cases o.dst<;>rfl
   have HZ:cD.fix≤(apply cD.mem d.us).length:=by rw[cB];exact hs.fix
   dsimp only
   rw[linearise_go_acc,List.reverse_singleton,List.singleton_append]
   have Ao:=nU qi
   have xA:=wv (E:=E) qi
   obtain⟨w1,w2,w3⟩:=kf hs (ops:=ops) (o:=o)
   have go : ∀(g2:Gh) (cv:Value) (w':World),VA g2 w' d.v cv→Rel g2 (apply cD.mem d.us) w'→Ext g w g2 w'→bO g cD.mem w g2 (apply cD.mem d.us) w' →
     Steps P (lone (b.atR a (.inRegion ops (i::Region.linearise.go .any ops fuel (t / (Region.ready .any ops S).length) (S.setIfInBounds i true) [])::k)) cs w)
      (lone (b.atR (a.put o.dst cv) (.inRegion ops (Region.linearise.go .any ops fuel (t / (Region.ready .any ops S).length) (S.setIfInBounds i true) [])::k)) cs w') →
     ∃g' a' w',Steps P (lone (b.atR a (.inRegion ops (i::Region.linearise.go .any ops fuel (t / (Region.ready .any ops S).length) (S.setIfInBounds i true) [])::k)) cs w) (lone (b.atR a' (.inRegion ops (List.range' m (ops.size-m))::k)) cs w')∧a'.defers=a.defers∧bn E g' st' a' w' ∧
      bO g cD.mem w g' st'.mem w'∧aP g g' dZ.fix ∧ ∀i c,g.aN i=some c→g'.aN i=some c:=by
    intro g2 cv w' k2 k3 k4 k5 Mi
    have hs':=hs.put JB k2 k4 k3 HZ
    obtain⟨g3,a3,Mj,r1,r2,r3,r4,r5,r6⟩:=ih (t / (Region.ready .any ops S).length) (S.setIfInBounds i true) _ _ _ _ (u.erase i) (by rw[←hput];exact JA) (by rw[ET];exact Mh) hs' DG Df HY
    rw[ET] at r4
    refine⟨g3,a3,Mj,Mi.trans r1,r2.trans put_defers,r3,k5.trans r4,(aP.me k4 _).trans r5,fun j c q=>r6 j c (k4.aN j c q).1⟩
   rcases hk with⟨hw,Fz⟩ | ⟨hw,rfl,rfl⟩
   · have fj:Region.wanted o (yielded ops a.tmps)=true:=by
      rcases hw with hw | ⟨s',b',want,hw,hb⟩
      · exact w1 (Ao.trans hw)
      · rw[(w3 s' b' want (Ao.trans hw)).1];exact hb
     rcases Fz with⟨gf,args,v,m1,ht,dc,h1,h2,h3,h4,h5⟩ | ⟨ht,FA,hop,Lu,Ml,h3,h4,J9⟩
     · have m7 : ∀b∈d.fp,cD.mem[b]? = ff.mem[b]? :=fun b hb=>(hag b hb).resolve_right fun⟨_,x,_,q⟩=>by rw[h5] at q;cases q
       have DM:target (ev E cD.tm) o=some (gf,args):=(uQ xA).trans ht
       have FB:d.fp=close ff.mem 0 args++List.range' ql (m1.length-(close ff.mem 0 args).length):=by rw[h5];rfl
       have Ka:close cD.mem 0 args=close ff.mem 0 args:=wC BR.symm fun j hj=>(qp (m7 j (by rw[FB];exact List.mem_append_left _ hj))).symm
       have H6:pack cD.mem (close ff.mem 0 args)=pack ff.mem (close ff.mem 0 args):=yd fun j hj=>(qp (m7 j (by rw[FB];exact List.mem_append_left _ hj))).symm
       obtain⟨hnd,_⟩:=cS ff.mem 0 args
       generalize close ff.mem 0 args=ord at *
       rw[←H6] at dc
       have hR : ∀j∈List.range' ql (m1.length-ord.length),cD.mem[j]? = some .free:=by
        intro j hj
        rw[m7 j (by rw[FB];exact List.mem_append_right _ hj)]
        rw[List.mem_range'_1] at hj
        exact HX j hj.1 (by omega)
       have Kb:(ord++List.range' ql (m1.length-ord.length)).Nodup:=List.nodup_append.2 ⟨hnd,List.nodup_range',fun x hx y hy e=>by
        subst e
        rw[List.mem_range'_1] at hy
        have:=h2 x hx;omega⟩
       have Kc : ∀j∈ord++List.range' ql (m1.length-ord.length),j<cD.mem.length:=by
        intro j hj
        rcases List.mem_append.1 hj with q | q
        · have:=h2 j q;omega
        · rw[List.mem_range'_1] at q;omega
       obtain⟨⟨fn,DA,DB,DC⟩,dc⟩:=dc
       unfold target at DM
       split at DM
       · rename_i call Kd
         split at DM
         · rename_i x rW
           split at DM
           · rename_i f' first captured hx
             simp only[Option.some.injEq,Prod.mk.injEq] at DM
             obtain⟨rfl,FC⟩:=DM
             have rR:=dQ hs x
             rw[hx,VA.fns] at rR
             obtain⟨fa,ca,rR,Ft,hca⟩:=rR
             have H7:=qe (P:=P) (w:=w) Kd rW rR DA DB DC
             have hargs:bM g w args (fa++call.args.map a.eval++ca).toList:=by
              rw[←FC]
              simp only[Array.toList_append,Array.toList_map]
              exact(Ft.append (eg (dQ hs) _)).append hca
             obtain⟨BE,BF⟩:=hs.rel.pack hnd
             have iF:=bK.pack g ord
             obtain⟨w',g',cv,fr,q1,q2,q3,q4,q5,q6,q7,q8⟩:=dc (g.pack ord) w (fa++call.args.map a.eval++ca) (b.atR a (.inRegion ops (i::Region.linearise.go .any ops fuel (t / (Region.ready .any ops S).length) (S.setIfInBounds i true) [])::k)::cs) BE
              (bM.fU iF hargs) (hs.ct.mono fun _ _ p=>⟨p,rfl⟩)
             have hlen:(Am.pack cD.mem ord).length=ord.length:=by simp[Am.pack]
             rw[hlen] at q7 q8
             obtain⟨g2,r1,r2,r3,r4⟩:=hs.rel.Fy Kb Kc hR q5 q6 q7 (by simp;omega)
             have uC:d.us=(ord++List.range' ql (m1.length-ord.length)).zip (m1.map (ez (aI (ord++List.range' ql (m1.length-ord.length)) cD.mem.length))):=by rw[h5,BR];rfl
             have Mm:d.v=fU (aI (ord++List.range' ql (m1.length-ord.length)) cD.mem.length) v:=by rw[h5,BR];rfl
             rw[←uC] at r1 r3
             have hstep:=lg (b:=b) (k:=k) (cs:=cs) (rest:=Region.linearise.go .any ops fuel (t / (Region.ready .any ops S).length) (S.setIfInBounds i true) []) ho fj H7
             have hleave:=step_leave_returned (P:=P) (c:=b.atR a (.inRegion ops (i::Region.linearise.go .any ops fuel (t / (Region.ready .any ops S).length) (S.setIfInBounds i true) [])::k)) (cs:=cs) q2
             rw[Frame.finish_atR,ho] at hleave
             exact go g2 cv w' (by rw[Mm];exact q4.fU r4) r1 r2 r3 (.head hstep (q1.trans (.one hleave)))
           · cases DM
         · cases DM
       · cases DM
     · have both:(nH P (fun j=>cD.mem.getD j .dead) (wr o) ql (ev E cD.tm) o=some (d.v,d.us,true))∧(makes o=true→cD.mem[ql]? = some .free):=by
        by_cases hsp : ∃b x,d.us=[]∧cD.mem[b]? = some x∧d.ld b x=true
        · obtain⟨b,x,uC,hx,wE⟩:=hsp
          rw[J9] at wE
          unfold E5 at wE
          split at wE
          · rename_i t a FD
            split at wE
            · rename_i c off Ke
              simp only[Bool.and_eq_true] at wE
              obtain⟨hcb,Ff⟩:=wE
              have hcb:=Nat.eq_of_beq_eq_true hcb
              subst hcb
              split at Ff
              · rename_i v' ok hlo
                simp only[Bool.and_eq_true] at Ff
                obtain⟨rfl,Kf⟩:=Ff
                have Kf:=gF Kf
                subst Kf
                have hrd:(fun j=>cD.mem.getD j av.dead) c=x:=by
                 show cD.mem.getD c .dead=x
                 rw[List.getD_eq_getElem?_getD,hx];rfl
                have l8:gN P (fun j=>cD.mem.getD j .dead) t (.mp c off)=gN P (fun _=>x) t (.mp c off):=by
                 simp only[gN,kH (rd:=fun j=>cD.mem.getD j av.dead) (rd':=fun _=>x) (a:= .mp c off) (fun b hb=>by
                  have:b=c:=by simpa[refs] using hb
                  subst this;exact hrd)]
                refine⟨?_,fun hm=> ?_⟩
                · have e1:ev E cD.tm a = .mp c off:=by rw[xA a (by rw[FD];simp[Op.operands]),Ke]
                  simp only[nH,FD,e1,l8,hlo,eC,Option.map_some,uC]
                · simp[makes,FD] at hm
              · cases Ff
            · cases wE
          · cases wE
        · have m7 : ∀b∈d.fp,cD.mem[b]? = ff.mem[b]? :=fun b hb=>(hag b hb).resolve_right fun⟨q0,x,q1,q2⟩=>hsp ⟨b,x,q0,q1,q2⟩
          refine⟨?_,fun hm=> ?_⟩
          · rw[←hop]
            refine(DI FA (fun x hx=>(xA x hx).symm) fun j hj=> ?_).symm
            exact(qp (m7 j (by rw[Lu];exact List.mem_append_right _ (List.mem_append_left _ hj)))).symm
          · rw[m7 ql (by rw[Lu,hm];exact List.mem_append_right _ (List.mem_append_right _ (by simp)))]
            rw[hm] at h3
            simp only[cond_true] at h3
            exact HX ql (Nat.le_refl _) (by omega)
       obtain⟨Kg,hfree⟩:=both
       obtain⟨cv,w',g',k1,k2,k3,k4,k5⟩:=ke hs.rel (dQ hs) (fun _=>rfl) hfree Kg
       exact go g' cv w' k2 k3 k4 k5 (.one (mj ho fj k1))
   · have fj:Region.wanted o (yielded ops a.tmps)=false:=by
      rcases hw with hw | ⟨s',b',want,hw,hb⟩
      · exact w2 (Ao.trans hw)
      · rw[(w3 s' b' want (Ao.trans hw)).1];exact hb
     refine go g undef w (VA.fY.2 trivial) hs.rel (Ext.refl g w) (bO.refl _ _ _) (.one ?_)
     have hst:=stepR_op_skip (P:=P) (b:=b) (a:=a) (k:=k) (cs:=cs) (w:=w) (ops:=ops) (i:=i) (rest:=Region.linearise.go .any ops fuel (t / (Region.ready .any ops S).length) (S.setIfInBounds i true) []) (by simp[ho,fj])
     simpa only[ho,Option.bind_some] using hst
theorem nY : ∀{m:Mem},oM m=true → ∀(i:Nat) (b:av),m[i]? = some b→b = .free
 |[],_,i,b,h=>by simp at h
 |x::r,h,i,b,hb=>by
  cases x with
  |free=>
   cases i with
   |zero=>simpa using hb.symm
   |succ i=>exact nY (m:=r) h i b (by simpa using hb)
  |_=>cases h
theorem Rel.trim {g:Gh} {m:Mem} {w:World} (h:Rel g m w) {n:Nat} (hf:oM (m.drop n)=true):Rel g (m.take n) w∧bO g m w g (m.take n) w:=by
 have get : ∀i b,(m.take n)[i]? = some b→m[i]? = some b:=fun i b hb=>by
  rw[List.getElem?_take] at hb
  split at hb
  · exact hb
  · cases hb
 refine⟨⟨fun i hi=> ?_,fun i hi=>h.free i (get i _ hi),fun i b l hi hb=>h.cells i b l (get i b hi) hb,fun i c hi hc=>h.tok i c (get i _ hi) hc,
  fun i j b b' c hi hj ho ho' hc cY=>h.inj i j b b' c (get i b hi) (get j b' hj) ho ho' hc cY,h.there,fun i k l hi=>h.obs i k l (get i _ hi)⟩,bO.less fun c ⟨i,b,hi,ho,hc⟩=>⟨i,b,get i b hi,ho,hc⟩⟩
 rcases Nat.lt_or_ge i m.length with q | q
 · rw[List.length_take] at hi
   have hb:(m.drop n)[i-n]? = some m[i]:=by
    rw[List.getElem?_drop,show n+(i-n)=i by omega]
    exact List.getElem?_eq_getElem q
   have:=nY hf _ _ hb
   exact h.free i (by rw[List.getElem?_eq_getElem q,this])
 · exact h.pF i q
theorem Rel.bu {g:Gh} {w:World} : ∀(n:Nat) {m:Mem},Rel g m w→Rel g (m++bu n) w∧bO g m w g (m++bu n) w
 |0,m,h=>by
  simp only[Am.bu,List.replicate_zero,List.append_nil]
  exact⟨h,bO.refl _ _ _⟩
 |n+1,m,h=>by
  obtain⟨h1,h2⟩:=h.reserve
  obtain⟨h3,h4⟩:=Rel.bu n h1
  have e:m++Am.bu (n+1)=(m++[.free])++Am.bu n:=by simp[Am.bu,List.replicate_succ]
  rw[e]
  exact⟨h3,h2.trans h4⟩
theorem mw {x:Nat} : ∀{n:Nat},oJ x n=true → ∀j,j<n→Nat.testBit x j=true
 |0,_,j,h=>absurd h (Nat.not_lt_zero _)
 |n+1,h,j,hj=>by
  simp only[oJ,Bool.and_eq_true] at h
  rcases Nat.lt_or_ge j n with q | q
  · exact mw h.2 j q
  · have:j=n:=by omega
    subst this;exact h.1
theorem uR (ops:Array Oper):dX ops≤ops.size∧(dX ops=ops.size∨(dX ops+1=ops.size ∧ ∀j,j<dX ops→Nat.testBit ((masks [] ops.toList).getD (dX ops) 0) j=true)):=by
 unfold dX
 cases h:mR ops with
 |false=>exact⟨Nat.le_refl _,.inl rfl⟩
 |true=>
  simp only[cond_true]
  refine⟨by omega,?_⟩
  unfold mR at h
  simp only[Bool.and_eq_true] at h
  obtain⟨h1,h2⟩:=h
  have hp:0<ops.size:=by
   rcases Nat.eq_zero_or_pos ops.size with e | e
   · rw[show ops[ops.size-1]? = none from Array.getElem?_eq_none (by omega)] at h1;cases h1
   · exact e
  exact .inr ⟨by omega,fun j hj=>mw h2 j hj⟩
theorem rY.H8 {wr:Oper→Bool} {ops:Array Oper} {m:Nat} {st st':St} {nx kD:Nat} {ds:List eu} (h:rY P E wr ops (ops.toList.take m) st nx ds st' kD) (hm:m≤ops.size) (hu:wq ops.toList) (hn:nx≤st.mem.length) (hfr:hJ nx st.mem) :
  ES P E wr ops m st (ds++List.replicate (ops.size-m) ⟨.aO [],[],[],fun _ _=>false⟩) st'∧ds.length=m∧st'.mem=iQ st.mem ds∧st'.fix=st.fix:=by
 have get : ∀i,i<m→(ops.toList.take m)[i]? = ops.toList[i]? :=fun i hi=>by rw[List.getElem?_take,if_pos hi]
 have Df:wq (ops.toList.take m):=by
  intro i j p q t hij hp hq
  rw[List.getElem?_take] at hp hq
  split at hp
  · split at hq
    · exact hu i j p q t hij hp hq
    · cases hq
  · cases hp
 have hlen:(ops.toList.take m).length=m:=by simp;omega
 obtain⟨h1,h2,h3,_,h4⟩:=h.spec Df hn hfr
 rw[hlen] at h1 h2
 have slots : ∀{i:Nat} {T:St},i≤m→bT (ops.toList.take m) (ds.map (·.v)) st i T→bT ops.toList ((ds++List.replicate (ops.size-m) (⟨.aO [],[],[],fun _ _=>false⟩:eu)).map (·.v)) st i T:=by
  intro i T hi ⟨q1,q2,q3,q4,q5⟩
  refine⟨q1,q2,q3,fun j p v t hj hp hv ht=>q4 j p v t hj (by rw[get j (by omega)];exact hp) ?_ ht,fun t ht=>q5 t fun j p hj hp=>ht j p hj ?_⟩
  · rw[List.map_append,List.getElem?_append_left (by simp;omega)] at hv;exact hv
  · rw[get j (by omega)] at hp;exact hp
 refine⟨⟨by simp;omega,slots (Nat.le_refl _) h2,?_,?_,?_⟩,h1,h3,h2.2.2.1⟩
 · rw[List.take_append_of_le_length (by omega),List.take_of_length_le (by omega)];exact h3
 · intro i o ho hi
   obtain⟨d,ff,ql,wB,q1,q2,q3,q4,q5,q6,q7⟩:=h4 i o (by rw[get i hi];exact ho)
   refine⟨d,ff,ql,wB,by rw[List.getElem?_append_left (by omega)];exact q1,q2,q3,slots (by omega) q4,?_,q6,q7⟩
   rw[List.take_append_of_le_length (by omega)];exact q5
 · intro i e hi he
   rw[List.getElem?_append_right (by omega),List.getElem?_replicate] at he
   split at he
   · cases he;rfl
   · cases he
theorem HT.pad {L:List Nat} {ds:List eu} {n:Nat} (h : ∀(i j:Nat) (d e:eu),j<i→ds[i]? = some d→ds[j]? = some e→Nat.testBit (L.getD i 0) j=true∨((∀b∈e.w,b∉d.fp)∧((∀b∈d.w,b∉e.fp)∨DJ d e))) :
  HT L (ds++List.replicate n ⟨.aO [],[],[],fun _ _=>false⟩):=by
 refine⟨fun i j d e hj hd he=> ?_⟩
 rcases Nat.lt_or_ge i ds.length with q | q
 · exact h i j d e hj (by rw[List.getElem?_append_left q] at hd;exact hd) (by rw[List.getElem?_append_left (by omega)] at he;exact he)
 · rw[List.getElem?_append_right q,List.getElem?_replicate] at hd
   split at hd
   · cases hd
     exact .inr ⟨fun b _=>by simp,.inl fun b hb=>by simp at hb⟩
   · cases hd
theorem FE {g:Gh} {w:World} {b:Frame} {a:Act} {k:List It} {ops:Array Oper} {f aU:Nat} {O:FuncId→List AV→Mem→Option (AV×Mem)} {st st':St} (hO : ∀g args m v m1,O g args m=some (v,m1)→aB P E g args m v m1)
  (hs:bn E g st a w) (h:fX P E f aU O ops st=some (st',true)) :
  ∀cs,∃g' a' w',Steps P (lone (b.atR a (.code (.region aU ops true)::cg k)) cs w) (lone (b.atR a' (cg (eT aU ops k))) cs w')∧a'.defers=a.defers∧bn E g' st' a' w' ∧
   bO g st.mem w g' st'.mem w'∧aP g g' st.fix∧st'.fix=st.fix ∧ ∀i c,g.aN i=some c→g'.aN i=some c:=by
 intro cs
 unfold fX at h
 split at h
 · rename_i DD nx ds ok hq
   simp only[Option.some.injEq,Prod.mk.injEq,Bool.and_eq_true] at h
   obtain⟨rfl,rfl,BP,FA,hfree,BS,Fw⟩:=h
   have BS:=Nat.le_of_ble_eq_true BS
   have hrun:=m5 hO hq
   obtain⟨hQ,_⟩:=ot.of BP
   obtain⟨Kh,Ki⟩:=uR ops
   have hL:HT (masks [] ops.toList) (ds++List.replicate (ops.size-dX ops) ⟨.aO [],[],[],fun _ _=>false⟩):=HT.pad fun i j d e hj hd he=>nW (iT:=[]) FA i j d e (Nat.zero_le _) hj hd he
   obtain⟨Fx,Ht⟩:=hs.rel.bu (60+ops.size)
   have hs1:bn E g {st with mem:=st.mem++bu (60+ops.size)} a w:=⟨hs.tm,hs.nt,Fx,by simp;have:=hs.fix;omega,hs.ct⟩
   have hgd : ∀j,(Array.replicate ops.size false).getD j false=false:=by
    intro j
    rw[Array.getD_eq_getD_getElem?,Array.getElem?_replicate]
    split<;>rfl
   have hfr:hJ st.mem.length (st.mem++bu (60+ops.size)):=by
    intro i hi hl
    rw[List.getElem?_append_right hi]
    simp only[bu,List.length_append,List.length_replicate] at hl ⊢
    rw[List.getElem?_replicate,if_pos (by omega)]
   have Jy:st.mem.length≤(st.mem++bu (60+ops.size)).length:=by simp
   obtain⟨hspec,J3,hmem,jF⟩:=hrun.H8 Kh hQ.uniq Jy hfr
   generalize hds:ds++List.replicate (ops.size-dX ops) (⟨.aO [],[],[],fun _ _=>false⟩:eu)=Lv at *
   have hI:iU ops (masks [] ops.toList) (Lv.map (·.v)) {st with mem:=st.mem++bu (60+ops.size)} {st with mem:=st.mem++bu (60+ops.size)} (Array.replicate ops.size false):=
    ⟨by simp,rfl,rfl,rfl,fun j _ _ _ hj=>(by rw[hgd] at hj;cases hj),fun _ _=>rfl,fun i _ hi=>(by rw[hgd] at hi;cases hi)⟩
   have hM:gj Lv (st.mem++bu (60+ops.size)) (fun j=>(Array.replicate ops.size false).getD j false=true) (st.mem++bu (60+ops.size)):=gj.nil fun j q=>by rw[hgd] at q;cases q
   have Hr:=hs1.drew (w.drawn+1)
   obtain⟨g',a',w',r1,r2,r3,r4,r5,r6⟩:=DL (P:=P) (E:=E) (b:=b) (k:=cg k) cs hQ hL hspec Ki ops.size (w.tape w.drawn (.order b.fn aU)) (Array.replicate ops.size false) {st with mem:=st.mem++bu (60+ops.size)} a g _ (List.range ops.size) hI hM Hr (by simp) (fun i hi _=>List.mem_range.2 hi) (fun i _=>hgd i)
   obtain⟨t1,t2⟩:=r3.rel.trim hfree
   have hlen:DD.mem.length=st.mem.length+(60+ops.size):=by rw[hmem,iH];simp[bu]
   have jF:DD.fix=st.fix:=jF
   refine⟨g',a',w',?_,r2,⟨r3.tm,r3.nt,t1,?_,r3.ct⟩,?_,r5,jF,r6⟩
   · refine .head stepR_region_draw ?_
     have BQ:Region.schedule (P.follows .mixedOrders) ops (w.tape w.drawn (.order b.fn aU))=Region.linearise.go .any ops ops.size (w.tape w.drawn (.order b.fn aU)) (Array.replicate ops.size false) []:=by
      simp only[Region.schedule,Fw,if_true,Region.linearise]
     rw[BQ]
     unfold eT
     unfold dX at r1
     cases wD:mR ops with
     |false=>
      rw[wD] at r1
      simp only[cond_false,Nat.sub_self,List.range'_zero] at r1 ⊢
      exact r1.trans (.one stepR_region_end)
     |true=>
      rw[wD] at r1
      simp only[cond_true] at r1 ⊢
      exact r1
   · have:=hs.fix
     show DD.fix≤(DD.mem.take nx).length
     rw[List.length_take,jF]
     omega
   · have hst:bO g (st.mem++bu (60+ops.size)) w g (st.mem++bu (60+ops.size)) {w with drawn:=w.drawn+1}:=⟨Nat.le_refl _,fun _ _ _=>rfl,fun _ _ h=>⟨h,rfl⟩,fun _ _ h=> .inl h,fun _ h=> .inl h,rfl,rfl,rfl⟩
     exact((Ht.trans hst).trans r4).trans t2
 · cases h
def ow (s t:St):Prop:=s.nt=t.nt∧s.fix=t.fix∧s.mem=t.mem ∧ ∀k,look s.tm k=look t.tm k
theorem ow.refl (s:St):ow s s:=⟨rfl,rfl,rfl,fun _=>rfl⟩
theorem sX {a b:mO} : ∀{l:List Nat},Ds a b l=true → ∀k∈l,look a k=look b k
 |[],_,k,h=>by cases h
 |x::r,h,k,hk=>by
  simp only[Ds,Bool.and_eq_true] at h
  rcases List.mem_cons.1 hk with rfl | hk
  · exact gF h.1
  · exact sX h.2 k hk
theorem m8 : ∀{a:mO} {k:Nat},k∉a.map (·.1)→look a k = .ah
 |[],_,_=>rfl
 |(j,v)::r,k,h=>by
  simp only[List.map_cons,List.mem_cons,not_or] at h
  simp only[look]
  cases hb:Nat.beq j k with
  |true=>exact absurd (Nat.eq_of_beq_eq_true hb).symm h.1
  |false=>exact m8 h.2
theorem Aq {s t:St} (h:E4 s t=true):ow s t:=by
 simp only[E4,Bool.and_eq_true] at h
 obtain⟨h1,h2,h3,h4⟩:=h
 refine⟨Nat.eq_of_beq_eq_true h1,Nat.eq_of_beq_eq_true h2,gX h3,fun k=> ?_⟩
 by_cases hk:k∈s.tm.map (·.1)++t.tm.map (·.1)
 · exact sX h4 k hk
 · rw[List.mem_append,not_or] at hk
   rw[m8 hk.1,m8 hk.2]
def Has (l:List Pt) (q:Pt):Prop:= ∃p∈l,p.1=q.1∧ow q.2 p.2
theorem sY {q:Pt} : ∀{l:List Pt},vE q l=true→Has l q
 |[],h=>by cases h
 |p::r,h=>by
  simp only[vE,Bool.or_eq_true] at h
  rcases h with h | h
  · simp only[HA,Bool.and_eq_true] at h
    exact⟨p,.head _,(Array.toList_inj.1 (pG h.1)).symm,Aq h.2⟩
  · obtain⟨x,h1,h2⟩:=sY h
    exact⟨x,.tail _ h1,h2⟩
theorem sZ {q:Pt} {l:List Pt}:Has (vF q l) q ∧ ∀x∈l,x∈vF q l:=by
 unfold vF
 cases h:vE q l with
 |true=>exact⟨sY h,fun _ hx=>hx⟩
 |false=>exact⟨⟨q,.head _,rfl,ow.refl _⟩,fun _ hx=> .tail _ hx⟩
theorem Has.mono {l l':List Pt} {q:Pt} (h:Has l q) (hl : ∀x∈l,x∈l'):Has l' q:=by
 obtain⟨p,h1,h2⟩:=h
 exact⟨p,hl p h1,h2⟩
theorem nZ {f:FuncId} {ops:Array Oper} {q:Pt} : ∀{is:List Nat} {l l':List Pt},lR P E f ops q is l=some l' →
  (∀x∈l,x∈l') ∧ ∀i∈is,∃st,yX P E f ops i q.2=some st∧Has l' (q.1.setIfInBounds i true,st)
 |[],l,l',h=>by
  simp only[lR,Option.some.injEq] at h
  subst h
  exact⟨fun _ hx=>hx,fun i hi=>by cases hi⟩
 |i::r,l,l',h=>by
  simp only[lR] at h
  split at h
  · rename_i st hst
    obtain⟨h1,h2⟩:=nZ h
    obtain⟨k1,k2⟩:=sZ (q:=(q.1.setIfInBounds i true,st)) (l:=l)
    refine⟨fun x hx=>h1 x (k2 x hx),fun j hj=> ?_⟩
    rcases List.mem_cons.1 hj with rfl | hj
    · exact⟨st,hst,k1.mono h1⟩
    · exact h2 j hj
  · cases h
theorem kg {f:FuncId} {ops:Array Oper} : ∀{l acc l':List Pt},level P E f ops l acc=some l' →
  (∀x∈acc,x∈l') ∧ ∀q∈l,(Region.ready .any ops q.1=[]→Has l' q) ∧ ∀i∈Region.ready .any ops q.1,∃st,yX P E f ops i q.2=some st∧Has l' (q.1.setIfInBounds i true,st)
 |[],acc,l',h=>by
  simp only[level,Option.some.injEq] at h
  subst h
  exact⟨fun _ hx=>hx,fun q hq=>by cases hq⟩
 |q::r,acc,l',h=>by
  simp only[level] at h
  split at h
  · rename_i hr
    obtain⟨h1,h2⟩:=kg h
    obtain⟨k1,k2⟩:=sZ (q:=q) (l:=acc)
    refine⟨fun x hx=>h1 x (k2 x hx),fun p hp=> ?_⟩
    rcases List.mem_cons.1 hp with rfl | hp
    · exact⟨fun _=>k1.mono h1,fun i hi=>by rw[hr] at hi;cases hi⟩
    · exact h2 p hp
  · rename_i hr
    split at h
    · rename_i l1 hn
      obtain⟨h1,h2⟩:=kg h
      obtain⟨k1,k2⟩:=nZ hn
      refine⟨fun x hx=>h1 x (k1 x hx),fun p hp=> ?_⟩
      rcases List.mem_cons.1 hp with rfl | hp
      · refine⟨fun e=>absurd e hr,fun i hi=> ?_⟩
        obtain⟨st,q1,q2⟩:=k2 i hi
        exact⟨st,q1,q2.mono h1⟩
      · exact h2 p hp
    · cases h
theorem ow.trans {a b c:St} (h:ow a b) (k:ow b c):ow a c:=⟨h.1.trans k.1,h.2.1.trans k.2.1,h.2.2.1.trans k.2.2.1,fun x=>(h.2.2.2 x).trans (k.2.2.2 x)⟩
theorem bn.like {g:Gh} {w:World} {st st':St} {a:Act} (h:bn E g st a w) (q:ow st st'):bn E g st' a w:=h.same q.2.2.1 q.1 q.2.1 q.2.2.2
theorem mz {f:FuncId} {ops:Array Oper} : ∀(n:Nat) {l l':List Pt},levels P E f ops n l=some l' → ∀q∈l,Region.ready .any ops q.1=[]→Has l' q
 |0,l,l',h,q,hq,_=>by
  simp only[levels,Option.some.injEq] at h
  subst h
  exact⟨q,hq,rfl,ow.refl _⟩
 |n+1,l,l',h,q,hq,hr=>by
  simp only[levels] at h
  split at h
  · rename_i l1 hl
    obtain⟨p,h1,h2,h3⟩:=(((kg hl).2 q hq).1 hr)
    obtain⟨x,k1,k2,k3⟩:=mz n h p h1 (by rw[h2];exact hr)
    exact⟨x,k1,k2.trans h2,h3.trans k3⟩
  · cases h
theorem BT {b:Frame} {k:List Item} {f:FuncId} {ops:Array Oper} : ∀(n:Nat) (l l':List Pt),levels P E f ops n l=some l' → ∀(q:Pt),q∈l → ∀(t:Nat) (a:Act) (g:Gh) (w:World),bn E g q.2 a w →
  ∃st'∈l'.map (·.2),∃g' a' w',(∀cs,Steps P (lone (b.atR a (.inRegion ops (Region.linearise.go .any ops n t q.1 [])::k)) cs w) (lone (b.atR a' (.inRegion ops []::k)) cs w'))∧a'.defers=a.defers∧bn E g' st' a' w' ∧
   bO g q.2.mem w g' st'.mem w'∧aP g g' q.2.fix∧st'.fix=q.2.fix ∧ ∀i c,g.aN i=some c→g'.aN i=some c
 |0,l,l',h,q,hq,t,a,g,w,hs=>by
  simp only[levels,Option.some.injEq] at h
  subst h
  exact⟨q.2,List.mem_map.2 ⟨q,hq,rfl⟩,g,a,w,fun cs=>Steps.refl _ _,rfl,hs,bO.refl _ _ _,aP.refl _ _,rfl,fun _ _ q=>q⟩
 |n+1,l,l',h,q,hq,t,a,g,w,hs=>by
  have h0:=h
  simp only[levels] at h
  split at h
  · rename_i l1 hl
    simp only[Region.linearise.go]
    show ∃st'∈l'.map (·.2),∃g' a' w',(∀cs,Steps P (lone (b.atR a (.inRegion ops (match(Region.ready .any ops q.1)[t%(Region.ready .any ops q.1).length]? with
     |some i=>Region.linearise.go .any ops n (t / (Region.ready .any ops q.1).length) (q.1.setIfInBounds i true) [i]
     |none=>[].reverse)::k)) cs w) (lone (b.atR a' (.inRegion ops []::k)) cs w'))∧_
    obtain⟨_,k2⟩:=(kg hl).2 q hq
    cases hr:(Region.ready .any ops q.1)[t%(Region.ready .any ops q.1).length]? with
    |none=>
     have BM:Region.ready .any ops q.1=[]:=by
      cases hz:Region.ready .any ops q.1 with
      |nil=>rfl
      |cons x xs=>
       rw[hz] at hr
       have hlt:t%(x::xs).length<(x::xs).length:=Nat.mod_lt _ (by simp)
       rw[List.getElem?_eq_getElem hlt] at hr;cases hr
     obtain⟨p,p1,p2,p3⟩:=mz (n+1) h0 q hq BM
     exact⟨p.2,List.mem_map.2 ⟨p,p1,rfl⟩,g,a,w,fun cs=>Steps.refl _ _,rfl,hs.like p3,by rw[←p3.2.2.1];exact bO.refl _ _ _,aP.refl _ _,p3.2.1.symm,fun _ _ q=>q⟩
    |some i=>
     dsimp only
     rw[linearise_go_acc,List.reverse_singleton,List.singleton_append]
     obtain⟨st,he,p,p1,p2,p3⟩:=k2 i (List.mem_of_getElem? hr)
     have p2:p.1=q.1.setIfInBounds i true:=p2
     have p3:ow st p.2:=p3
     unfold yX at he
     split at he
     · cases he
     · rename_i o ho
       split at he
       · rename_i hw
         dsimp only at he
         split at he
         · rename_i v us ok hop
           cases hok:(ok&&fits q.2 o.dst) with
           |false=>rw[hok] at he;cases he
           |true=>
            rw[hok] at he
            simp only[cond_true,Option.some.injEq] at he
            subst he
            simp only[Bool.and_eq_true] at hok
            obtain⟨rfl,hf⟩:=hok
            have fj:=(kf hs (ops:=ops) (o:=o)).1 hw
            have hres:Rel g (reserve o q.2.mem) w∧bO g q.2.mem w g (reserve o q.2.mem) w:=by
             unfold reserve
             cases makes o with
             |true=>exact hs.rel.reserve
             |false=>exact⟨hs.rel,bO.refl _ _ _⟩
            have hfree:makes o=true→(reserve o q.2.mem)[q.2.mem.length]? = some .free:=by
             intro hm
             simp[reserve,hm]
            obtain⟨cv,w1,g1,k1,k2,k3,k4,k5⟩:=ke hres.1 (dQ hs) (fun _=>rfl) hfree hop
            have iO:q.2.fix≤(apply (reserve o q.2.mem) us).length:=by
             rw[cB]
             have:=hs.fix
             unfold reserve
             cases makes o<;>simp<;>omega
            have hs1:=(hs.put hf k2 k4 k3 iO).like p3
            have hm:p.2.mem=apply (reserve o q.2.mem) us:=by rw[←p3.2.2.1,nV]
            have hx:p.2.fix=q.2.fix:=by rw[←p3.2.1];cases o.dst<;>rfl
            obtain⟨Mn,r0,g2,a2,w2,r1,r2,r3,r4,r5,r6,r7⟩:=BT (b:=b) (k:=k) n l1 l' h p p1 (t / (Region.ready .any ops q.1).length) _ _ _ hs1
            rw[hm] at r4
            rw[hx] at r5 r6
            rw[p2] at r1
            exact⟨Mn,r0,g2,a2,w2,fun cs=> .head (mj ho fj k1) (r1 cs),r2.trans put_defers,r3,(hres.2.trans k5).trans r4,(aP.me k4 _).trans r5,r6,fun i c q=>r7 i c (k4.aN i c q).1⟩
         · cases he
       · cases he
  · cases h
theorem DN {g:Gh} {w:World} {b:Frame} {a:Act} {k:List Item} {ops:Array Oper} {f aU:Nat} {st:St} {Kj:List St} (hs:bn E g st a w) (h:ug P E f ops st=some Kj) :
  ∃st'∈Kj,∃g' a' w',(∀cs,Steps P (lone (b.atR a (.code (.region aU ops true)::k)) cs w) (lone (b.atR a' k) cs w'))∧a'.defers=a.defers∧bn E g' st' a' w' ∧
   bO g st.mem w g' st'.mem w'∧aP g g' st.fix∧st'.fix=st.fix ∧ ∀i c,g.aN i=some c→g'.aN i=some c:=by
 unfold ug at h
 cases hc:((Bl ops||Bm P ops)&&(P.follows .mixedOrders || !Region.departs ops)) with
 |false=>rw[hc] at h;cases h
 |true=>
  rw[hc] at h
  simp only[cond_true,Option.map_eq_some_iff] at h
  simp only[Bool.and_eq_true] at hc
  obtain⟨l',h1,rfl⟩:=h
  obtain⟨st',h2,g',a',w',r1,r2,r3,r4,r5,r6,r7⟩:=BT (b:=b) (k:=k) _ _ _ h1 (Array.replicate ops.size false,st) (.head _) (w.tape w.drawn (.order b.fn aU)) a g _ (hs.drew (w.drawn+1))
  refine⟨st',h2,g',a',w',fun cs=> ?_,r2,r3,?_,r5,r6,r7⟩
  · refine .head stepR_region_draw ?_
    have BQ:Region.schedule (P.follows .mixedOrders) ops (w.tape w.drawn (.order b.fn aU))=Region.linearise.go .any ops ops.size (w.tape w.drawn (.order b.fn aU)) (Array.replicate ops.size false) []:=by
     simp only[Region.schedule,hc.2,if_true,Region.linearise]
    rw[BQ]
    exact(r1 cs).trans (.one stepR_region_end)
  · have hst:bO g st.mem w g st.mem {w with drawn:=w.drawn+1}:=⟨Nat.le_refl _,fun _ _ _=>rfl,fun _ _ h=>⟨h,rfl⟩,fun _ _ h=> .inl h,fun _ h=> .inl h,rfl,rfl,rfl⟩
    exact hst.trans r4
end
end Go.Am
end
