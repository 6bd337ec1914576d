import Derived.Test.YtncncijedmfpjaaGreatDoorMD
import Derived.Laws.Externs
import Derived.KernelRfl
import Derived.Orders
open Go.Deferred renaming ofValue→vz
open Go.Sem renaming run_bind→jb,run_pure→jn
open Go.Result renaming andThen_ok→j1
open Bool renaming and_eq_true→di,false_eq_true→o0,or_eq_true→iu,not_eq_true'→iv,false_or→pb,not_true→wc
open Go.Region renaming ready→wx,wanted→vt,schedule→wy,binds→xa,linearise→xb
open Go.Frame renaming finish_atR→xc,atR→xf
open Array renaming getD_eq_getD_getElem?→vd,replicate→xi,getElem?_eq_some_iff→xn,getElem?_eq_none→xo,toList_map→hP,toList_append→xr,getElem?_eq_getElem→gl,getElem?_replicate→xv,empty_append→yb
open Option.some renaming injEq→dk
open List renaming range'→ui,getElem?_eq_getElem→da,getElem?_eq_some_iff→dT,mem_append_right→ye,getElem?_append_left→nz,mem_append_left→yi,getD_eq_getElem?_getD→de,getElem?_cons_zero→mf,map_congr_left→yn,mem_cons→yo,getElem?_append_right→yr,mem_of_getElem?→mv,reverse_singleton→yv,map_cons→s0,singleton_append→zd,getElem?_take→dq,getElem?_cons_succ→mi,getElem?_replicate→zr,mem_range'_1→zt,replicate→db,eq_nil_of_length_eq_zero→Fs,take_append_of_le_length→np,mem_append→na,mem_map→fb,length_erase_of_mem→Ha,range'_zero→Hb,append_nil→Hc,getElem?_eq_none→eb,mem_erase_of_ne→Hd,getElem?_map→ek,map_toArray→sT,mem_toArray→Hk,all_eq_true→a6,length_take→eh,nil_append→Hm,mem_range→Hn,toArray→tc,map_nil→ta,range→fe
open Nat renaming testBit→cp,eq_of_beq_eq_true→be,lt_or_ge→ft,not_lt_zero→ss,le_of_ble_eq_true→fg,le_refl→c9,lt_trichotomy→H0,beq_refl→sm,sub_self→H2,strongRecOn→H3,mod_lt→pw,add_assoc→fw,add_comm→H4,beq→ba,zero_le→H5
open Prod.mk renaming injEq→ja
open Go.Op renaming operands→If
open Go.Region.linearise renaming go→Lk
open Go.Steps renaming refl→M2
open Option renaming bind_some→sg,map_some→ie
section
namespace Go.Am
open Go.RowKit
section
variable {P:Program} {E:Env} {g:Gh} {w:World}
theorem eK : ∀(us:oX) (m:Mem),(apply m us).length=m.length
 |[],_=>rfl
 |(i,b)::us,m=>by simp[apply,eK us]
def C8 (P:Program) (E:Env) (g:Gh) (c:cm) (fr:Frame) (w:World) (l:List cm):Prop:=
 ∀cs,∃c'∈l,∃g' fr' w',Steps P (lone fr cs w) (lone fr' cs w')∧dI P E g' c' fr' w'∧dF g c.st.mem w g' c'.st.mem w'∧bZ g g' c.st.fix∧c'.f=c.f∧c'.st.fix=c.st.fix∧c'.st.cL=c.st.cL
def C9 (P:Program) (E:Env) (g:Gh) (c:cm) (fr:Frame) (w:World):Ev→Prop
 |.next c'=>eZ P E g c fr w c'
 |.must b c'=>b=true→eZ P E g c fr w c'
 |.test b y z=>(b=true→eZ P E g c fr w y)∧(b=false→eZ P E g c fr w z)
 |.call f args m ord dst c'=>(∀v m1,az P E f args m v m1→eZ P E g c fr w {c' with st:=back ord dst c'.st v m1}) ∧ ∀u m1,OL P E f args m u m1→eZ P E g c fr w (nT ord c' u m1)
 |.late f args m ord pv c'=> ∀m1,ON P E f args m pv m1→eZ P E g c fr w {c' with st:=back ord none c'.st (.aK []) m1}
 |.round args m ord dst c'=> ∀v m1,JY P E args m v m1→eZ P E g c fr w {c' with st:=back ord dst c'.st v m1}
 |.range f args m ord L c'=> ∀v m1,az P E f args m v m1 → ∀m2 pd,gz (back ord none c'.st v m1).mem L=some (m2,pd)→eZ P E g c fr w (behind c' m2 pd)
 |.draw cK ops c'=> ∀(O:FuncId→List AV→Mem→Option (AV×Mem)) (st':St),(∀g args m v m1,O g args m=some (v,m1)→az P E g args m v m1)→kj P E c'.f cK O ops c'.st=some (st',true) →
    eZ P E g c fr w {c' with st:={st' with cT:=c'.st.cT,cL:=c'.st.cL}}
 |.fork l=>C8 P E g c fr w l
 |.done (.ret v m')=>fr.fn=c.f∧m'=c.st.mem ∧ ∃cv w2,OK P c.st.cL fr w cv w2∧VA g w2 v cv∧Rel g m' w2∧dF g m' w g m' w2∧c.st.fix≤m'.length
 |.done (.zY v m')=>fr.fn=c.f∧m'=c.st.mem ∧ ∃cv,fr.leaving P w (.panicked [{v:=cv,recovered:=false}])∧VA g w v cv∧Rel g m' w∧c.st.fix≤m'.length
 |.fail=>True
theorem nf {x:It} {k:List It} (hx:It.pl x) (hk : ∀y∈k,It.pl y) : ∀y∈x::k,It.pl y:=by
 intro y hy
 cases hy with
 |head=>exact hx
 |tail _ hy=>exact hk y hy
theorem dI.mk {c:cm} {b:Frame} {a:Act} (hnf : ∀x∈c.todo,It.pl x) (h1:b.fn=c.f) (h2:eT g c.st.cL b) (h3:Mk g c.st.cT a.defers) (h4:cU E g c.st a w):dI P E g c (b.atR a (eu c.todo)) w:=by
 unfold dI
 split
 · rename_i hk;exact absurd (hnf _ (by rw[hk];exact .head _)) id
 · rename_i hk;exact absurd (hnf _ (by rw[hk];exact .head _)) id
 · rename_i hk;exact absurd (hnf _ (by rw[hk];exact .head _)) id
 · rename_i hk;exact absurd (hnf _ (by rw[hk];exact .head _)) id
 · exact⟨b,a,rfl,h1,h2,h3,h4,hnf⟩
theorem eZ.quiet {c c':cm} {b:Frame} {a:Act} {fr:Frame} (hst : ∀cs,Steps P (lone fr cs w) (lone (b.atR a (eu c'.todo)) cs w))
  (hnf : ∀x∈c'.todo,It.pl x) (h1:b.fn=c.f) (hf:c'.f=c.f) (h2:eT g c'.st.cL b) (h3:Mk g c'.st.cT a.defers) (h4:cU E g c'.st a w) (hm:c'.st.mem=c.st.mem) (hx:c'.st.fix=c.st.fix) (hr:c'.st.cL=c.st.cL:=by rfl):eZ P E g c fr w c':=by
 intro cs
 exact⟨g,_,w,hst cs,dI.mk hnf (h1.trans hf.symm) h2 h3 h4,by rw[hm];exact dF.refl _ _ _,bZ.refl _ _,hf,hx,hr⟩
theorem put_defers {a:Act} {d:Option Tmp} {v:Value}:(a.put d v).defers=a.defers:=by cases d<;>rfl
theorem YQ {st:St} {d:Option Tmp} {v:AV}:(Am.put st d v).cT=st.cT:=by cases d<;>rfl
theorem jP {st:St} {d:Option Tmp} {v:AV}:(Am.put st d v).cL=st.cL:=by cases d<;>rfl
theorem eT.put {g g':Gh} {w w':World} {st st':St} {b:Frame} {d:Option Tmp} {u:AV} (h:eT g st.cL b) (e:Ext g w g' w') (hm:st'.cL=st.cL):eT g' (Am.put st' d u).cL b:=by
 rw[jP,hm]
 exact h.ext fun i c q=>(e.bX i c q).1
theorem Mk.put {g g':Gh} {w w':World} {st st':St} {a:Act} {d:Option Tmp} {v:Value} {u:AV} (h:Mk g st.cT a.defers) (e:Ext g w g' w') (hm:st'.cT=st.cT):Mk g' (Am.put st' d u).cT (a.put d v).defers:=by
 rw[put_defers,YQ,hm]
 exact h.ext fun i c q=>(e.bX i c q).1
theorem xh {a:Act} {o:Oper} {c:Call} {x:Operand} {f:FuncId} {fa ca:Array Value} (ho:o.op = .call c) (hc:c.callee = .value x) (hx:a.eval x = .func (.func f) fa ca)
  {fn:Func} (hf:P.funcs[f]? = some fn) (hb:fn.body.isSome=true) (hn:(fn.name == "runtime.NumGoroutine")=false) :
  (execOp a.eval o).run P w = .ok (.enter f (fa++c.args.map a.eval++ca)) w:=by
 have hbn:fn.body.isNone=false:=by cases hq:fn.body<;>simp_all
 simp only[execOp,ho,resolve,hc,hx,vz,jb,jn,j1,invoke,callFunc,run_program,hf,hn,o0,if_false,hbn]
theorem Ie {b:Frame} {a:Act} {k:List Item} {cs:List Frame} {w':World} {ops:Array Oper} {i:Nat} {rest:List Nat} {o:Oper} {l:Nat} {f:FuncId} {tmps:Array Value} {as bd:Code} (ho:ops[i]? = some o)
  (hw:vt o (yielded ops a.tmps)=true) (hr:(execOp a.eval o).run P w = .ok (.round l f tmps as bd) w') :
  _root_.Go.step P (lone (b.atR a (.inRegion ops (i::rest)::k)) cs w) = .next (lone (Frame.round l f tmps as bd .normal) (b.atR a (.inRegion ops (i::rest)::k)::cs) w'):=by
 have hg:=stepGR_op (P:=P) (b:=b) (k:=k) (cs:=cs) (w:=w) (rest:=rest) ho hw
 exact step_lone_go (by rw[hg,semAt_eq hr fun _ e=>by cases e];simp[stepG.apply,hr,xf])
theorem At {a:Act} {o:Oper} {c:Call} {x:Operand} {l:Nat} (ho:o.op = .call c) (hc:c.callee = .value x) (hx:a.eval x = .func (.yield l) #[] #[]) {n:Next} {w':World}
  (hy:(Instr.yield l (c.args.map a.eval)).run P w = .ok n w'):(execOp a.eval o).run P w = .ok n w':=by
 simp only[execOp,ho,resolve,hc,hx,vz,jb,jn,j1,invoke,callFunc,yb]
 exact hy
theorem OO {st:St} {a:Act} {b:Frame} {k:List Item} {ops:Array Oper} {i:Nat} {rest:List Nat} {o:Oper} {args:List AV} {v:AV} {m1:Mem}
  (hs:cU E g st a w) (hd:Mk g st.cT a.defers) (hb:eT g st.cL b) (ho:ops[i]? = some o) (hw:vt o (yielded ops a.tmps)=true) (ht:vG (ev E st.tm) o=some args)
  (hf:fits st o.dst=true) (hlt:ji (close st.mem 0 args) st.mem.length=true)
  (fJ:JY P E (eR (idx (close st.mem 0 args)) args) (pack st.mem (close st.mem 0 args)) v m1) :
  ∀cs,∃g' a' w',Steps P (lone (b.atR a (.inRegion ops (i::rest)::k)) cs w) (lone (b.atR a' (.inRegion ops rest::k)) cs w') ∧
   Mk g' (back (close st.mem 0 args) o.dst st v m1).cT a'.defers∧eT g' (back (close st.mem 0 args) o.dst st v m1).cL b∧cU E g' (back (close st.mem 0 args) o.dst st v m1) a' w' ∧
   dF g st.mem w g' (back (close st.mem 0 args) o.dst st v m1).mem w'∧bZ g g' st.fix∧(back (close st.mem 0 args) o.dst st v m1).fix=st.fix:=by
 intro cs
 have HI:=gD hs
 unfold vG at ht
 split at ht
 · rename_i call hop
   split at ht
   · rename_i x Au
     split at ht
     · rename_i bl hx
       simp only[dk] at ht
       subst ht
       have Ao:=HI x
       rw[hx] at Ao
       generalize hcx:a.eval x=cx at Ao
       cases Ao with
       |vy _ l hl=>
        have hin:bl∈close st.mem 0 (.vy bl::call.args.toList.map (ev E st.tm)):=by
         obtain⟨_,t,h2⟩:=ep (iG (.vy bl::call.args.toList.map (ev E st.tm))) (upTo 0) (kE 0)
         obtain⟨_,t',h4⟩:=mU st.mem (st.mem.length+1) (iL (upTo 0) (iG (.vy bl::call.args.toList.map (ev E st.tm)))) 0 (ep _ _ (kE 0)).1
         unfold close
         rw[h4]
         refine yi _ ?_
         show bl∈iL [] (bl::iG (call.args.toList.map (ev E st.tm)))
         simp only[iL,has,cond_false,Hm]
         obtain⟨_,t2,h5⟩:=ep (iG (call.args.toList.map (ev E st.tm))) [bl] (by simp)
         rw[h5]
         exact yi _ (by simp)
        have hargs:dj g w (call.args.toList.map (ev E st.tm)) (call.args.map a.eval).toList:=by
         rw[hP];exact gS HI _
        generalize hxs:call.args.toList.map (ev E st.tm)=xs at *
        obtain⟨hnd,_⟩:=fo st.mem 0 (.vy bl::xs)
        generalize close st.mem 0 (.vy bl::xs)=ord at *
        obtain⟨OI,OJ⟩:=hs.rel.pack hnd
        have mW:=dG.pack g ord
        obtain⟨j,hj1,hj2⟩:=List.getElem_of_mem hin
        have hoj:ord[j]? = some bl:=by rw[da hj1,hj2]
        have hidx:idx ord bl=some j:=qE hnd hoj
        have hra:eR (idx ord) (.vy bl::xs) = .vy j::eR (idx ord) xs:=by simp only[eR,Am.iH,hidx]
        have hbj:(g.pack ord).bX j=some l:=by simp[Gh.pack,hoj,hl]
        obtain⟨f,tmps,as,bd,w',g',cv,y,q1,q4,q5,q6,q7,q8⟩:=fJ (g.pack ord) w j l (eR (idx ord) xs) (call.args.map a.eval) (b.atR a (.inRegion ops (i::rest)::k)) cs hra OI hbj
         (dj.iH mW hargs) (hs.ec.mono fun _ _ p=>⟨p,rfl⟩)
        have hlen:(Am.pack st.mem ord).length=ord.length:=by simp[Am.pack]
        rw[hlen] at q7 q8
        obtain⟨r1,r2,r3,r4⟩:=hs.rel.back hnd (gh hlt) q5 q6 q7 q8
        have hstep:=Ie (b:=b) (k:=k) (cs:=cs) (rest:=rest) ho hw (At hop Au hcx y)
        have ow:(b.atR a (.inRegion ops (i::rest)::k)).finish cv=b.atR (a.put o.dst cv) (.inRegion ops rest::k):=by rw[xc,ho];rfl
        rw[ow] at q1
        have nw:st.fix≤(dD (bM ord st.mem.length) ord m1 st.mem).length:=by
         rw[ez _ _ _ _ q8];have:=hs.fix;omega
        refine⟨_,a.put o.dst cv,w',.head hstep q1,hd.put (st':={st with mem:=_}) r2 rfl,hb.put (st':={st with mem:=_}) r2 rfl,hs.put hf (q4.iH r4) r2 r1 nw,?_,bZ.rP r2 _,?_⟩
        · have:(back ord o.dst st v m1).mem=dD (bM ord st.mem.length) ord m1 st.mem:=by
           unfold back Am.put;cases o.dst<;>rfl
          rw[this];exact r3
        · unfold back Am.put;cases o.dst<;>rfl
     · cases ht
   · cases ht
 · cases ht
theorem LK {f:FuncId} (h:JK P f=true) (x:Value):(callFunc f #[x]).run P w = .ok (.value x) w:=by
 unfold JK at h
 split at h
 · rename_i fn hf
   simp only[di] at h
   obtain⟨h1,h2,h3⟩:=h
   have h2:=of_decide_eq_true h2
   have h3:=of_decide_eq_true h3
   have hn:(fn.name == "runtime.NumGoroutine")=false:=by rw[h2];decide
   have q1:Extern.findNext fn=none:=by
    simp only[Extern.findNext,h2,h3]
    kernel_rfl
   have q2:Extern.find fn=some Extern.AbiNoEscape.same:=by
    simp only[Extern.find,h2,h3]
    kernel_rfl
   rw[run_callFunc_extern hf hn h1 q1 q2]
   rfl
 · cases h
theorem E5 {ρ:Operand→AV} {cQ:Operand→Value} (hr : ∀x,VA g w (ρ x) (cQ x)) {o:Oper} {v:AV} (h:Of P ρ o=some v) : ∃cv,(execOp cQ o).run P w = .ok (.value cv) w∧VA g w v cv:=by
 unfold Of at h
 split at h
 · rename_i c ho
   split at h
   · rename_i f x hc ha
     have kS:c.args = #[x]:=by have:=congrArg tc ha;simpa using this
     split at h
     · rename_i q hq
       cases he:JK P q with
       |false=>rw[he] at h;cases h
       |true=>
        rw[he] at h
        simp only[cond_true,dk] at h
        subst h
        have hf:=hr f
        rw[hq,VA.fns] at hf
        obtain⟨fa,ca,hcf,q1,q2⟩:=hf
        have e1:fa = #[]:=by cases fa with | mk l=>cases l with | nil=>rfl | cons _ _=>exact q1.elim
        have e2:ca = #[]:=by cases ca with | mk l=>cases l with | nil=>rfl | cons _ _=>exact q2.elim
        subst e1;subst e2
        refine⟨cQ x,?_,hr x⟩
        simp only[execOp,ho,resolve,hc,hcf,kS,vz,jb,jn,j1,invoke,sT,s0,ta,Array.append_empty,yb]
        exact LK he _
     · cases h
   · cases h
 · cases h
theorem E6 {v:AV} {cv:Value} (h:AT v=true) (hv:VA g w v cv) : ∃t x,cv = .iface t x:=by
 cases hv with
 |nL t v cv h=>exact⟨t,cv,rfl⟩
 |p v cv h'=>cases h' with
  |nL t v cv h=>exact⟨t,cv,rfl⟩
  |_=>cases h
 |_=>cases h
theorem Ig {b:Frame} {a:Act} {k:List Item} {cs:List Frame} {ops:Array Oper} {i:Nat} {rest:List Nat} {o:Oper} {v:Value} (ho:ops[i]? = some o) (hw:vt o (yielded ops a.tmps)=true)
  (hr:(o.semAt b.roundOf a.eval).run P w = .halt (.panic v) w) :
  _root_.Go.step P (lone (b.atR a (.inRegion ops (i::rest)::k)) cs w) = .next (lone {b.atR a (.inRegion ops (i::rest)::k) with mode:=dw (some v) false} cs w):=by
 have hg:=stepGR_op (P:=P) (b:=b) (k:=k) (cs:=cs) (w:=w) (rest:=rest) ho hw
 refine step_lone_go ?_
 rw[hg]
 simp[stepG.apply,hr,Frame.raise,xf,dw]
theorem ox : ∀{l:List AV} {q:List (Nat×Nat)} {cs:List Value},AS l=some q→dj g w l cs→Mps g q cs
 |[],q,[],h,_=>by
  simp only[AS,dk] at h;subst h;trivial
 |.mp b off::l,q,cv::cs,h,hv=>by
  simp only[AS] at h
  split at h
  · rename_i l' hl
    simp only[dk] at h;subst h
    have h1:=hv.1
    cases h1 with
    |mp _ _ c hc=>exact⟨⟨c,hc,rfl⟩,ox hl hv.2⟩
  · cases h
 |[],_,_::_,_,hv=>hv.elim
 |_::_,_,[],_,hv=>hv.elim
 |.bC::_,_,_::_,h,_ | .p _::_,_,_::_,h,_ | .os .. :: _,_,_::_,h,_ | .ms .. :: _,_,_::_,h,_ | .fn .. :: _,_,_::_,h,_ | .agg _::_,_,_::_,h,_ | .aK _::_,_,_::_,h,_
 |.nL .. :: _,_,_::_,h,_ | .vm _::_,_,_::_,h,_ | .vy _::_,_,_::_,h,_=>by cases h
theorem OP {c:cm} {b:Frame} {a:Act} {k0:List It} {ops:Array Oper} {i cK:Nat} {o:Oper} (hs:cU E g c.st a w) (xj:b.fn=c.f) (hbk:eT g c.st.cL b) (hd:Mk g c.st.cT a.defers)
  (ho:ops[i]? = some o) (hw:vt o (yielded ops a.tmps)=true) (YR : ∀x∈k0,It.pl x) :
  C9 P E g c (b.atR a (.inRegion ops (i::ui (i+1) (ops.size-(i+1)))::eu k0)) w (Og E c o (.ops cK ops (i+1) false::k0)):=by
 have HI:=gD hs
 have throw : ∀(x:Operand),AT (ev E c.st.tm x)=true→(∀v,a.eval x=v→(∃t y,v = .iface t y)→(o.semAt b.roundOf a.eval).run P w = .halt (.panic v) w) →
   eZ P E g c (b.atR a (.inRegion ops (i::ui (i+1) (ops.size-(i+1)))::eu k0)) w {c with todo:=[.ir (ev E c.st.tm x)]}:=by
  intro x hx hrun cs
  have hr:=hrun _ rfl (E6 hx (HI x))
  exact⟨g,_,w,.one (Ig ho hw hr),⟨b,a,_,a.eval x,rfl,xj,hbk,hd,hs,HI x⟩,dF.refl _ _ _,bZ.refl _ _,rfl,rfl,rfl⟩
 unfold Og
 split
 · rename_i x hop
   cases hx:AT (ev E c.st.tm x) with
   |false=>trivial
   |true=>
    refine throw x hx fun v hv ⟨t,y,e⟩=> ?_
    have YS:o.semAt b.roundOf a.eval=execOp a.eval o:=by unfold Oper.semAt;rw[hop];cases b.roundOf<;>rfl
    rw[YS]
    subst hv
    simp only[execOp,hop,e,Instr.panic]
    rfl
 · rename_i d hop
   split
   · rename_i x hc ha
     have kS:d.args = #[x]:=by have:=congrArg tc ha;simpa using this
     cases hx:AT (ev E c.st.tm x) with
     |false=>trivial
     |true=>
      refine throw x hx fun v hv ⟨t,y,e⟩=> ?_
      have YS:o.semAt b.roundOf a.eval=execOp a.eval o:=by unfold Oper.semAt;rw[hop];cases b.roundOf<;>rfl
      rw[YS]
      subst hv
      simp only[execOp,hop,resolve,hc,kS,jb,jn,j1,invoke,sT,s0,ta,e]
      rfl
   · trivial
 · rename_i d hop
   split
   · trivial
   · rename_i f hmk Au xk
     split
     · rename_i gf first captured hf
       split
       · rename_i l m hl hm
         intro hfit cs
         have hvf:=HI f
         rw[hf,VA.fns] at hvf
         obtain⟨fa,ca,hcf,YT,hca⟩:=hvf
         have hro:=hbk.C7 fun i e=>xk i e
         have hrun:(o.semAt b.roundOf a.eval).run P w = .ok (.defer {target:= .fn (.func gf) ca,args:=fa++d.args.map a.eval}) w:=by
          rw[hro]
          simp only[Oper.semAt,execOp,hop,resolve,Au,hcf,vz,jb,jn,j1]
         have hargs:dj g w (first++d.args.toList.map (ev E c.st.tm)) (fa++d.args.map a.eval).toList:=by
          simp only[xr,hP]
          exact YT.append (gS HI _)
         rw[hmk] at hd
         have hds:a.defers=[]:=by
          cases hq:a.defers with
          |nil=>rfl
          |cons _ _=>rw[hq] at hd;exact hd.elim
         have hstep:_root_.Go.step P (lone (b.atR a (.inRegion ops (i::ui (i+1) (ops.size-(i+1)))::eu k0)) cs w) =
          .next (lone (b.atR ({a with defers:=[{target:= .fn (.func gf) ca,args:=fa++d.args.map a.eval}]}.put o.dst undef) (.inRegion ops (ui (i+1) (ops.size-(i+1)))::eu k0)) cs w):=by
          have hg:=stepGR_op (P:=P) (b:=b) (k:=eu k0) (cs:=cs) (w:=w) (rest:=ui (i+1) (ops.size-(i+1))) ho hw
          have ow:({b.atR a (.inRegion ops (i::ui (i+1) (ops.size-(i+1)))::eu k0) with defers:={target:= .fn (.func gf) ca,args:=fa++d.args.map a.eval}::a.defers}:Frame).finish undef =
           b.atR ({a with defers:=[{target:= .fn (.func gf) ca,args:=fa++d.args.map a.eval}]}.put o.dst undef) (.inRegion ops (ui (i+1) (ops.size-(i+1)))::eu k0):=by
           have:=xc b {a with defers:=[{target:= .fn (.func gf) ca,args:=fa++d.args.map a.eval}]} ops i (ui (i+1) (ops.size-(i+1))) (eu k0) undef
           rw[ho] at this
           rw[hds]
           exact this
          refine step_lone_go ?_
          rw[hg]
          simp only[stepG.apply,Sem.runT_eq,hrun,GStep.bare_after]
          exact congrArg (fun fr=>GStep.go {frame:=fr,callers:=cs,status:= .running,dying:=none} w) ow
         have hs':cU E g {c.st with cT:=[.late gf l m]} {a with defers:=[{target:= .fn (.func gf) ca,args:=fa++d.args.map a.eval}]} w:=⟨hs.tm,hs.nt,hs.rel,hs.fix,hs.ec⟩
         have hd':Mk g [.late gf l m] [{target:= .fn (.func gf) ca,args:=fa++d.args.map a.eval}]:=⟨⟨_,_,ox hl hargs,ox hm hca,rfl⟩,trivial⟩
         refine⟨g,_,w,.one hstep,dI.mk (c:={c with todo:= .ops cK ops (i+1) false::k0,st:=put {c.st with cT:=[.late gf l m]} o.dst (.aK [])}) (nf trivial YR) xj
          (hbk.put (st:=c.st) (st':={c.st with cT:=[.late gf l m]}) (Ext.refl g w) rfl)
          (Mk.put (st:={c.st with cT:=[.late gf l m]}) (st':={c.st with cT:=[.late gf l m]}) (a:={a with defers:=[{target:= .fn (.func gf) ca,args:=fa++d.args.map a.eval}]}) hd' (Ext.refl g w) rfl)
          (hs'.put (cv:=undef) (v:= .aK []) (m':=c.st.mem) hfit (VA.mP.2 trivial) (Ext.refl g w) hs.rel hs.fix),?_,bZ.refl _ _,rfl,?_,jP⟩
         · have:(put {c.st with cT:=[.late gf l m]} o.dst (.aK [])).mem=c.st.mem:=by unfold Am.put;cases o.dst<;>rfl
           show dF g c.st.mem w g (put {c.st with cT:=[.late gf l m]} o.dst (.aK [])).mem w
           rw[this];exact dF.refl _ _ _
         · show(put {c.st with cT:=[.late gf l m]} o.dst (.aK [])).fix=c.st.fix
           unfold Am.put;cases o.dst<;>rfl
       · trivial
     · trivial
   · trivial
 · trivial
theorem JZ {c:cm} {b:Frame} {a:Act} {k0:List It} {ops:Array Oper} {i cK:Nat} {o:Oper} (hs:cU E g c.st a w) (xj:b.fn=c.f) (hbk:eT g c.st.cL b) (hd:Mk g c.st.cT a.defers)
  (ho:ops[i]? = some o) (hw:vt o (yielded ops a.tmps)=true) (YR : ∀x∈k0,It.pl x) :
  C9 P E g c (b.atR a (.inRegion ops (ui i (ops.size-i))::eu k0)) w (Oh P E c cK o (.ops cK ops (i+1) false::k0)):=by
 have hi:i<ops.size:=by
  rcases ft i ops.size with q | q
  · exact q
  · rw[xo q] at ho;cases ho
 rw[ou hi]
 unfold Oh
 have HI:=gD hs
 split
 · rename_i f args ht
   split
   · rename_i v ajW
     intro hok cs
     obtain⟨cv,k1,k2⟩:=E5 HI ajW
     have hstep:=rR (b:=b) (k:=eu k0) (cs:=cs) (rest:=ui (i+1) (ops.size-(i+1))) ho hw (.inl k1)
     refine⟨g,_,w,.one hstep,dI.mk (a:=a.put o.dst cv) (c:={c with todo:= .ops cK ops (i+1) false::k0,st:=put {c.st with mem:=c.st.mem} o.dst v}) (nf trivial YR) xj (hbk.put (st':={c.st with mem:=_}) (Ext.refl g w) rfl) (hd.put (st':={c.st with mem:=_}) (Ext.refl g w) rfl) (hs.put hok k2 (Ext.refl g w) hs.rel hs.fix),?_,bZ.refl _ _,rfl,?_,jP⟩
     · have:(put c.st o.dst v).mem=c.st.mem:=(by unfold Am.put;cases o.dst<;>rfl)
       show dF g c.st.mem w g (put c.st o.dst v).mem w
       rw[this];exact dF.refl _ _ _
     · show(put c.st o.dst v).fix=c.st.fix
       unfold Am.put;cases o.dst<;>rfl
   cases hb:(fits c.st o.dst&&ji (close c.st.mem 0 args) c.st.mem.length) with
   |false=>simp only[hb,cond_false];trivial
   |true=>
    simp only[hb,cond_true]
    simp only[di] at hb
    unfold target at ht
    split at ht
    · rename_i call hop
      split at ht
      · rename_i x Au
        split at ht
        · rename_i f' first captured hx
          simp only[dk,ja] at ht
          obtain⟨rfl,rfl⟩:=ht
          have Ao:=HI x
          rw[hx,VA.fns] at Ao
          obtain⟨fa,ca,Ao,YT,hca⟩:=Ao
          have hargs:dj g w (first++call.args.toList.map (ev E c.st.tm)++captured) (fa++call.args.map a.eval++ca).toList:=by
           simp only[xr,hP]
           exact(YT.append (gS HI _)).append hca
          generalize first++call.args.toList.map (ev E c.st.tm)++captured=args at *
          obtain⟨hnd,_⟩:=fo c.st.mem 0 args
          generalize close c.st.mem 0 args=ord at *
          obtain⟨OI,OJ⟩:=hs.rel.pack hnd
          have mW:=dG.pack g ord
          have hlen:(Am.pack c.st.mem ord).length=ord.length:=by simp[Am.pack]
          constructor
          · intro v m1 fJ cs
            obtain⟨⟨fn,TS,TT,TU⟩,fJ⟩:=fJ
            have hrun:=xh (P:=P) (w:=w) hop Au Ao TS TT TU
            obtain⟨w',g',cv,fr,q1,q2,q3,q4,q5,q6,q7,q8⟩:=fJ (g.pack ord) w (fa++call.args.map a.eval++ca) (b.atR a (.inRegion ops (i::ui (i+1) (ops.size-(i+1)))::eu k0)::cs) OI
             (dj.iH mW hargs) (hs.ec.mono fun _ _ p=>⟨p,rfl⟩)
            rw[hlen] at q7 q8
            obtain⟨r1,r2,r3,r4⟩:=hs.rel.back hnd (gh hb.2) q5 q6 q7 q8
            have hstep:=qF (b:=b) (k:=eu k0) (cs:=cs) (rest:=ui (i+1) (ops.size-(i+1))) ho hw hrun
            have hleave:=step_leave_returned (P:=P) (c:=b.atR a (.inRegion ops (i::ui (i+1) (ops.size-(i+1)))::eu k0)) (cs:=cs) q2
            have ow:(b.atR a (.inRegion ops (i::ui (i+1) (ops.size-(i+1)))::eu k0)).finish cv=b.atR (a.put o.dst cv) (.inRegion ops (ui (i+1) (ops.size-(i+1)))::eu k0):=by
             rw[xc,ho];rfl
            rw[ow] at hleave
            have nw:c.st.fix≤(dD (bM ord c.st.mem.length) ord m1 c.st.mem).length:=by
             rw[ez _ _ _ _ q8];have:=hs.fix;omega
            refine⟨_,_,w',.head hstep (q1.trans (.one hleave)),dI.mk (a:=a.put o.dst cv) (c:={c with todo:= .ops cK ops (i+1) false::k0,st:=back ord o.dst c.st v m1}) (nf trivial YR) xj (hbk.put (st':={c.st with mem:=_}) r2 rfl) (hd.put (st':={c.st with mem:=_}) r2 rfl) (hs.put hb.1 (q4.iH r4) r2 r1 nw),?_,bZ.rP r2 _,rfl,?_,jP⟩
            · have:(back ord o.dst c.st v m1).mem=dD (bM ord c.st.mem.length) ord m1 c.st.mem:=by
               unfold back Am.put;cases o.dst<;>rfl
              show dF g c.st.mem w _ (back ord o.dst c.st v m1).mem w'
              rw[this];exact r3
            · show(back ord o.dst c.st v m1).fix=c.st.fix
              unfold back Am.put;cases o.dst<;>rfl
          · intro u m1 fJ cs
            obtain⟨⟨fn,TS,TT,TU⟩,fJ⟩:=fJ
            have hrun:=xh (P:=P) (w:=w) hop Au Ao TS TT TU
            obtain⟨w',g',cv,fr,q1,q2,q3,q4,q5,q6,q7,q8⟩:=fJ (g.pack ord) w (fa++call.args.map a.eval++ca) (b.atR a (.inRegion ops (i::ui (i+1) (ops.size-(i+1)))::eu k0)::cs) OI
             (dj.iH mW hargs) (hs.ec.mono fun _ _ p=>⟨p,rfl⟩)
            rw[hlen] at q7 q8
            obtain⟨r1,r2,r3,r4⟩:=hs.rel.back hnd (gh hb.2) q5 q6 q7 q8
            have hstep:=qF (b:=b) (k:=eu k0) (cs:=cs) (rest:=ui (i+1) (ops.size-(i+1))) ho hw hrun
            have hleave:=step_leave_panicked (P:=P) (c:=b.atR a (.inRegion ops (i::ui (i+1) (ops.size-(i+1)))::eu k0)) (cs:=cs) q2
            have nw:c.st.fix≤(dD (bM ord c.st.mem.length) ord m1 c.st.mem).length:=by
             rw[ez _ _ _ _ q8];have:=hs.fix;omega
            refine⟨_,_,w',.head hstep (q1.trans (.one hleave)),⟨b,a,_,cv,rfl,xj,hbk.ext fun i c q=>(r2.bX i c q).1,hd.ext fun i c q=>(r2.bX i c q).1,⟨fun k=>(hs.tm k).mono r2,hs.nt,r1,nw,hs.ec.mono r2.pure⟩,q4.iH r4⟩,r3,bZ.rP r2 _,rfl,rfl,rfl⟩
        · cases ht
      · cases ht
    · cases ht
 · dsimp only
   split
   · rename_i args ht
     cases hb:(fits c.st o.dst&&ji (close c.st.mem 0 args) c.st.mem.length) with
     |false=>trivial
     |true=>
      simp only[cond_true]
      simp only[di] at hb
      intro v m1 fJ cs
      obtain⟨g',a',w',r1,r2,r3,r4,r5,r6,r7⟩:=OO (P:=P) (k:=eu k0) (rest:=ui (i+1) (ops.size-(i+1))) hs hd hbk ho hw ht hb.1 hb.2 fJ cs
      exact⟨g',_,w',r1,dI.mk (a:=a') (c:={c with todo:= .ops cK ops (i+1) false::k0,st:=back (close c.st.mem 0 args) o.dst c.st v m1}) (nf trivial YR) xj r3 r2 r4,r5,r6,rfl,r7,jP⟩
   · split
     · rename_i v us ok he
       intro hok cs
       simp only[di] at hok
       obtain⟨rfl,hfit⟩:=hok
       have hres:Rel g (reserve o c.st.mem) w∧dF g c.st.mem w g (reserve o c.st.mem) w:=by
        unfold reserve
        cases makes o with
        |true=>exact hs.rel.reserve
        |false=>exact⟨hs.rel,dF.refl _ _ _⟩
       have hfree:makes o=true→(reserve o c.st.mem)[c.st.mem.length]? = some .free:=by
        intro hm
        simp[reserve,hm]
       obtain⟨cv,w',g',k1,k2,k3,k4,k5⟩:=pz hres.1 HI (fun _=>rfl) hfree he
       have hstep:=rR (b:=b) (k:=eu k0) (cs:=cs) (rest:=ui (i+1) (ops.size-(i+1))) ho hw k1
       have nw:c.st.fix≤(apply (reserve o c.st.mem) us).length:=by
        rw[eK]
        have:=hs.fix
        unfold reserve
        cases makes o<;>simp<;>omega
       refine⟨g',_,w',.one hstep,dI.mk (a:=a.put o.dst cv) (c:={c with todo:= .ops cK ops (i+1) false::k0,st:=put {c.st with mem:=apply (reserve o c.st.mem) us} o.dst v}) (nf trivial YR) xj (hbk.put (st':={c.st with mem:=_}) k4 rfl) (hd.put (st':={c.st with mem:=_}) k4 rfl) (hs.put hfit k2 k4 k3 nw),?_,bZ.rP k4 _,rfl,?_,jP⟩
       · have:(put {c.st with mem:=apply (reserve o c.st.mem) us} o.dst v).mem=apply (reserve o c.st.mem) us:=by unfold Am.put;cases o.dst<;>rfl
         show dF g c.st.mem w _ (put {c.st with mem:=apply (reserve o c.st.mem) us} o.dst v).mem w'
         rw[this];exact hres.2.trans k5
       · show(put {c.st with mem:=apply (reserve o c.st.mem) us} o.dst v).fix=c.st.fix
         unfold Am.put;cases o.dst<;>rfl
     · exact OP hs xj hbk hd ho hw YR
end
end Go.Am
end
section
namespace Go.Am
section
variable {P:Program} {E:Env}
theorem uH {ρ ρ':Operand→AV} : ∀{l:List Operand},(∀x∈l,ρ x=ρ' x)→ux ρ l=ux ρ' l
 |[],_=>rfl
 |x::r,h=>by simp only[ux,h x (.head _),uH fun y hy=>h y (.tail _ hy)]
theorem oy {ρ ρ':Operand→AV} {x:Option Operand} (h : ∀y∈x,ρ y=ρ' y) (d:Nat):bound ρ x d=bound ρ' x d:=by
 cases x with
 |none=>rfl
 |some x=>simp only[bound,h x (by simp)]
theorem A6 {rd:Nat→bq} {wr:Bool} {bF:Nat} {ρ ρ':Operand→AV} {o:Oper} (hq:gJ o=true) (h : ∀x∈o.op.operands,ρ x=ρ' x):uz P rd wr bF ρ o=uz P rd wr bF ρ' o:=by
 have hsel : ∀cs b,o.op ≠ .select cs b:=by
  intro cs b e
  simp[gJ,e] at hq
 have hsc:scalar P ρ o=scalar P ρ' o:=by
  unfold scalar
  rw[uH (ρ:=ρ) (ρ':=ρ') fun x hx=>h x (by simpa using hx),
   execOp_congr (ρ:=fun x=>(N0 (ρ x)).getD undef) (ρ':=fun x=>(N0 (ρ' x)).getD undef) o hsel fun x hx=>by rw[h x hx]]
 obtain⟨dst,op,type,pos,after,guard⟩:=o
 cases op<;>simp only[gJ,o0] at hq<;>simp only[If] at h<;>simp only[uz]
 case move x=>rw[h x (by simp)]
 case assign x=>rw[h x (by simp)]
 case pick c a b=>rw[h c (by simp),h a (by simp),h b (by simp)]
 case build t ps=>
  have:ps.toList.map (fun q=>(q.1,ρ q.2))=ps.toList.map fun q=>(q.1,ρ' q.2):=
   yn fun q hq=>by rw[h q.2 (by simp only[Hk,fb];exact⟨q,hq,rfl⟩)]
  rw[this]
 case load t a=>rw[h a (by simp)]
 case nilCheck x=>rw[h x (by simp)];simp only[j8,hsc]
 case binOp op t x y r=>rw[h x (by simp),h y (by simp)];simp only[ru,hsc]
 case unOp op t x=>rw[h x (by simp)];simp only[wg,hsc]
 case convert s d x=>rw[h x (by simp)];simp only[convertOp,hsc]
 case makeInterface t x=>rw[h x (by simp)]
 case makeFunc f first captured=>
  rw[yn (l:=first.toList) fun x hx=>h x (by simp_all),yn (l:=captured.toList) fun x hx=>h x (by simp_all)]
 case slice t x lo hi mx=>
  rw[h x (by simp)]
  have h1:=oy (ρ:=ρ) (ρ':=ρ') (x:=lo) fun y hy=>h y (by simp_all)
  have h2:=oy (ρ:=ρ) (ρ':=ρ') (x:=hi) fun y hy=>h y (by simp_all)
  have h3:=oy (ρ:=ρ) (ρ':=ρ') (x:=mx) fun y hy=>h y (by simp_all)
  cases mx with
  |none=>
   simp only[oY,h1,h2]
   repeat' first | rfl | split
   all_goals simp_all
  |some m=>
   simp only[oY,h1,h2]
   repeat' first | rfl | split
   all_goals simp_all
 case fieldAddr t x f=>rw[h x (by simp)]
 case field t x f=>rw[h x (by simp)]
 case indexAddr t x i=>rw[h x (by simp),h i (by simp)]
 case index t x i=>rw[h x (by simp),h i (by simp)]
 case extract x i=>rw[h x (by simp)]
 case call c=>
  obtain⟨callee,args,tys⟩:=c
  cases callee with
  |value _=>simp at hq
  |invoke _ _=>simp at hq
  |builtin b=>
   simp only[Call.operands] at h
   obtain⟨args⟩:=args
   have hmm : ∀mn,ke P ρ ⟨dst,.call ⟨.builtin b,⟨args⟩,tys⟩,type,pos,after,guard⟩ mn args=ke P ρ' ⟨dst,.call ⟨.builtin b,⟨args⟩,tys⟩,type,pos,after,guard⟩ mn args:=by
    intro mn
    unfold ke
    rw[hsc,yn (l:=args) fun x hx=>h x (by simp_all)]
   cases b<;>simp only[o0] at hq<;>simp only[hmm]
   cases args with
   |nil=>rfl
   |cons x r=>cases r with
    |nil=>simp only[h x (by simp)]
    |cons _ _=>rfl
theorem rS (st:St) (dst:Option Tmp) (v:AV) (t:Nat):look (put st dst v).tm t=if dst=some t then v else look st.tm t:=by
 cases dst with
 |none=>simp[put]
 |some d=>simp only[put,j4,dk]
theorem Db (st:St) (dst:Option Tmp) (v:AV):(put st dst v).mem=st.mem∧(put st dst v).nt=st.nt∧(put st dst v).fix=st.fix:=by
 cases dst<;>exact⟨rfl,rfl,rfl⟩
theorem mX {a b:List Nat} (h:meet a b=false) {i:Nat} (ha:i∈a) (hb:i∈b):False:=by
 simp only[meet,List.any_eq_false] at h
 have:=h i ha
 simp only[List.any_eq_true,not_exists,not_and] at this
 exact this i hb (sm i)
theorem E7 : ∀(l:List Oper) (acc:List Nat),∃M,masks acc l=acc++M∧M.length=l.length ∧ ∀i o,l[i]? = some o→M[i]? = some (qy (acc++M.take i) o)
 |[],acc=>⟨[],by simp[masks]⟩
 |o::r,acc=>by
  obtain⟨M,h1,h2,h3⟩:=E7 r (acc++[qy acc o])
  refine⟨qy acc o::M,by simp[masks,h1],by simp[h2],?_⟩
  intro i p hp
  cases i with
  |zero=>simp only[mf,dk] at hp;subst hp;simp
  |succ i=>
   simp only[mi] at hp
   have:=h3 i p hp
   simpa using this
theorem Ih {acc:List Nat} {o:Oper} {j:Nat} (h:cp (qy acc o) j=true) : ∃e∈o.after,xa .any e=true∧(e.on=j∨cp (acc.getD e.on 0) j=true):=by
 unfold qy at h
 have key : ∀(l:List Edge) (s:Nat),cp (l.foldl (fun s e=>cond (xa .any e) (s|||(2 ^ e.on|||acc.getD e.on 0)) s) s) j=true →
   cp s j=true ∨ ∃e∈l,xa .any e=true∧(e.on=j∨cp (acc.getD e.on 0) j=true):=by
  intro l
  induction l with
  |nil=>intro s h;exact .inl h
  |cons e r ih=>
   intro s h
   simp only[List.foldl_cons] at h
   rcases ih _ h with h | ⟨e',he',q⟩
   · cases hb:xa .any e with
     |false=>rw[hb] at h;exact .inl h
     |true=>
      rw[hb] at h
      simp only[cond_true,Nat.testBit_or,iu] at h
      rcases h with h | h | h
      · exact .inl h
      · refine .inr ⟨e,.head _,hb,.inl ?_⟩
        rw[Nat.testBit_two_pow] at h
        exact of_decide_eq_true h
      · exact .inr ⟨e,.head _,hb,.inr h⟩
   · exact .inr ⟨e',.tail _ he',q⟩
 rcases key _ _ h with h | ⟨e,he,q⟩
 · simp at h
 · exact⟨e,by simpa using he,q⟩
theorem qc {q:Oper→Bool} {ops:Array Oper} {L:List Nat} : ∀{r nF:List Oper},kf q ops L nF.length nF r=true →
  ∀i o,(nF++r)[i]? = some o→nF.length≤i →
   q o=true∧(∀e∈o.after,xa .any e=true→e.on<i) ∧ ∀j p,j<i→(nF++r)[j]? = some p→qz ops L i o j p=true
 |[],nF,_,i,o,ho,hi=>by
  simp only[Hc] at ho
  rw[eb hi] at ho;cases ho
 |q0::r,nF,h,i,o,ho,hi=>by
  simp only[kf,di] at h
  obtain⟨⟨⟨h1,h2⟩,h3⟩,h4⟩:=h
  by_cases hc:i=nF.length
  · subst hc
    have:o=q0:=by simpa using ho.symm
    subst this
    refine⟨h1,?_,?_⟩
    · intro e he hb
      have:=a6.1 h2 e (by simpa using he)
      simp only[hb,wc,pb] at this
      rwa [Nat.blt_eq] at this
    · intro j p hj hp
      have key : ∀(l:List Oper) (k:Nat),vI ops L nF.length o k l=true → ∀m p,l[m]? = some p→qz ops L nF.length o (k+m) p=true:=by
       intro l
       induction l with
       |nil=>intro k _ m p hp;simp at hp
       |cons x l ih=>
        intro k hk m p hp
        simp only[vI,di] at hk
        cases m with
        |zero=>simp only[mf,dk] at hp;subst hp;exact hk.1
        |succ m=>
         simp only[mi] at hp
         have:=ih (k+1) hk.2 m p hp
         rwa [fw,H4 1 m] at this
      have hp':nF[j]? = some p:=by rwa [nz hj] at hp
      simpa using key nF 0 h3 j p hp'
  · have h4':kf q ops L (nF++[q0]).length (nF++[q0]) r=true:=by simpa using h4
    have:=qc h4' i o (by simpa using ho) (by simp;omega)
    simpa using this
def X8 (P:Program) (E:Env) (rd:Nat→bq) (wr:Bool) (bF:Nat) (ops:Array Oper) (st:St) (o:Oper) (v:AV):Prop:=
 ((eG ops st.tm o = .yes ∨ ∃d b want,eG ops st.tm o = .ask d b want∧(b==want)=true)∧uz P rd wr bF (ev E st.tm) o=some (v,[],true)) ∨
 ((eG ops st.tm o = .no ∨ ∃d b want,eG ops st.tm o = .ask d b want∧(b==want)=false)∧v = .aK [])
inductive Dc (P:Program) (E:Env) (rd:Nat→bq) (wr:Bool) (bF:Nat) (ops:Array Oper):List Oper→St→List AV→St→Prop
 |nil (st:St):Dc P E rd wr bF ops [] st [] st
 |cons (o:Oper) (r:List Oper) (st:St) (v:AV) (vs:List AV) (st':St) (hf:fits st o.dst=true) (h:X8 P E rd wr bF ops st o v)
   (hr:Dc P E rd wr bF ops r (put st o.dst v) vs st'):Dc P E rd wr bF ops (o::r) st (v::vs) st'
theorem oz {rd:Nat→bq} {wr:Bool} {bF:Nat} {ops:Array Oper} : ∀{l:List Oper} {st st':St},lu P E rd wr bF ops l st=some (st',true) → ∃vs,Dc P E rd wr bF ops l st vs st'
 |[],st,st',h=>by
  simp only[lu,dk,ja,and_true] at h
  subst h
  exact⟨[],.nil st⟩
 |o::r,st,st',h=>by
  have skip:(match lu P E rd wr bF ops r (put st o.dst (.aK [])) with
   |some (st',ok)=>some (st',fits st o.dst&&ok)
   |none=>none)=some (st',true)→fits st o.dst=true ∧ ∃vs,Dc P E rd wr bF ops r (put st o.dst (.aK [])) vs st':=by
   intro h
   split at h
   · rename_i TV ok hq
     simp only[dk,ja,di] at h
     obtain⟨rfl,h1,rfl⟩:=h
     exact⟨h1,oz hq⟩
   · cases h
  have rA:(match uz P rd wr bF (ev E st.tm) o with
   |some (v,[],ok)=>match lu P E rd wr bF ops r (put st o.dst v) with
    |some (st',ok')=>some (st',ok&&(fits st o.dst&&ok'))
    |none=>none
   |_=>none)=some (st',true) → ∃v,uz P rd wr bF (ev E st.tm) o=some (v,[],true)∧fits st o.dst=true ∧ ∃vs,Dc P E rd wr bF ops r (put st o.dst v) vs st':=by
   intro h
   split at h
   · rename_i v ok hop
     split at h
     · rename_i TV ok' hq
       simp only[dk,ja,di] at h
       obtain⟨rfl,rfl,h1,rfl⟩:=h
       exact⟨v,hop,h1,oz hq⟩
     · cases h
   · cases h
  unfold lu at h
  dsimp only at h
  cases hw:eG ops st.tm o with
  |yes=>
   rw[hw] at h
   obtain⟨v,h1,h2,vs,h3⟩:=rA h
   exact⟨v::vs,.cons o r st v vs st' h2 (.inl ⟨.inl hw,h1⟩) h3⟩
  |no=>
   rw[hw] at h
   obtain⟨h2,vs,h3⟩:=skip h
   exact⟨.aK []::vs,.cons o r st _ vs st' h2 (.inr ⟨.inl hw,rfl⟩) h3⟩
  |lost=>rw[hw] at h;cases h
  |ask d b want=>
   rw[hw] at h
   dsimp only at h
   cases hb:b==want with
   |true=>
    rw[hb] at h
    obtain⟨v,h1,h2,vs,h3⟩:=rA h
    exact⟨v::vs,.cons o r st v vs st' h2 (.inl ⟨.inr ⟨d,b,want,hw,hb⟩,h1⟩) h3⟩
   |false=>
    rw[hb] at h
    obtain⟨h2,vs,h3⟩:=skip h
    exact⟨.aK []::vs,.cons o r st _ vs st' h2 (.inr ⟨.inr ⟨d,b,want,hw,hb⟩,rfl⟩) h3⟩
def E8 (l:List Oper):Prop:= ∀(i j:Nat) (p q:Oper) (t:Tmp),i<j→l[i]? = some p→l[j]? = some q→p.dst=some t→q.dst≠some t
def dR (l:List Oper) (vs:List AV) (st:St) (i:Nat) (jc:St):Prop:=
 jc.mem=st.mem∧jc.nt=st.nt∧jc.fix=st.fix∧(∀j p v t,j<i→l[j]? = some p→vs[j]? = some v→p.dst=some t→look jc.tm t=v) ∧
 (∀t,(∀j p,j<i→l[j]? = some p→p.dst≠some t)→look jc.tm t=look st.tm t)
theorem dR.cons {o:Oper} {r:List Oper} {v:AV} {vs:List AV} {st jc:St} {i:Nat} (hu:E8 (o::r)) (h:dR r vs (put st o.dst v) i jc):dR (o::r) (v::vs) st (i+1) jc:=by
 obtain⟨h1,h2,h3,h4,h5⟩:=h
 obtain⟨q1,q2,q3⟩:=Db st o.dst v
 refine⟨h1.trans q1,h2.trans q2,h3.trans q3,?_,?_⟩
 · intro j p w t hj hp hw ht
   cases j with
   |zero=>
    simp only[mf,dk] at hp hw
    subst hp;subst hw
    rw[h5 t fun j p _ hp=>hu 0 (j+1) o p t (by omega) rfl (by simpa using hp) ht,rS,if_pos ht]
   |succ j=>exact h4 j p w t (by omega) (by simpa using hp) (by simpa using hw) ht
 · intro t ht
   rw[h5 t fun j p hj hp=>ht (j+1) p (by omega) (by simpa using hp),rS,if_neg (ht 0 o (by omega) rfl)]
theorem Dc.spec {rd:Nat→bq} {wr:Bool} {bF:Nat} {ops:Array Oper} {l:List Oper} {st st':St} {vs:List AV} (h:Dc P E rd wr bF ops l st vs st') (hu:E8 l) :
  vs.length=l.length∧dR l vs st l.length st' ∧ ∀i o,l[i]? = some o → ∃v jc,vs[i]? = some v∧X8 P E rd wr bF ops jc o v∧fits jc o.dst=true∧dR l vs st i jc:=by
 induction h with
 |nil st=>exact⟨rfl,⟨rfl,rfl,rfl,fun j _ _ _ hj=>absurd hj (ss _),fun _ _=>rfl⟩,fun i o ho=>by simp at ho⟩
 |cons o r st v vs st' hf hk hr ih=>
  have Ts:E8 r:=fun i j p q t hij hp hq=>hu (i+1) (j+1) p q t (by omega) (by simpa using hp) (by simpa using hq)
  obtain⟨h1,h2,h3⟩:=ih Ts
  refine⟨by simp[h1],h2.cons hu,?_⟩
  intro i p hp
  cases i with
  |zero=>
   simp only[mf,dk] at hp
   subst hp
   exact⟨v,st,rfl,hk,hf,rfl,rfl,rfl,fun j _ _ _ hj=>absurd hj (ss _),fun _ _=>rfl⟩
  |succ i=>
   obtain⟨w,jc,q1,q2,q3,q4⟩:=h3 i p (by simpa using hp)
   exact⟨w,jc,by simpa using q1,q2,q3,q4.cons hu⟩
structure nH (ops:Array Oper) (L:List Nat) (vs:List AV) (gL eP:St) (S:Array Bool):Prop where
 size:S.size=ops.size
 mem:eP.mem=gL.mem
 nt:eP.nt=gL.nt
 fix:eP.fix=gL.fix
 a : ∀(j:Nat) (p:Oper) (v:AV) (t:Tmp),S.getD j false=true→ops.toList[j]? = some p→vs[j]? = some v→p.dst=some t→look eP.tm t=v
 b : ∀t:Tmp,(∀(j:Nat) (p:Oper),S.getD j false=true→ops.toList[j]? = some p→p.dst≠some t)→look eP.tm t=look gL.tm t
 cl : ∀i j:Nat,S.getD i false=true→cp (L.getD i 0) j=true→S.getD j false=true
structure vp (ops:Array Oper) (L:List Nat):Prop where
 mask : ∀i o,ops.toList[i]? = some o→L[i]? = some (qy (L.take i) o)
 low : ∀(i:Nat) o,ops.toList[i]? = some o → ∀e∈o.after,xa .any e=true→e.on<i
 pair : ∀(i:Nat) o,ops.toList[i]? = some o → ∀j p,j<i→ops.toList[j]? = some p→qz ops L i o j p=true
theorem vp.of {q:Oper→Bool} {ops:Array Oper} (h:kf q ops (masks [] ops.toList) 0 [] ops.toList=true):vp ops (masks [] ops.toList) ∧ ∀(i:Nat) o,ops.toList[i]? = some o→q o=true:=by
 obtain⟨M,h1,_,h3⟩:=E7 ops.toList []
 simp only[Hm] at h1 h3
 rw[h1] at h ⊢
 have hs:=fun i o ho=>qc (nF:=[]) h i o ho (H5 _)
 exact⟨⟨h3,fun i o ho=>(hs i o ho).2.1,fun i o ho=>(hs i o ho).2.2⟩,fun i o ho=>(hs i o ho).1⟩
theorem vp.uniq {ops:Array Oper} {L:List Nat} (h:vp ops L):E8 ops.toList:=by
 intro i j p q t hij hp hq ht ht'
 have:=h.pair j q hq i p hij hp
 simp only[qz,di,iv] at this
 exact mX this.1 (i:=t) (by simp[ht']) (by simp[ht])
theorem l9 {S:Array Bool} {j:Nat} (h:j<S.size) (d d':Bool):S.getD j d=S.getD j d':=by
 simp[vd,gl h]
theorem TW {S:Array Bool} {j:Nat} (h:S.getD j false=true):j<S.size:=by
 rcases ft j S.size with q | q
 · exact q
 · rw[vd,xo q] at h;cases h
section
variable {ops:Array Oper} {L:List Nat} {vs:List AV} {gL eP jc:St} {S:Array Bool}
theorem nH.ahead (hI:nH ops L vs gL eP S) (hO:vp ops L) {i:Nat} (hi:i∈wx .any ops S) {j:Nat} (hb:cp (L.getD i 0) j=true):S.getD j false=true:=by
 obtain⟨_,o,ho,hr⟩:=mem_ready.1 hi
 have ho':ops.toList[i]? = some o:=by simpa using ho
 have hm:=hO.mask i o ho'
 rw[de,hm,Option.getD_some] at hb
 obtain⟨e,he,z6,h⟩:=Ih hb
 rcases h with h | h
 · exact h▸hr e he z6
 · have hlt:=hO.low i o ho' e he z6
   refine hI.cl e.on j (hr e he z6) ?_
   rw[de,dq,if_pos hlt,←de] at h
   exact h
theorem nH.slots (hI:nH ops L vs gL eP S) (hO:vp ops L) {i:Nat} {o:Oper} (ho:ops.toList[i]? = some o) (hi:i∈wx .any ops S) (hl:vs.length=ops.toList.length) (Ii:dR ops.toList vs gL i jc)
  {t:Tmp} (ht:t∈Am.slots ops o):look eP.tm t=look jc.tm t:=by
 obtain⟨_,_,_,hA,hB⟩:=Ii
 have hu:=hO.uniq
 have hni:S.getD i false=false:=by
  obtain⟨h,_⟩:=mem_ready.1 hi
  cases hq:S.getD i false with
  |false=>rfl
  |true=>rw[l9 (TW hq) false true,h] at hq;cases hq
 by_cases hw : ∃(j:Nat) (p:Oper),ops.toList[j]? = some p∧p.dst=some t
 · obtain⟨j,p,hp,hd⟩:=hw
   have only : ∀(k:Nat) (q:Oper),ops.toList[k]? = some q→q.dst=some t→k=j:=by
    intro k q hq Tt
    rcases H0 k j with h | h | h
    · exact absurd hd (hu k j q p t h hq hp Tt)
    · exact h
    · exact absurd Tt (hu j k p q t h hp hq hd)
   rcases H0 j i with h | h | h
   · have E9:=hO.pair i o ho j p h hp
     simp only[qz,di,iu,iv] at E9
     have YU:cp (L.getD i 0) j=true:=by
      rcases E9.2 with q | q
      · exact q
      · exact(mX q.1 (i:=t) (by simp[hd]) ht).elim
     have hS:=hI.ahead hO hi YU
     have Ov : ∃v,vs[j]? = some v:=by
      have:j<vs.length:=by rw[hl];exact(dT.1 hp).1
      exact⟨vs[j],da this⟩
     obtain⟨v,hv⟩:=Ov
     rw[hI.a j p v t hS hp hv hd,hA j p v t h hp hv hd]
   · subst h
     rw[hI.b t,hB t]
     · intro k q hk hq Tt
       have:=only k q hq Tt
       omega
     · intro k q hk hq Tt
       have:=only k q hq Tt
       subst this
       rw[hni] at hk;cases hk
   · have E9:=hO.pair j p hp i o h ho
     simp only[qz,di,iu,iv] at E9
     have YU:cp (L.getD j 0) i=true:=by
      rcases E9.2 with q | q
      · exact q
      · exact(mX q.2 (i:=t) (by simp[hd]) ht).elim
     rw[hI.b t,hB t]
     · intro k q hk hq Tt
       have:=only k q hq Tt
       omega
     · intro k q hk hq Tt
       have:=only k q hq Tt
       subst this
       have:=hI.cl k i hk YU
       rw[hni] at this;cases this
 · have hno : ∀(k:Nat) (q:Oper),ops.toList[k]? = some q→q.dst≠some t:=fun k q hq hd=>hw ⟨k,q,hq,hd⟩
   rw[hI.b t fun k q _ hq=>hno k q hq,hB t fun k q _ hq=>hno k q hq]
theorem nH.step (hI:nH ops L vs gL eP S) (hO:vp ops L) {i:Nat} {o:Oper} {v:AV} (ho:ops.toList[i]? = some o) (hv:vs[i]? = some v) (hi:i∈wx .any ops S) :
  nH ops L vs gL (put eP o.dst v) (S.setIfInBounds i true):=by
 obtain⟨q1,q2,q3⟩:=Db eP o.dst v
 have hu:=hO.uniq
 have Ag : ∀j,(S.setIfInBounds i true).getD j false=true→j=i∨S.getD j false=true:=by
  intro j hj
  by_cases h:i=j
  · exact .inl h.symm
  · rw[getD_set_ne false h] at hj;exact .inr hj
 have hup : ∀j,S.getD j false=true→(S.setIfInBounds i true).getD j false=true:=fun j hj=>getD_set_true hj
 refine⟨by simp[hI.size],q1.trans hI.mem,q2.trans hI.nt,q3.trans hI.fix,?_,?_,?_⟩
 · intro j p w t hj hp hw hd
   rw[rS]
   by_cases hji:j=i
   · subst hji
     rw[ho] at hp;cases hp
     rw[hv] at hw;cases hw
     rw[if_pos hd]
   · have hne:o.dst≠some t:=by
      rcases Nat.lt_or_gt_of_ne hji with h | h
      · exact hu j i p o t h hp ho hd
      · exact fun hod=>hu i j o p t h ho hp hod hd
     rw[if_neg hne]
     rcases Ag j hj with h | h
     · exact absurd h hji
     · exact hI.a j p w t h hp hw hd
 · intro t ht
   have nW:i<S.size:=by rw[hI.size];have:=(dT.1 ho).1;simpa using this
   have hne:o.dst≠some t:=ht i o (by simp[vd,nW]) ho
   rw[rS,if_neg hne]
   exact hI.b t fun j p hj hp=>ht j p (hup j hj) hp
 · intro k j hk hb
   rcases Ag k hk with h | h
   · subst h;exact hup j (hI.ahead hO hi hb)
   · exact hup j (hI.cl k j h hb)
theorem nH.all (hI:nH ops L vs gL eP S) (hO:vp ops L) (hr:wx .any ops S=[]) : ∀i,i<ops.size→S.getD i false=true:=by
 intro i
 induction i using H3 with
 |ind i ih=>
  intro hi
  have ho:ops[i]? = some ops[i]:=gl hi
  have ho':ops.toList[i]? = some ops[i]:=by simp[hi]
  cases hq:S.getD i false with
  |true=>rfl
  |false=>
   have:i∈wx .any ops S:=mem_ready.2 ⟨by rw[l9 (by rw[hI.size];exact hi) true false];exact hq,ops[i],ho,fun e he hb=>ih e.on (hO.low i _ ho' e he hb) (by have:=hO.low i _ ho' e he hb;omega)⟩
   rw[hr] at this;cases this
theorem nH.ends (hI:nH ops L vs gL eP S) (hl:vs.length=ops.toList.length) {st':St} (hst:dR ops.toList vs gL ops.toList.length st') (hall : ∀i,i<ops.size→S.getD i false=true) :
  eP.mem=st'.mem∧eP.nt=st'.nt∧eP.fix=st'.fix ∧ ∀t,look eP.tm t=look st'.tm t:=by
 obtain⟨h1,h2,h3,hA,hB⟩:=hst
 refine⟨hI.mem.trans h1.symm,hI.nt.trans h2.symm,hI.fix.trans h3.symm,fun t=> ?_⟩
 by_cases hw : ∃(j:Nat) (p:Oper),ops.toList[j]? = some p∧p.dst=some t
 · obtain⟨j,p,hp,hd⟩:=hw
   have hjl:=(dT.1 hp).1
   have Ov:vs[j]? = some vs[j]:=da (by rw[hl];exact hjl)
   rw[hI.a j p _ t (hall j (by simpa using hjl)) hp Ov hd,hA j p _ t hjl hp Ov hd]
 · rw[hI.b t fun k q _ hq hd=>hw ⟨k,q,hq,hd⟩,hB t fun k q _ hq hd=>hw ⟨k,q,hq,hd⟩]
end
theorem cU.same {g:Gh} {w:World} {st st':St} {a:Act} (h:cU E g st a w) (h1:st.mem=st'.mem) (h2:st.nt=st'.nt) (h3:st.fix=st'.fix) (h4 : ∀t,look st.tm t=look st'.tm t):cU E g st' a w:=
 ⟨fun k=>h4 k▸h.tm k,h2▸h.nt,h1▸h.rel,by rw[←h1,←h3];exact h.fix,h.ec⟩
theorem uI {ops:Array Oper} {tm tm':pZ} {o:Oper} (h : ∀t∈slots ops o,look tm t=look tm' t):eG ops tm o=eG ops tm' o:=by
 unfold eG
 unfold slots at h
 cases hg:o.guard with
 |none=>rfl
 |some q=>
  obtain⟨j,want⟩:=q
  simp only[hg] at h
  dsimp only
  cases hj:ops[j]? with
  |none=>rfl
  |some oj=>
   simp only[hj] at h
   dsimp only
   cases hd:oj.dst with
   |none=>rfl
   |some d=>simp only[h d (by simp[hd])]
theorem Fa {tm tm':pZ} {ops:Array Oper} {o:Oper} (h : ∀t∈slots ops o,look tm t=look tm' t) : ∀x∈o.op.operands,ev E tm x=ev E tm' x:=by
 intro x hx
 cases x with
 |tmp t=>exact h t (ye _ (List.mem_filterMap.2 ⟨.tmp t,by simpa using hx,rfl⟩))
 |_=>rfl
theorem LL {b:Frame} {k:List Item} {ops:Array Oper} {L:List Nat} {vs:List AV} {gL st':St} {wr:Bool} {bF:Nat} (hO:vp ops L) (hQ : ∀(i:Nat) o,ops.toList[i]? = some o→gJ o=true) (hn:gL.mem[bF]? = some .free)
  (hrun:Dc P E (fun i=>gL.mem.getD i .dead) wr bF ops ops.toList gL vs st') : ∀(fuel t:Nat) (S:Array Bool) (eP:St) (a:Act) (g:Gh) (w:World) (u:List Nat),
    nH ops L vs gL eP S→cU E g eP a w→u.length=fuel→(∀i,i<ops.size→S.getD i false=false→i∈u) →
    ∃g' a' w',(∀cs,Steps P (lone (b.atR a (.inRegion ops (Lk .any ops fuel t S [])::k)) cs w) (lone (b.atR a' (.inRegion ops []::k)) cs w'))∧a'.defers=a.defers∧cU E g' st' a' w' ∧
     dF g gL.mem w g' gL.mem w'∧bZ g g' gL.fix ∧ ∀i c,g.bX i=some c→g'.bX i=some c:=by
 obtain⟨hl,hend,hspec⟩:=hrun.spec hO.uniq
 intro fuel
 induction fuel with
 |zero=>
  intro t S eP a g w u hI hs YV hu
  have hall : ∀i,i<ops.size→S.getD i false=true:=by
   intro i hi
   cases hq:S.getD i false with
   |true=>rfl
   |false=>
    have:=hu i hi hq
    rw[Fs YV] at this;cases this
  obtain⟨e1,e2,e3,e4⟩:=hI.ends hl hend hall
  exact⟨g,a,w,fun cs=>M2 _ _,rfl,hs.same e1 e2 e3 e4,dF.refl _ _ _,bZ.refl _ _,fun _ _ h=>h⟩
 |succ fuel ih=>
  intro t S eP a g w u hI hs YV hu
  simp only[Lk]
  show ∃g' a' w',(∀cs,Steps P (lone (b.atR a (.inRegion ops (match(wx .any ops S)[t%(wx .any ops S).length]? with
   |some i=>Lk .any ops fuel (t / (wx .any ops S).length) (S.setIfInBounds i true) [i]
   |none=>[].reverse)::k)) cs w) (lone (b.atR a' (.inRegion ops []::k)) cs w'))∧_
  cases hi:(wx .any ops S)[t%(wx .any ops S).length]? with
  |none=>
   have OQ:wx .any ops S=[]:=by
    cases hr:wx .any ops S with
    |nil=>rfl
    |cons x xs=>
     rw[hr] at hi
     have hlt:t%(x::xs).length<(x::xs).length:=pw _ (by simp)
     rw[da hlt] at hi;cases hi
   obtain⟨e1,e2,e3,e4⟩:=hI.ends hl hend (hI.all hO OQ)
   exact⟨g,a,w,fun cs=>M2 _ _,rfl,hs.same e1 e2 e3 e4,dF.refl _ _ _,bZ.refl _ _,fun _ _ h=>h⟩
  |some i=>
   have TX:=mv hi
   obtain⟨hSi,o,ho,_⟩:=mem_ready.1 TX
   have ho':ops.toList[i]? = some o:=by simpa using ho
   obtain⟨v,jc,hv,hk,hf,Ii⟩:=hspec i o ho'
   have xl : ∀t∈slots ops o,look eP.tm t=look jc.tm t:=fun t ht=>hI.slots hO ho' TX hl Ii ht
   have hilt:i<ops.size:=(xn.1 ho).1
   have OR:i∈u:=hu i hilt (by rw[l9 (by rw[hI.size];exact hilt) false true];exact hSi)
   have Ts : ∀j,j<ops.size→(S.setIfInBounds i true).getD j false=false→j∈u.erase i:=by
    intro j hj hq
    have hne:j≠i:=by
     intro e
     subst e
     rw[show(S.setIfInBounds j true).getD j false=true by simp[vd,hI.size,hj]] at hq
     cases hq
    rw[getD_set_ne false (fun e=>hne e.symm)] at hq
    exact(Hd hne).2 (hu j hj hq)
   have TY:(u.erase i).length=fuel:=by rw[Ha OR,YV];rfl
   have hI':=hI.step hO ho' hv TX
   have hfA:fits eP o.dst=true:=by
    have:fits eP o.dst=fits jc o.dst:=by unfold fits;rw[hI.nt,Ii.2.1]
    rw[this];exact hf
   dsimp only
   rw[linearise_go_acc,yv,zd]
   have HR:=uI xl
   obtain⟨w1,w2,w3⟩:=pE hs (ops:=ops) (o:=o)
   rcases hk with⟨hw,hop⟩ | ⟨hw,rfl⟩
   · have jd:vt o (yielded ops a.tmps)=true:=by
      rcases hw with hw | ⟨d,b',want,hw,hb⟩
      · exact w1 (HR.trans hw)
      · rw[(w3 d b' want (HR.trans hw)).1];exact hb
     have ajY:uz P (fun i=>eP.mem.getD i .dead) wr bF (ev E eP.tm) o=some (v,[],true):=by
      rw[hI.mem,A6 (hQ i o ho') (Fa xl)];exact hop
     obtain⟨cv,w',g',k1,k2,k3,k4,k5⟩:=pz hs.rel (gD hs) (fun _=>rfl) (fun _=>by rw[hI.mem];exact hn) ajY
     have hs':=hs.put hfA k2 k4 k3 hs.fix
     obtain⟨g2,a2,w2',r1,r2,r3,r4,r5,r6⟩:=ih (t / (wx .any ops S).length) _ _ _ _ _ _ hI' hs' TY Ts
     refine⟨g2,a2,w2',fun cs=> .head (rR ho jd k1) (r1 cs),r2.trans put_defers,r3,?_,(bZ.rP k4 _).trans r5,fun i c q=>r6 i c (k4.bX i c q).1⟩
     have k5':dF g gL.mem w g' gL.mem w':=by rw[←hI.mem];exact k5
     exact k5'.trans r4
   · have jd:vt o (yielded ops a.tmps)=false:=by
      rcases hw with hw | ⟨d,b',want,hw,hb⟩
      · exact w2 (HR.trans hw)
      · rw[(w3 d b' want (HR.trans hw)).1];exact hb
     have hs':=hs.put (v:= .aK []) (cv:=undef) hfA (VA.mP.2 trivial) (Ext.refl g w) hs.rel hs.fix
     obtain⟨g2,a2,w2',r1,r2,r3,r4,r5,r6⟩:=ih (t / (wx .any ops S).length) _ _ _ _ _ _ hI' hs' TY Ts
     refine⟨g2,a2,w2',fun cs=> .head ?_ (r1 cs),r2.trans put_defers,r3,r4,r5,r6⟩
     have hst:=stepR_op_skip (P:=P) (b:=b) (a:=a) (k:=k) (cs:=cs) (w:=w) (ops:=ops) (i:=i) (rest:=Lk .any ops fuel (t / (wx .any ops S).length) (S.setIfInBounds i true) []) (by simp[ho,jd])
     simpa only[ho,sg] using hst
theorem cU.drew {g:Gh} {w:World} {st:St} {a:Act} (h:cU E g st a w) (n:Nat):cU E g st a {w with drawn:=n}:=by
 have he:Ext g w g {w with drawn:=n}:=⟨fun _ _ e=>⟨e,rfl,rfl⟩,fun _ _ e=>⟨e,rfl⟩⟩
 refine⟨fun k=>(h.tm k).mono he,h.nt,(h.rel.kq (w':={w with drawn:=n}) rfl rfl rfl rfl).1,h.fix,h.ec.mono he.pure⟩
theorem TZ {g:Gh} {w:World} {b:Frame} {a:Act} {k:List Item} {ops:Array Oper} {f cK:Nat} {st st':St} (hs:cU E g st a w) (h:wv P E f cK ops st=some (st',true)) :
  ∃g' a' w',(∀cs,Steps P (lone (b.atR a (.code (.region cK ops true)::k)) cs w) (lone (b.atR a' k) cs w'))∧a'.defers=a.defers∧cU E g' st' a' w' ∧
   dF g st.mem w g' st'.mem w'∧bZ g g' st.fix∧st'.fix=st.fix ∧ ∀i c,g.bX i=some c→g'.bX i=some c:=by
 unfold wv at h
 dsimp only at h
 split at h
 · rename_i TV ok hq
   cases OS:(ops.toList.all gJ&&Oi E f ops) with
   |false=>rw[OS] at hq;cases hq
   |true=>
   rw[OS] at hq
   simp only[cond_true] at hq
   have hall:ops.toList.all gJ=true:=(di _ _▸OS).1
   simp only[dk,ja,di] at h
   obtain⟨rfl,rfl,OT,YW⟩:=h
   obtain⟨vs,hrun⟩:=oz hq
   obtain⟨hO,hQ⟩:=vp.of OT
   obtain⟨YX,hr2⟩:=hs.rel.reserve
   have hs1:cU E g {st with mem:=st.mem++[.free]} a w:=⟨hs.tm,hs.nt,YX,by simp;have:=hs.fix;omega,hs.ec⟩
   have hgd : ∀j,(xi ops.size false).getD j false=false:=by
    intro j
    rw[vd,xv]
    split<;>rfl
   have hI:nH ops (masks [] ops.toList) vs {st with mem:=st.mem++[.free]} {st with mem:=st.mem++[.free]} (xi ops.size false):=
    ⟨by simp,rfl,rfl,rfl,fun j _ _ _ hj=>(by rw[hgd] at hj;cases hj),fun _ _=>rfl,fun i _ hi=>(by rw[hgd] at hi;cases hi)⟩
   have hs2:=hs1.drew (w.drawn+1)
   obtain⟨g',a',w',r1,r2,r3,r4,r5,r6⟩:=LL (P:=P) (E:=E) (b:=b) (k:=k) hO hQ (by simp) hrun ops.size (w.tape w.drawn (.order b.fn cK)) _ _ a g _ (fe ops.size) hI hs2 (by simp) (fun i hi _=>Hn.2 hi)
   have hend:=(hrun.spec hO.uniq).2.1
   refine⟨g',a',w',fun cs=> ?_,r2,r3,?_,r5,hend.2.2.1,r6⟩
   · refine .head stepR_region_draw ?_
     have OU:wy (P.follows .mixedOrders) ops (w.tape w.drawn (.order b.fn cK))=Lk .any ops ops.size (w.tape w.drawn (.order b.fn cK)) (xi ops.size false) []:=by
      simp only[wy,YW,if_true,xb]
     rw[OU]
     exact(r1 cs).trans (.one stepR_region_end)
   · rw[hend.1]
     have hst:dF g (st.mem++[.free]) w g (st.mem++[.free]) {w with drawn:=w.drawn+1}:=⟨c9 _,fun _ _ _=>rfl,fun _ _ h=>⟨h,rfl⟩,fun _ _ h=> .inl h,fun _ h=> .inl h,rfl,rfl,rfl⟩
     exact(hr2.trans hst).trans r4
 · cases h
end
end Go.Am
end
section
set_option linter.unusedSimpArgs false
namespace Go.Am
open Go.RowKit
section
variable {P:Program} {E:Env}
theorem qd {rd rd':Nat→bq} {a:AV} (h : ∀b∈refs a,rd b=rd' b) (n:Nat):mJ rd a n=mJ rd' a n:=by
 cases a with
 |mp b off=>simp only[mJ,h b (by simp[refs])]
 |p v=>cases v<;>rfl
 |_=>rfl
theorem fR {rd rd':Nat→bq} {a:AV} (h : ∀b∈refs a,rd b=rd' b) (sz:Nat):contents rd sz a=contents rd' sz a:=by
 cases a with
 |ms b off len s c=>
  cases c with
  |none=>simp only[contents,h b (by simp[refs])]
  |some c=>simp only[contents,h b (by simp[refs])]
 |p v=>
  cases v with
  |sc v=>cases v<;>rfl
  |_=>rfl
 |_=>rfl
theorem vq {rd rd':Nat→bq} {a:AV} (h : ∀b∈refs a,rd b=rd' b) (sz:Nat):cZ rd sz a=cZ rd' sz a:=by
 have hc:=fR h sz
 unfold cZ
 rw[hc]
 cases contents rd' sz a with
 |some r=>rfl
 |none=>
  cases a with
  |ms b off len s c=>
   cases c with
   |none=>rfl
   |some c=>simp only[h b (by simp[refs])]
  |_=>rfl
theorem qG {rd rd':Nat→bq} {x n:AV} (h : ∀b∈refs x,rd b=rd' b) {ts:List TypeId}:eX P rd ts x n=eX P rd' ts x n:=by
 have hg:Yw rd x=Yw rd' x:=by
  cases x with
  |mp b off=>cases off with
   |zero=>simp only[Yw,h b (by simp[refs])]
   |succ _=>rfl
  |_=>rfl
 unfold eX
 simp only[hg]
theorem Av {rd rd':Nat→bq} {a:AV} (h : ∀b∈refs a,rd b=rd' b) {bF:Nat} {ρ:Operand→AV} {o:Oper} {s d:TypeId}:convertOp P rd bF ρ o s d a=convertOp P rd' bF ρ o s d a:=by
 have hc:=fun sz=>fR (a:=a) h sz
 unfold convertOp
 split<;>first
  |rfl
  |(rename_i b off len sz cap hd;have hb:=h b (by simp[refs]);simp only[hb];done)
  |(rename_i b off hd;have hb:=h b (by simp[refs]);simp only[hb];done)
  |(rename_i u b hd;have hb:=h b (by simp[refs]);simp only[hb];done)
  |simp only[hc]
theorem append_congr {rd rd':Nat→bq} {s x:AV} (h : ∀b∈refs s++refs x,rd b=rd' b) {bF:Nat} {ts:Array TypeId}:jh P rd bF ts s x=jh P rd' bF ts s x:=by
 have hc:=fun sz=>fR (a:=x) (fun b hb=>h b (ye _ hb)) sz
 have ht : ∀tok len sz cs,s = .os tok len sz cs→oZ rd bF tok=oZ rd' bF tok:=by
  rintro tok len sz cs rfl
  cases tok with
  |none=>rfl
  |some t=>simp only[oZ,h t (by simp[refs])]
 unfold jh
 simp only[hc]
 repeat' first | rfl | split
 all_goals first
  |rfl
  |(rw[ht _ _ _ _ rfl])
  |simp_all
theorem xm {rd rd':Nat→bq} {s x:AV} (h : ∀b∈refs s++refs x,rd b=rd' b) {bF:Nat} {ts:Array TypeId}:fL P rd bF ts s x=fL P rd' bF ts s x:=by
 have hc:=fun sz=>vq (a:=x) (fun b hb=>h b (ye _ hb)) sz
 have hp : ∀sz,j7 rd sz x=j7 rd' sz x:=fun sz=>by unfold j7;rw[fR (a:=x) (fun b hb=>h b (ye _ hb)) sz]
 cases s with
 |ms b off len sz cap=>
  have hb:=h b (by simp[refs])
  unfold fL
  simp only[hc,hp]
  cases off with
  |zero=>cases cap<;>simp only[hb]
  |succ off=>rfl
 |os tok len sz cells=>
  cases tok with
  |none=>
   unfold fL
   simp only[hc,hp]
  |some t=>
   unfold fL
   simp only[hc]
 |_=>
  unfold fL
  simp only[hc]
theorem tK {rd rd':Nat→bq} {wr:Bool} {s x:AV} (h : ∀b∈refs s++refs x,rd b=rd' b) {bF:Nat} {ts:Array TypeId} :
  (match Yv s||wr with | true=>fL P rd bF ts (nP s) x | false=>jh P rd bF ts (nP s) x)=(match Yv s||wr with | true=>fL P rd' bF ts (nP s) x | false=>jh P rd' bF ts (nP s) x):=by
 have hs : ∀b∈refs (nP s),b∈refs s:=by
  intro b hb
  unfold nP at hb
  split at hb
  · simp[refs] at hb
  · exact hb
 have h' : ∀b∈refs (nP s)++refs x,rd b=rd' b:=fun b hb=>h b ((na.1 hb).elim (fun q=>yi _ (hs b q)) fun q=>ye _ q)
 rw[xm h',append_congr h']
theorem Ij {rd rd':Nat→bq} {d s:AV} (h : ∀b∈refs d++refs s,rd b=rd' b) {ts:Array TypeId}:tv P rd ts d s=tv P rd' ts d s:=by
 have hc:=fun sz=>fR (a:=s) (fun b hb=>h b (ye _ hb)) sz
 have ht : ∀b off len sz cap,d = .ms b off len sz cap→rd b=rd' b:=by
  rintro b off len sz cap rfl
  exact h b (by simp[refs])
 unfold tv
 simp only[hc]
 repeat' first | rfl | split
 all_goals first
  |rfl
  |(rename_i h1 h2;rw[ht _ _ _ _ _ rfl] at h1;simp_all)
  |(rename_i h1;rw[ht _ _ _ _ _ rfl] at h1;simp_all)
  |simp_all
theorem T0 {rd rd':Nat→bq} {wr:Bool} {bF:Nat} {ρ ρ':Operand→AV} {o:Oper} (hq:AU o=true) (h : ∀x∈o.op.operands,ρ x=ρ' x) (hrd : ∀b∈LB ρ o,rd b=rd' b):uz P rd wr bF ρ o=uz P rd' wr bF ρ' o:=by
 have h1:uz P rd wr bF ρ o=uz P rd' wr bF ρ o:=by
  obtain⟨dst,op,type,pos,after,guard⟩:=o
  cases op<;>try rfl
  case load t a=>simp only[uz,lK,qd (a:=ρ a) hrd]
  case store t a v=>
   simp only[uz,rq]
   have hrd : ∀b∈refs (ρ a),rd b=rd' b:=hrd
   generalize ρ a=x at hrd ⊢
   cases x with
   |mp b off=>
    cases gd P t with
    |none=>rfl
    |some n=>simp only[hrd b (by simp[refs])]
   |_=>rfl
  case convert s d x=>exact Av hrd
  case next=>simp[AU,gJ] at hq
  case call c=>
   obtain⟨callee,args,tys⟩:=c
   cases callee with
   |value _=>rfl
   |invoke _ _=>rfl
   |builtin b=>cases b<;>first
    |rfl
    |(obtain⟨args⟩:=args;rcases args with _ | ⟨x,_ | ⟨y,r⟩⟩<;>rfl)
    |(obtain⟨args⟩:=args;rcases args with _ | ⟨x,_ | ⟨y,_ | ⟨z,r⟩⟩⟩<;>first | rfl | exact tK fun b hb=>hrd b (by simpa[LB,iG] using hb) | exact Ij fun b hb=>hrd b (by simpa[LB,iG] using hb) | exact qG fun b hb=>hrd b (by simp[LB,iG,hb]))
    |simp[AU,gJ] at hq
  case makeMap t r=>cases r<;>rfl
 rw[h1]
 cases hqq:gJ o with
 |true=>exact A6 hqq h
 |false=>
  simp only[AU,hqq,pb] at hq
  obtain⟨dst,op,type,pos,after,guard⟩:=o
  cases op<;>simp only[o0] at hq<;>simp only[If] at h<;>simp only[uz]
  case box t v=>rw[h v (by simp)]
  case buildSlice t n ps=>
   have:ps.toList.map (fun q=>(q.1,ρ q.2))=ps.toList.map fun q=>(q.1,ρ' q.2):=
    yn fun q hq=>by rw[h q.2 (by simp only[Hk,fb];exact⟨q,hq,rfl⟩)]
   rw[this]
  case makeSlice t l c=>rw[h l (by simp),h c (by simp)]
  case store t a v=>rw[h a (by simp),h v (by simp)]
  case makeMap t r=>cases r<;>rfl
  case lookup t x i ok=>rw[h x (by simp),h i (by simp)]
  case mapUpdate t x k v=>rw[h x (by simp),h k (by simp),h v (by simp)]
  case insert t x k v=>rw[h x (by simp),h k (by simp),h v (by simp)]
  case call c=>
   obtain⟨callee,args,tys⟩:=c
   cases callee with
   |value _=>simp at hq
   |invoke _ _=>simp at hq
   |builtin b=>
    simp only[Call.operands] at h
    obtain⟨args⟩:=args
    cases b<;>simp only[o0] at hq
    all_goals
     rcases args with _ | ⟨x,_ | ⟨y,_ | ⟨z,r⟩⟩⟩<;>first | rfl | simp only[h x (by simp),h y (by simp)] | simp only[h x (by simp)]
theorem Dd {ρ ρ':Operand→AV} {o:Oper} (h : ∀x∈o.op.operands,ρ x=ρ' x):target ρ o=target ρ' o:=by
 obtain⟨dst,op,type,pos,after,guard⟩:=o
 cases op<;>try rfl
 case call c=>
  obtain⟨callee,args,tys⟩:=c
  cases callee with
  |value f=>
   simp only[If,Call.operands] at h
   have h1:ρ f=ρ' f:=h f (by simp)
   have h2:args.toList.map ρ=args.toList.map ρ':=yn fun x hx=>h x (by simp_all)
   simp only[target,h1,h2]
  |_=>rfl
theorem iP : ∀(us:oX) (m:Mem) (b:Nat),b∉us.map (·.1)→(apply m us)[b]? = m[b]?
 |[],_,_,_=>rfl
 |(i,x)::us,m,b,h=>by
  simp only[s0,yo,not_or] at h
  simp only[apply]
  rw[iP us _ b h.2,List.getElem?_set_ne (fun e=>h.1 e.symm)]
theorem Fb : ∀(us:oX) (m m':Mem) (b:Nat),m.length=m'.length→b∈us.map (·.1)→(apply m us)[b]? = (apply m' us)[b]?
 |(i,x)::us,m,m',b,hl,h=>by
  simp only[apply]
  by_cases hb:b∈us.map (·.1)
  · exact Fb us _ _ b (by simp[hl]) hb
  · rw[iP us _ b hb,iP us _ b hb]
    simp only[s0,yo] at h
    have:b=i:=h.resolve_right hb
    subst this
    simp only[List.getElem?_set,hl,if_true]
abbrev gW.w (d:gW):List Nat:=d.us.map (·.1)
structure kF (ds:List gW) (base:Mem) (S:Nat→Prop) (M:Mem):Prop where
 len:M.length=base.length
 out : ∀b,(∀j d,S j→ds[j]? = some d→b∉d.w)→M[b]? = base[b]?
 last : ∀j d b,S j→ds[j]? = some d→b∈d.w→(∀k e,S k→j<k→ds[k]? = some e→b∉e.w)→M[b]? = (apply base d.us)[b]?
theorem kF.nil {ds:List gW} {base:Mem} {S:Nat→Prop} (h : ∀j,¬S j):kF ds base S base:=⟨rfl,fun _ _=>rfl,fun j _ _ hj=>absurd hj (h j)⟩
theorem kF.step {ds:List gW} {base M:Mem} {S S':Nat→Prop} {i:Nat} {d:gW} (h:kF ds base S M) (hd:ds[i]? = some d) (hS : ∀j,S' j↔S j∨j=i) (hi : ¬S i)
  (aj1 : ∀j e,S j→i<j→ds[j]? = some e → ∀b∈d.w,b∉e.w):kF ds base S' (apply M d.us):=by
 refine⟨by rw[eK];exact h.len,fun b hb=> ?_,fun j e b hj he z6 hl=> ?_⟩
 · rw[iP _ _ _ (hb i d ((hS i).2 (.inr rfl)) hd)]
   exact h.out b fun j e hj he=>hb j e ((hS j).2 (.inl hj)) he
 · rcases(hS j).1 hj with hj' | rfl
   · have hbd:b∉d.w:=by
      intro q
      rcases H0 j i with hlt | heq | hgt
      · exact hl i d ((hS i).2 (.inr rfl)) hlt hd q
      · subst heq;exact hi hj'
      · exact aj1 j e hj' hgt he b q z6
     rw[iP _ _ _ hbd]
     exact h.last j e b hj' he z6 fun k x hk Tu hx=>hl k x ((hS k).2 (.inl hk)) Tu hx
   · rw[hd] at he;cases he
     exact Fb _ _ _ _ h.len z6
theorem J0 {p:Nat→Prop} {n:Nat} (hb : ∀k,p k→k<n) : ∀(r j:Nat),n-j=r→p j → ∃j,p j ∧ ∀k,p k → ¬j<k:=by
 intro r
 induction r using H3 with
 |ind r ih=>
  intro j hr hj
  by_cases h : ∃k,p k∧j<k
  · obtain⟨k,hk,Tu⟩:=h
    have:=hb k hk
    exact ih (n-k) (by omega) k rfl hk
  · exact⟨j,hj,fun k hk Tu=>h ⟨k,hk,Tu⟩⟩
theorem kF.agree {ds:List gW} {base M M':Mem} {S T:Nat→Prop} (h:kF ds base S M) (h':kF ds base T M') {b:Nat} (hST : ∀j d,ds[j]? = some d→b∈d.w→(S j↔T j)):M[b]? = M'[b]? :=by
 by_cases hw : ∃j d,S j∧ds[j]? = some d∧b∈d.w
 · obtain⟨j0,d0,q1,q2,q3⟩:=hw
   obtain⟨j,⟨hj,d,hd,hbd⟩,hl⟩:=J0 (p:=fun j=>S j ∧ ∃d,ds[j]? = some d∧b∈d.w) (n:=ds.length) (fun k ⟨_,d,hd,_⟩=>(dT.1 hd).1) _ j0 rfl ⟨q1,d0,q2,q3⟩
   rw[h.last j d b hj hd hbd fun k e hk Tu he z6=>hl k ⟨hk,e,he,z6⟩ Tu,
    h'.last j d b ((hST j d hd hbd).1 hj) hd hbd fun k e hk Tu he z6=>hl k ⟨(hST k e he z6).2 hk,e,he,z6⟩ Tu]
 · rw[h.out b fun j d hj hd hbd=>hw ⟨j,d,hj,hd,hbd⟩,h'.out b fun j d hj hd hbd=>hw ⟨j,d,(hST j d hd hbd).2 hj,hd,hbd⟩]
def ny (m:Mem):List gW→Mem
 |[]=>m
 |d::r=>ny (apply m d.us) r
theorem rT (m:Mem) : ∀(ds es:List gW),ny m (ds++es)=ny (ny m ds) es
 |[],_=>rfl
 |d::ds,es=>rT (apply m d.us) ds es
theorem xp (ds:List gW) (base:Mem) : ∀i,i≤ds.length→kF ds base (· < i) (ny base (ds.take i))
 |0,_=>kF.nil fun _ h=>absurd h (ss _)
 |i+1,h=>by
  have hi:i<ds.length:=h
  rw[List.take_succ_eq_append_getElem hi,rT]
  exact(xp ds base i (by omega)).step (d:=ds[i]) (da hi) (fun j=>by omega) (by omega) fun j e hj hij=>absurd hj (by omega)
def me (nx:Nat) (m:Mem):Prop:= ∀i,nx≤i→i<m.length→m[i]? = some .free
def LDo (P:Program) (E:Env) (wr:Oper→Bool) (st:St) (nx:Nat) (o:Oper) (d:gW) (kg:Nat):Prop:=
 (∃g args v m1,target (ev E st.tm) o=some (g,args)∧az P E g (eR (idx (close st.mem 0 args)) args) (pack st.mem (close st.mem 0 args)) v m1∧(close st.mem 0 args).length≤m1.length ∧
   (∀i∈close st.mem 0 args,i<nx)∧kg=nx+(m1.length-(close st.mem 0 args).length)∧kg≤st.mem.length∧d=o8 st.mem.length nx (close st.mem 0 args) v m1) ∨
 (target (ev E st.tm) o=none∧AU o=true∧uz P (fun i=>st.mem.getD i .dead) (wr o) nx (ev E st.tm) o=some (d.v,d.us,true)∧d.fp=d.w++(LB (ev E st.tm) o++cond (makes o) [nx] []) ∧
   (∀b∈d.w,b<kg)∧kg=cond (makes o) (nx+1) nx∧kg≤st.mem.length∧d.ld=Yy P (ev E st.tm) o d.v)
def Fc (P:Program) (E:Env) (wr:Oper→Bool) (ops:Array Oper) (st:St) (nx:Nat) (o:Oper) (d:gW) (kg:Nat):Prop:=
 ((eG ops st.tm o = .yes ∨ ∃s b want,eG ops st.tm o = .ask s b want∧(b==want)=true)∧LDo P E wr st nx o d kg) ∨
 ((eG ops st.tm o = .no ∨ ∃s b want,eG ops st.tm o = .ask s b want∧(b==want)=false)∧d=⟨.aK [],[],[],fun _ _=>false⟩∧kg=nx)
inductive Aw (P:Program) (E:Env) (wr:Oper→Bool) (ops:Array Oper):List Oper→St→Nat→List gW→St→Nat→Prop
 |nil (st:St) (nx:Nat):Aw P E wr ops [] st nx [] st nx
 |cons (o:Oper) (r:List Oper) (st:St) (nx:Nat) (d:gW) (kg:Nat) (ds:List gW) (st':St) (p9:Nat) (hf:fits st o.dst=true) (h:Fc P E wr ops st nx o d kg)
   (hr:Aw P E wr ops r (put {st with mem:=apply st.mem d.us} o.dst d.v) kg ds st' p9):Aw P E wr ops (o::r) st nx (d::ds) st' p9
theorem Ik {t:Option AV} {r:Option (gW×Nat×Bool)} {d:gW} {nx:Nat} (h:JO t r=some (d,nx,true)):r=some (d,nx,true):=by
 unfold JO at h
 split at h
 · exact h
 · split at h
   · rename_i v d0 n0 ok
     simp only[dk,ja,di] at h
     obtain⟨rfl,rfl,h1,h2⟩:=h
     have e:=lz h2
     subst h1
     obtain⟨v0,us,fp,ld⟩:=d0
     simp only at e
     subst e
     rfl
   · cases h
theorem LM {f cK:Nat} {O:FuncId→List AV→Mem→Option (AV×Mem)} (hO : ∀g args m v m1,O g args m=some (v,m1)→az P E g args m v m1) {nx kg:Nat} {o:Oper} {st:St} {d:gW}
  (h:jC P E f cK O nx o st=some (d,kg,true)):LDo P E (fun o=>E.wr f (o.dst.getD 0)) st nx o d kg:=by
 have h:=Ik h
 unfold o9 at h
 split at h
 · rename_i g args ht
   dsimp only at h
   split at h
   · rename_i v m1 ho
     simp only[dk,ja,di] at h
     obtain⟨rfl,rfl,h1,h2,h3⟩:=h
     exact .inl ⟨g,args,v,m1,ht,hO _ _ _ _ _ ho,fg h1,gh h2,rfl,fg h3,rfl⟩
   · cases h
 · rename_i ht
   split at h
   · rename_i v us ok hop
     simp only[dk,ja,di] at h
     obtain⟨rfl,rfl,rfl,h1,h2,h3⟩:=h
     exact .inr ⟨ht,h1,hop,rfl,gh h2,rfl,fg h3,rfl⟩
   · cases h
theorem tN {f cK:Nat} {O:FuncId→List AV→Mem→Option (AV×Mem)} (hO : ∀g args m v m1,O g args m=some (v,m1)→az P E g args m v m1) {ops:Array Oper} : ∀{l:List Oper} {nx p9:Nat} {st st':St} {ds:List gW},
  iI P E f cK O ops l nx st=some (st',p9,ds,true)→Aw P E (fun o=>E.wr f (o.dst.getD 0)) ops l st nx ds st' p9
 |[],nx,p9,st,st',ds,h=>by
  simp only[iI,dk,ja,and_true] at h
  obtain⟨rfl,rfl,rfl⟩:=h
  exact .nil st nx
 |o::r,nx,p9,st,st',ds,h=>by
  have skip:(match iI P E f cK O ops r nx (put st o.dst (.aK [])) with
   |some (st',p9,ds,ok)=>some (st',p9,(⟨.aK [],[],[],fun _ _=>false⟩:gW)::ds,fits st o.dst&&ok)
   |none=>none)=some (st',p9,ds,true)→(eG ops st.tm o = .no ∨ ∃s b want,eG ops st.tm o = .ask s b want∧(b==want)=false)→Aw P E (fun o=>E.wr f (o.dst.getD 0)) ops (o::r) st nx ds st' p9:=by
   intro h hw
   split at h
   · rename_i TV kg ds1 ok hq
     simp only[dk,ja,di] at h
     obtain⟨rfl,rfl,rfl,h1,rfl⟩:=h
     exact .cons o r st nx _ nx _ _ _ h1 (.inr ⟨hw,rfl,rfl⟩) (tN hO hq)
   · cases h
  have rA:(match jC P E f cK O nx o st with
   |some (d,kg,ok)=>match iI P E f cK O ops r kg (put {st with mem:=apply st.mem d.us} o.dst d.v) with
    |some (st',p9,ds,ok')=>some (st',p9,d::ds,ok&&(fits st o.dst&&ok'))
    |none=>none
   |none=>none)=some (st',p9,ds,true)→(eG ops st.tm o = .yes ∨ ∃s b want,eG ops st.tm o = .ask s b want∧(b==want)=true)→Aw P E (fun o=>E.wr f (o.dst.getD 0)) ops (o::r) st nx ds st' p9:=by
   intro h hw
   split at h
   · rename_i d kg ok hop
     split at h
     · rename_i TV nx2 ds1 ok' hq
       simp only[dk,ja,di] at h
       obtain⟨rfl,rfl,rfl,rfl,h1,rfl⟩:=h
       exact .cons o r st nx d kg _ _ _ h1 (.inl ⟨hw,LM hO hop⟩) (tN hO hq)
     · cases h
   · cases h
  unfold iI at h
  dsimp only at h
  cases hw:eG ops st.tm o with
  |yes=>rw[hw] at h;exact rA h (.inl hw)
  |no=>rw[hw] at h;exact skip h (.inl hw)
  |lost=>rw[hw] at h;cases h
  |ask s b want=>
   rw[hw] at h
   dsimp only at h
   cases hb:b==want with
   |true=>rw[hb] at h;exact rA h (.inr ⟨s,b,want,hw,hb⟩)
   |false=>rw[hb] at h;exact skip h (.inr ⟨s,b,want,hw,hb⟩)
theorem A7 {N nx:Nat} {ord:List Nat} {v:AV} {m1:Mem} {b:Nat} (h:b∈(o8 N nx ord v m1).w):b∈(o8 N nx ord v m1).fp:=by
 simp only[o8,gW.w,fb] at h ⊢
 obtain⟨q,hq,rfl⟩:=h
 exact(List.of_mem_zip hq).1
theorem LDo.facts {wr:Oper→Bool} {st:St} {nx kg:Nat} {o:Oper} {d:gW} (h:LDo P E wr st nx o d kg):nx≤kg∧kg≤st.mem.length∧(∀b∈d.w,b<kg) ∧ ∀b∈d.w,b∈d.fp:=by
 rcases h with⟨g,args,v,m1,_,_,h1,h2,rfl,h3,rfl⟩ | ⟨_,_,_,h1,h2,rfl,h3,_⟩
 · refine⟨by omega,h3,fun b hb=> ?_,fun b hb=>A7 hb⟩
   have:=A7 hb
   simp only[o8,na,zt] at this
   rcases this with q | q
   · have:=h2 b q;omega
   · omega
 · refine⟨by cases makes o<;>simp,h3,h2,fun b hb=> ?_⟩
   rw[h1]
   exact yi _ hb
theorem Fc.facts {wr:Oper→Bool} {ops:Array Oper} {st:St} {nx kg:Nat} {o:Oper} {d:gW} (h:Fc P E wr ops st nx o d kg) (hn:nx≤st.mem.length):nx≤kg∧kg≤st.mem.length∧(∀b∈d.w,b<kg) ∧ ∀b∈d.w,b∈d.fp:=by
 rcases h with⟨_,h⟩ | ⟨_,rfl,rfl⟩
 · exact h.facts
 · exact⟨c9 _,hn,by simp,by simp⟩
theorem dR.xq {l:List Oper} {vs:List AV} {S S' T T':St} {i:Nat} (h:dR l vs S i T) (h1:S'.tm=S.tm) (h2:S'.nt=S.nt) (h3:S'.fix=S.fix) (h4:T'.tm=T.tm) (h5:T'.nt=T.nt) (h6:T'.fix=T.fix) (h7:T'.mem=S'.mem):dR l vs S' i T':=by
 obtain⟨_,q2,q3,q4,q5⟩:=h
 refine⟨h7,by rw[h5,h2];exact q2,by rw[h6,h3];exact q3,?_,?_⟩
 · intro j p v t a b c d;rw[h4];exact q4 j p v t a b c d
 · intro t ht;rw[h4,h1];exact q5 t ht
theorem uJ (st:St) (m:Mem) (dst:Option Tmp) (v:AV):put {st with mem:=m} dst v={put st dst v with mem:=m}:=by cases dst<;>rfl
theorem Aw.spec {wr:Oper→Bool} {ops:Array Oper} {l:List Oper} {st st':St} {nx p9:Nat} {ds:List gW} (h:Aw P E wr ops l st nx ds st' p9) (hu:E8 l) (hn:nx≤st.mem.length) (hfr:me nx st.mem) :
  ds.length=l.length∧dR l (ds.map (·.v)) st l.length {st' with mem:=st.mem}∧st'.mem=ny st.mem ds∧st'.cT=st.cT ∧
    ∀(i:Nat) (o:Oper),l[i]? = some o → ∃d jc xu Fe,ds[i]? = some d∧Fc P E wr ops jc xu o d Fe∧fits jc o.dst=true∧dR l (ds.map (·.v)) st i {jc with mem:=st.mem}∧jc.mem=ny st.mem (ds.take i)∧me xu jc.mem∧xu≤jc.mem.length:=by
 induction h with
 |nil st nx=>exact⟨rfl,⟨rfl,rfl,rfl,fun j _ _ _ hj=>absurd hj (ss _),fun _ _=>rfl⟩,rfl,rfl,fun i o ho=>by simp at ho⟩
 |cons o r st nx d kg ds st' p9 hf hk hr ih=>
  have Ts:E8 r:=fun i j p q t hij hp hq=>hu (i+1) (j+1) p q t (by omega) (by simpa using hp) (by simpa using hq)
  obtain⟨f1,f2,f3,f4⟩:=hk.facts hn
  have hm:(put {st with mem:=apply st.mem d.us} o.dst d.v).mem=apply st.mem d.us:=by rw[uJ]
  have aj3:me kg (apply st.mem d.us):=by
   intro i hi hl
   rw[eK] at hl
   rw[iP _ _ _ fun q=>by have:=f3 i q;omega]
   exact hfr i (by omega) hl
  obtain⟨h1,h2,h3,h5,h4⟩:=ih Ts (by rw[hm,eK];exact f2) (by rw[hm];exact aj3)
  have shift : ∀{i:Nat} {T:St},dR r (ds.map (·.v)) (put {st with mem:=apply st.mem d.us} o.dst d.v) i {T with mem:=(put {st with mem:=apply st.mem d.us} o.dst d.v).mem} →
    dR (o::r) ((d::ds).map (·.v)) st (i+1) {T with mem:=st.mem}:=by
   intro i T hs
   refine dR.cons (vs:=ds.map (·.v)) (v:=d.v) hu (hs.xq (S':=put st o.dst d.v) (T':={T with mem:=st.mem}) ?_ ?_ ?_ rfl rfl rfl ?_)
   · cases o.dst<;>rfl
   · cases o.dst<;>rfl
   · cases o.dst<;>rfl
   · exact(Db st o.dst d.v).1.symm
  refine⟨by simp[h1],shift h2,by rw[h3,hm];rfl,h5.trans (by cases o.dst<;>rfl),?_⟩
  intro i p hp
  cases i with
  |zero=>
   simp only[mf,dk] at hp
   subst hp
   exact⟨d,st,nx,kg,rfl,hk,hf,⟨rfl,rfl,rfl,fun j _ _ _ hj=>absurd hj (ss _),fun _ _=>rfl⟩,rfl,hfr,hn⟩
  |succ i=>
   obtain⟨e,jc,xu,Fe,q1,q2,q3,q4,q5,q6,q7⟩:=h4 i p (by simpa using hp)
   refine⟨e,jc,xu,Fe,by simpa using q1,q2,q3,shift q4,?_,q6,q7⟩
   rw[q5,hm];rfl
def T1 (d e:gW):Prop:=e.us=[] ∧ ∀b∈d.w,b∈e.fp → ∃x,wz d.us b=some x∧e.ld b x=true
theorem xw : ∀{l:List Nat} {i:Nat},i∈l→has l i=true
 |j::r,i,h=>by
  simp only[has]
  cases hb:ba j i with
  |true=>rfl
  |false=>
   rcases yo.1 h with e | h
   · subst e;rw[sm] at hb;cases hb
   · exact xw h
theorem Il {d e:gW} (h:CQ d e=true):T1 d e:=by
 simp only[CQ,di,a6] at h
 refine⟨?_,fun b hb hf=> ?_⟩
 · have h1:=h.1
   cases hu:e.us with
   |nil=>rfl
   |cons _ _=>rw[hu] at h1;cases h1
 · have:=h.2 b hb
   rw[xw hf,wc,pb] at this
   split at this
   · rename_i x hx
     exact⟨x,hx,this⟩
   · cases this
theorem xy : ∀{us:oX} {b:Nat},wz us b=none→b∉us.map (·.1)
 |[],_,_=>by simp
 |(i,x)::r,b,h=>by
  simp only[wz] at h
  split at h
  · cases h
  · rename_i hr
    cases hb:ba i b with
    |true=>rw[hb] at h;cases h
    |false=>
     simp only[s0,yo,not_or]
     exact⟨fun e=>(by subst e;rw[sm] at hb;cases hb),xy hr⟩
theorem xz : ∀{us:oX} {m:Mem} {b:Nat} {x:bq},wz us b=some x→b<m.length→(apply m us)[b]? = some x
 |(i,y)::r,m,b,x,h,hb=>by
  simp only[wz] at h
  simp only[apply]
  split at h
  · rename_i z hz
    simp only[dk] at h
    subst h
    exact xz hz (by simpa using hb)
  · rename_i hr
    cases hib:ba i b with
    |false=>rw[hib] at h;cases h
    |true=>
     rw[hib] at h
     simp only[cond_true,dk] at h
     subst h
     have:=be hib
     subst this
     rw[iP r _ _ (xy hr),List.getElem?_set_self hb]
structure LOk (L:List Nat) (ds:List gW):Prop where
 pair : ∀(i j:Nat) (d e:gW),j<i→ds[i]? = some d→ds[j]? = some e→cp (L.getD i 0) j=true∨((∀b∈e.w,b∉d.fp)∧((∀b∈d.w,b∉e.fp)∨T1 d e))
theorem tO {a b:List Nat} (h:meet a b=false) : ∀i∈a,i∉b:=fun _ ha hb=>mX h ha hb
theorem uK {L:List Nat} : ∀{r nF:List gW},wA L nF.length nF r=true → ∀(i j:Nat) (d e:gW),nF.length≤i→j<i→(nF++r)[i]? = some d→(nF++r)[j]? = some e →
  cp (L.getD i 0) j=true∨((∀b∈e.w,b∉d.fp)∧((∀b∈d.w,b∉e.fp)∨T1 d e))
 |[],nF,_,i,j,d,e,hi,_,hd,_=>by
  simp only[Hc] at hd
  rw[eb hi] at hd;cases hd
 |d0::r,nF,h,i,j,d,e,hi,hj,hd,he=>by
  simp only[wA,di] at h
  by_cases hc:i=nF.length
  · subst hc
    have:d=d0:=by simpa using hd.symm
    subst this
    have key : ∀(l:List gW) (k:Nat),rC L nF.length d k l=true → ∀m x,l[m]? = some x→CR L nF.length d (k+m) x=true:=by
     intro l
     induction l with
     |nil=>intro k _ m x hx;simp at hx
     |cons y l ih=>
      intro k hk m x hx
      simp only[rC,di] at hk
      cases m with
      |zero=>simp only[mf,dk] at hx;subst hx;exact hk.1
      |succ m=>
       simp only[mi] at hx
       have:=ih (k+1) hk.2 m x hx
       rwa [fw,H4 1 m] at this
    have he':nF[j]? = some e:=by rwa [nz hj] at he
    have:=key nF 0 h.1 j e he'
    simp only[CR,Nat.zero_add,iu,di,iv] at this
    rcases this with q | ⟨q1,q2 | q2⟩
    · exact .inl q
    · exact .inr ⟨tO q1,.inl (tO q2)⟩
    · exact .inr ⟨tO q1,.inr (Il q2)⟩
  · have h':wA L (nF++[d0]).length (nF++[d0]) r=true:=by simpa using h.2
    exact uK h' i j d e (by simp;omega) hj (by simpa using hd) (by simpa using he)
theorem uL {m m':Mem} : ∀(f:Nat) (ord:List Nat) (k:Nat),ord.Nodup→(∀i∈reach m f ord k,m.getD i .dead=m'.getD i .dead)→reach m' f ord k=reach m f ord k
 |0,_,_,_,_=>rfl
 |f+1,ord,k,hnd,h=>by
  simp only[reach] at h ⊢
  cases hk:ord[k]? with
  |none=>rfl
  |some i=>
   simp only[hk] at h
   dsimp only
   have Ib:=(ep (AR (m.getD i .dead)) ord hnd).1
   obtain⟨t1,h1⟩:=(ep (AR (m.getD i .dead)) ord hnd).2
   obtain⟨t2,h2⟩:=(mU m f _ (k+1) Ib).2
   have hi:m.getD i .dead=m'.getD i .dead:=h i (by rw[h2,h1];exact yi _ (yi _ (mv hk)))
   rw[←hi]
   exact uL f _ (k+1) Ib h
theorem Ff {m m':Mem} {args:List AV} (hl:m.length=m'.length) (h : ∀i∈close m 0 args,m.getD i .dead=m'.getD i .dead):close m' 0 args=close m 0 args:=by
 unfold close at h ⊢
 rw[←hl]
 exact uL _ _ _ (ep _ _ (kE 0)).1 h
theorem Io {m m':Mem} {ord:List Nat} (h : ∀i∈ord,m.getD i .dead=m'.getD i .dead):pack m' ord=pack m ord:=by
 unfold pack
 exact yn fun i hi=>by rw[h i hi]
theorem qe (ρ:Nat→Option Nat) : ∀(ord:List Nat) (m1 m:Mem),ord.length=m1.length→dD ρ ord m1 m=apply m (ord.zip (m1.map (fM ρ)))
 |[],[],m,_=>by simp[dD,apply]
 |i::ord,b::m1,m,h=>by
  simp only[dD,s0,List.zip_cons_cons,apply]
  exact qe ρ ord m1 _ (by simpa using h)
 |[],_::_,_,h=>by simp at h
 |_::_,[],_,h=>by simp at h
theorem Rel.YY {g g1:Gh} {m m1:Mem} {w w':World} (h:Rel g m w) {ord R:List Nat} (hnd:(ord++R).Nodup) (hlt : ∀i∈ord++R,i<m.length) (hR : ∀i∈R,m[i]? = some .free)
  (h1:Rel g1 m1 w') (hs:dF (g.pack ord) (Am.pack m ord) w g1 m1 w') (hf:bZ (g.pack ord) g1 ord.length) (hl:(ord++R).length=m1.length) :
  ∃g',Rel g' (apply m ((ord++R).zip (m1.map (fM (bM (ord++R) m.length))))) w'∧Ext g w g' w'∧dF g m w g' (apply m ((ord++R).zip (m1.map (fM (bM (ord++R) m.length))))) w'∧dG (bM (ord++R) m.length) g1 g':=by
 have own : ∀c,fH (g.pack ord) (Am.pack m ord) c→fH (g.pack (ord++R)) (Am.pack m (ord++R)) c:=by
  rintro c ⟨k,b,hk,ho,hc⟩
  obtain⟨i,hi,rfl⟩:=kD hk
  have hi':(ord++R)[k]? = some i:=by rw[nz (bS hi)];exact hi
  refine⟨k,fM (idx (ord++R)) (m.getD i .dead),?_,by rw[l8] at ho ⊢;exact ho,?_⟩
  · simp only[Am.pack,ek,hi',ie]
  · simpa[Gh.pack,hi,hi'] using hc
 have hs':dF (g.pack (ord++R)) (Am.pack m (ord++R)) w g1 m1 w':=
  ⟨hs.size,fun c hc hn=>hs.keep c hc fun q=>hn (own c q),hs.pure,fun c o p=>(hs.fresh c o p).imp id fun q=>q.imp (own c) id,fun c ho=>(hs.owned c ho).imp (own c) id,hs.os,hs.tape,hs.output⟩
 have hf':bZ (g.pack (ord++R)) g1 (ord++R).length:=by
  intro k c hk hc
  rcases ft k ord.length with q | q
  · have e:(ord++R)[k]? = ord[k]? :=nz q
    have:=hf k c q (by simpa[Gh.pack,e] using hc)
    simpa[Gh.pack,e] using this
  · have e:(ord++R)[k]? = R[k-ord.length]? :=yr q
    simp only[Gh.pack,e] at hc
    cases hr:R[k-ord.length]? with
    |none=>rw[hr] at hc;cases hc
    |some i=>
     rw[hr] at hc
     simp only[sg] at hc
     rw[h.free i (hR i (mv hr))] at hc;cases hc
 obtain⟨r1,r2,r3,r4⟩:=h.back hnd hlt h1 hs' hf' (by omega)
 rw[qe _ _ _ _ hl] at r1 r3
 exact⟨_,r1,r2,r3,r4⟩
theorem xA {m m':Mem} {i:Nat} (h:m[i]? = m'[i]?):m.getD i .dead=m'.getD i .dead:=by
 rw[de,de,h]
end
end Go.Am
end
section
namespace Go.Am
open Go.RowKit
section
variable {P:Program} {E:Env}
theorem mY : ∀(ds:List gW) (m:Mem),(ny m ds).length=m.length
 |[],_=>rfl
 |d::ds,m=>by rw[ny,mY ds,eK]
structure X9 (P:Program) (E:Env) (wr:Oper→Bool) (ops:Array Oper) (m:Nat) (gL:St) (ds:List gW) (st':St):Prop where
 len:ds.length=ops.toList.length
 ends:dR ops.toList (ds.map (·.v)) gL m {st' with mem:=gL.mem}
 mem:st'.mem=ny gL.mem (ds.take m)
 each : ∀(i:Nat) (o:Oper),ops.toList[i]? = some o→i<m → ∃d jc xu Fe,ds[i]? = some d∧Fc P E wr ops jc xu o d Fe∧fits jc o.dst=true∧dR ops.toList (ds.map (·.v)) gL i {jc with mem:=gL.mem}∧jc.mem=ny gL.mem (ds.take i)∧me xu jc.mem∧xu≤jc.mem.length
 dum : ∀(i:Nat) (e:gW),m≤i→ds[i]? = some e→e.us=[]
theorem nH.ae5 {ops:Array Oper} {L:List Nat} {vs:List AV} {gL eP:St} {S:Array Bool} (hI:nH ops L vs gL eP S) (hl:vs.length=ops.toList.length) {st':St} {m:Nat} (hst:dR ops.toList vs gL m st') (hall : ∀i,i<m→S.getD i false=true) (hnot : ∀i,m≤i→S.getD i false=false) :
  eP.mem=st'.mem∧eP.nt=st'.nt∧eP.fix=st'.fix ∧ ∀t,look eP.tm t=look st'.tm t:=by
 obtain⟨h1,h2,h3,hA,hB⟩:=hst
 have lt : ∀j,S.getD j false=true→j<m:=fun j hj=>by
  rcases ft j m with q | q
  · exact q
  · rw[hnot j q] at hj;cases hj
 refine⟨hI.mem.trans h1.symm,hI.nt.trans h2.symm,hI.fix.trans h3.symm,fun t=> ?_⟩
 by_cases hw : ∃(j:Nat) (p:Oper),j<m∧ops.toList[j]? = some p∧p.dst=some t
 · obtain⟨j,p,hj,hp,hd⟩:=hw
   have hjl:=(dT.1 hp).1
   have Ov:vs[j]? = some vs[j]:=da (by rw[hl];exact hjl)
   rw[hI.a j p _ t (hall j hj) hp Ov hd,hA j p _ t hj hp Ov hd]
 · rw[hI.b t fun k q hk hq hd=>hw ⟨k,q,lt k hk,hq,hd⟩,hB t fun k q hk hq hd=>hw ⟨k,q,hk,hq,hd⟩]
theorem T2 {ops:Array Oper} {S:Array Bool} (h : ∀i,i<ops.size→S.getD i false=true) (hs:S.size=ops.size) (fuel t:Nat):Lk .any ops fuel t S []=[]:=by
 cases fuel with
 |zero=>rfl
 |succ fuel=>
  have hr:wx .any ops S=[]:=by
   cases hr:wx .any ops S with
   |nil=>rfl
   |cons x xs=>
    have hx:x∈wx .any ops S:=by rw[hr];exact .head _
    obtain⟨h1,o,ho,_⟩:=mem_ready.1 hx
    have hlt:=(xn.1 ho).1
    have:=h x hlt
    rw[l9 (by omega) false true,h1] at this
    cases this
  simp only[Lk]
  show(match(wx .any ops S)[t%(wx .any ops S).length]? with
   |some i=>Lk .any ops fuel (t / (wx .any ops S).length) (S.setIfInBounds i true) [i]
   |none=>[].reverse)=[]
  rw[hr]
  rfl
theorem T3 {b:Frame} {k:List Item} (cs:List Frame) {ops:Array Oper} {L:List Nat} {ds:List gW} {gL st':St} {m:Nat} {wr:Oper→Bool} (hO:vp ops L) (hL:LOk L ds) (hrun:X9 P E wr ops m gL ds st')
  (hm:m=ops.size∨(m+1=ops.size ∧ ∀j,j<m→cp (L.getD m 0) j=true)) : ∀(fuel t:Nat) (S:Array Bool) (eP:St) (a:Act) (g:Gh) (w:World) (u:List Nat),
    nH ops L (ds.map (·.v)) gL {eP with mem:=gL.mem} S→kF ds gL.mem (fun j=>S.getD j false=true) eP.mem→cU E g eP a w→u.length=fuel→(∀i,i<ops.size→S.getD i false=false→i∈u)→(∀i,m≤i→S.getD i false=false) →
    ∃g' a' w',Steps P (lone (b.atR a (.inRegion ops (Lk .any ops fuel t S [])::k)) cs w) (lone (b.atR a' (.inRegion ops (ui m (ops.size-m))::k)) cs w')∧a'.defers=a.defers∧cU E g' st' a' w' ∧
     dF g eP.mem w g' st'.mem w'∧bZ g g' gL.fix ∧ ∀i c,g.bX i=some c→g'.bX i=some c:=by
 obtain⟨hdl,hend,hmem,hspec,ae6⟩:=hrun
 have hl:(ds.map (·.v)).length=ops.toList.length:=by simpa using hdl
 have anV:ds.length=ops.size:=by simpa using hdl
 have YD:m≤ops.size:=by omega
 have fin : ∀(S:Array Bool) (eP:St) (a:Act) (g:Gh) (w:World),nH ops L (ds.map (·.v)) gL {eP with mem:=gL.mem} S→kF ds gL.mem (fun j=>S.getD j false=true) eP.mem→cU E g eP a w →
   (∀i,i<m→S.getD i false=true)→(∀i,m≤i→S.getD i false=false)→cU E g st' a w∧eP.mem=st'.mem:=by
  intro S eP a g w hI hM hs hall hnot
  obtain⟨_,e2,e3,e4⟩:=hI.ae5 hl hend hall hnot
  have hm:eP.mem=st'.mem:=by
   apply List.ext_getElem?
   intro i
   rw[hmem]
   have h2:=xp ds gL.mem m (by omega)
   refine hM.agree h2 fun j d hd _=> ?_
   refine⟨fun hS=> ?_,fun hj=>hall j hj⟩
   rcases ft j m with q | q
   · exact q
   · rw[hnot j q] at hS;cases hS
  exact⟨hs.same hm e2 e3 e4,hm⟩
 have full : ∀(S:Array Bool),(∀i,i<ops.size→S.getD i false=true)→(∀i,m≤i→S.getD i false=false)→m=ops.size:=by
  intro S h1 h2
  rcases hm with q | ⟨q,_⟩
  · exact q
  · have:=h1 m (by omega);rw[h2 m (c9 _)] at this;cases this
 intro fuel
 induction fuel with
 |zero=>
  intro t S eP a g w u hI hM hs YV hu hnot
  have hall : ∀i,i<ops.size→S.getD i false=true:=by
   intro i hi
   cases hq:S.getD i false with
   |true=>rfl
   |false=>
    have:=hu i hi hq
    rw[Fs YV] at this;cases this
  have hms:=full S hall hnot
  obtain⟨h1,h2⟩:=fin S eP a g w hI hM hs (fun i hi=>hall i (by omega)) hnot
  refine⟨g,a,w,?_,rfl,h1,by rw[h2];exact dF.refl _ _ _,bZ.refl _ _,fun _ _ h=>h⟩
  rw[hms,H2,Hb]
  exact M2 _ _
 |succ fuel ih=>
  intro t S eP a g w u hI hM hs YV hu hnot
  simp only[Lk]
  show ∃g' a' w',Steps P (lone (b.atR a (.inRegion ops (match(wx .any ops S)[t%(wx .any ops S).length]? with
   |some i=>Lk .any ops fuel (t / (wx .any ops S).length) (S.setIfInBounds i true) [i]
   |none=>[].reverse)::k)) cs w) (lone (b.atR a' (.inRegion ops (ui m (ops.size-m))::k)) cs w')∧_
  cases hi:(wx .any ops S)[t%(wx .any ops S).length]? with
  |none=>
   have OQ:wx .any ops S=[]:=by
    cases hr:wx .any ops S with
    |nil=>rfl
    |cons x xs=>
     rw[hr] at hi
     have hlt:t%(x::xs).length<(x::xs).length:=pw _ (by simp)
     rw[da hlt] at hi;cases hi
   have hall:=hI.all hO OQ
   have hms:=full S hall hnot
   obtain⟨h1,h2⟩:=fin S eP a g w hI hM hs (fun i hi=>hall i (by omega)) hnot
   refine⟨g,a,w,?_,rfl,h1,by rw[h2];exact dF.refl _ _ _,bZ.refl _ _,fun _ _ h=>h⟩
   rw[hms,H2,Hb]
   exact M2 _ _
  |some i=>
   have TX:=mv hi
   obtain⟨hSi,o,ho,_⟩:=mem_ready.1 TX
   have ho':ops.toList[i]? = some o:=by simpa using ho
   have hilt:i<ops.size:=(xn.1 ho).1
   by_cases him:i<m
   case neg=>
    have hme:i=m∧m+1=ops.size ∧ ∀j,j<m→cp (L.getD m 0) j=true:=by
     rcases hm with q | ⟨q1,q2⟩
     · omega
     · exact⟨by omega,q1,q2⟩
    obtain⟨rfl,hsz,ae7⟩:=hme
    have hall : ∀j,j<i→S.getD j false=true:=fun j hj=>hI.ahead hO TX (ae7 j hj)
    obtain⟨h1,h2⟩:=fin S eP a g w hI hM hs hall hnot
    dsimp only
    rw[linearise_go_acc,yv,zd,T2 (fun j hj=>by
     by_cases e:i=j
     · subst e;simp[vd,hI.size,hj]
     · rw[getD_set_ne false e];exact hall j (by omega)) (by simp[hI.size])]
    refine⟨g,a,w,?_,rfl,h1,by rw[h2];exact dF.refl _ _ _,bZ.refl _ _,fun _ _ h=>h⟩
    rw[show ops.size-i=1 by omega,List.range'_one]
    exact M2 _ _
   obtain⟨d,jc,xu,Fe,hd,hk,hf,Ii,hmi,ae8,aj6⟩:=hspec i o ho' him
   have hv:(ds.map (·.v))[i]? = some d.v:=by rw[ek,hd];rfl
   have xl : ∀t∈slots ops o,look eP.tm t=look jc.tm t:=fun t ht=>hI.slots hO ho' TX hl Ii ht
   have hid:i<ds.length:=(dT.1 hd).1
   have hni:S.getD i false=false:=by rw[l9 (by rw[hI.size];exact hilt) false true];exact hSi
   have OR:i∈u:=hu i hilt hni
   have Ts : ∀j,j<ops.size→(S.setIfInBounds i true).getD j false=false→j∈u.erase i:=by
    intro j hj hq
    have hne:j≠i:=by
     intro e
     subst e
     rw[show(S.setIfInBounds j true).getD j false=true by simp[vd,hI.size,hj]] at hq
     cases hq
    rw[getD_set_ne false (fun e=>hne e.symm)] at hq
    exact(Hd hne).2 (hu j hj hq)
   have ae9 : ∀j,m≤j→(S.setIfInBounds i true).getD j false=false:=by
    intro j hj
    rw[getD_set_ne false (by omega)]
    exact hnot j hj
   have TY:(u.erase i).length=fuel:=by rw[Ha OR,YV];rfl
   have Ag : ∀j,(S.setIfInBounds i true).getD j false=true↔S.getD j false=true∨j=i:=by
    intro j
    by_cases h:i=j
    · subst h
      simp[vd,hI.size,hilt]
    · rw[getD_set_ne false h]
      exact⟨.inl,fun q=>q.resolve_right fun e=>h e.symm⟩
   have hwf : ∀b∈d.w,b∈d.fp:=(hk.facts aj6).2.2.2
   have wfp : ∀(j:Nat) (e:gW),ds[j]? = some e → ∀b∈e.w,b∈e.fp:=by
    intro j e he
    have hj:=(dT.1 he).1
    have hoj:ops.toList[j]? = some ops.toList[j]:=da (by omega)
    by_cases hjm:j<m
    case neg=>
     intro b hb
     rw[gW.w,ae6 j e (by omega) he] at hb
     cases hb
    obtain⟨e',stj,nxj,aj8,q1,q2,_,_,_,_,q3⟩:=hspec j _ hoj hjm
    rw[he] at q1;cases q1
    exact(q2.facts q3).2.2.2
   have hti:=xp ds gL.mem i (by omega)
   rw[←hmi] at hti
   have wlt : ∀(j:Nat) (e:gW),ds[j]? = some e → ∀b∈e.w,b<gL.mem.length:=by
    intro j e he b hb
    have hj:=(dT.1 he).1
    have hoj:ops.toList[j]? = some ops.toList[j]:=da (by omega)
    by_cases hjm:j<m
    case neg=>
     rw[gW.w,ae6 j e (by omega) he] at hb
     cases hb
    obtain⟨e',stj,nxj,aj8,q1,q2,_,_,q4,_,q3⟩:=hspec j _ hoj hjm
    rw[he] at q1;cases q1
    have h1:=(q2.facts q3).2.2.1 b hb
    have h2:=(q2.facts q3).2.1
    have h3:=mY (ds.take j) gL.mem
    rw[q4,h3] at h2
    omega
   have hag : ∀b∈d.fp,eP.mem[b]? = jc.mem[b]? ∨ (d.us=[] ∧ ∃x,eP.mem[b]? = some x∧d.ld b x=true):=by
    intro b hb
    by_cases hw : ∃j e,S.getD j false=true∧i<j∧ds[j]? = some e∧b∈e.w
    · obtain⟨j0,e0,q1,q2,q3,q4⟩:=hw
      obtain⟨j,⟨hj,e,he,z6⟩,hl⟩:=J0 (p:=fun j=>S.getD j false=true ∧ ∃d,ds[j]? = some d∧b∈d.w) (n:=ds.length) (fun k ⟨_,d,hd,_⟩=>(dT.1 hd).1) _ j0 rfl ⟨q1,e0,q3,q4⟩
      have hij:i<j:=by
       rcases ft i j with q | q
       · exact q
       · exact absurd (show j<j0 by omega) (hl j0 ⟨q1,e0,q3,q4⟩)
      have Fg:=hM.last j e b hj he z6 fun k x hk Tu hx hbx=>hl k ⟨hk,x,hx,hbx⟩ Tu
      rcases hL.pair j i e d hij he hd with q | ⟨_,q | q⟩
      · have:=hI.cl j i hj q;rw[hni] at this;cases this
      · exact absurd hb (q b z6)
      · obtain⟨x,hx,hld⟩:=q.2 b z6 hb
        rw[xz hx (wlt j e he b z6)] at Fg
        exact .inr ⟨q.1,x,Fg,hld⟩
    · refine .inl (hM.agree hti fun j e he z6=> ?_)
      rcases H0 j i with hlt | heq | hgt
      · rcases hL.pair i j d e hlt hd he with q | ⟨q,_⟩
        · exact⟨fun _=>hlt,fun _=>hI.ahead hO TX q⟩
        · exact absurd hb (q b z6)
      · subst heq
        exact⟨fun q=>(by rw[hni] at q;cases q),fun q=>absurd q (Nat.lt_irrefl _)⟩
      · exact⟨fun q=>absurd ⟨j,e,q,hgt,he,z6⟩ hw,fun q=>by omega⟩
   have OV:eP.mem.length=jc.mem.length:=hM.len.trans hti.len.symm
   have hM':kF ds gL.mem (fun j=>(S.setIfInBounds i true).getD j false=true) (apply eP.mem d.us):=by
    refine hM.step hd Ag (by rw[hni];exact fun q=>by cases q) fun j e hS hij he b hb z6=> ?_
    rcases hL.pair j i e d hij he hd with q | ⟨q,_⟩
    · have:=hI.cl j i hS q;rw[hni] at this;cases this
    · exact q b hb (wfp j e he b z6)
   have hI':=hI.step hO ho' hv TX
   have hfA:fits eP o.dst=true:=by
    have:fits eP o.dst=fits jc o.dst:=by unfold fits;rw[show eP.nt=gL.nt from hI.nt,show jc.nt=gL.nt from Ii.2.1]
    rw[this];exact hf
   have am3:eP.fix=gL.fix:=hI.fix
   have hput : ∀m:Mem,put {eP with mem:=gL.mem} o.dst d.v={put {eP with mem:=m} o.dst d.v with mem:=gL.mem}:=by
    intro m;cases o.dst<;>rfl
   have Ya : ∀m:Mem,(put {eP with mem:=m} o.dst d.v).mem=m:=by intro m;cases o.dst<;>rfl
   have afa:eP.fix≤(apply eP.mem d.us).length:=by rw[eK];exact hs.fix
   dsimp only
   rw[linearise_go_acc,yv,zd]
   have HR:=uI xl
   have HI:=Fa (E:=E) xl
   obtain⟨w1,w2,w3⟩:=pE hs (ops:=ops) (o:=o)
   have go : ∀(g2:Gh) (cv:Value) (w':World),VA g2 w' d.v cv→Rel g2 (apply eP.mem d.us) w'→Ext g w g2 w'→dF g eP.mem w g2 (apply eP.mem d.us) w' →
     Steps P (lone (b.atR a (.inRegion ops (i::Lk .any ops fuel (t / (wx .any ops S).length) (S.setIfInBounds i true) [])::k)) cs w)
      (lone (b.atR (a.put o.dst cv) (.inRegion ops (Lk .any ops fuel (t / (wx .any ops S).length) (S.setIfInBounds i true) [])::k)) cs w') →
     ∃g' a' w',Steps P (lone (b.atR a (.inRegion ops (i::Lk .any ops fuel (t / (wx .any ops S).length) (S.setIfInBounds i true) [])::k)) cs w) (lone (b.atR a' (.inRegion ops (ui m (ops.size-m))::k)) cs w')∧a'.defers=a.defers∧cU E g' st' a' w' ∧
      dF g eP.mem w g' st'.mem w'∧bZ g g' gL.fix ∧ ∀i c,g.bX i=some c→g'.bX i=some c:=by
    intro g2 cv w' k2 k3 k4 k5 kst
    have hs':=hs.put hfA k2 k4 k3 afa
    obtain⟨g3,a3,w3',r1,r2,r3,r4,r5,r6⟩:=ih (t / (wx .any ops S).length) (S.setIfInBounds i true) _ _ _ _ (u.erase i) (by rw[←hput];exact hI') (by rw[Ya];exact hM') hs' TY Ts ae9
    rw[Ya] at r4
    refine⟨g3,a3,w3',kst.trans r1,r2.trans put_defers,r3,k5.trans r4,(bZ.rP k4 _).trans r5,fun j c q=>r6 j c (k4.bX j c q).1⟩
   rcases hk with⟨hw,YZ⟩ | ⟨hw,rfl,rfl⟩
   · have jd:vt o (yielded ops a.tmps)=true:=by
      rcases hw with hw | ⟨s',b',want,hw,hb⟩
      · exact w1 (HR.trans hw)
      · rw[(w3 s' b' want (HR.trans hw)).1];exact hb
     rcases YZ with⟨gf,args,v,m1,ht,fJ,h1,h2,h3,h4,h5⟩ | ⟨ht,Y0,hop,hfp,an5,h3,h4,hld⟩
     · have tP : ∀b∈d.fp,eP.mem[b]? = jc.mem[b]? :=fun b hb=>(hag b hb).resolve_right fun⟨_,x,_,q⟩=>by rw[h5] at q;cases q
       have T4:target (ev E eP.tm) o=some (gf,args):=(Dd HI).trans ht
       have Y1:d.fp=close jc.mem 0 args++ui xu (m1.length-(close jc.mem 0 args).length):=by rw[h5];rfl
       have aka:close eP.mem 0 args=close jc.mem 0 args:=Ff OV.symm fun j hj=>(xA (tP j (by rw[Y1];exact yi _ hj))).symm
       have afb:pack eP.mem (close jc.mem 0 args)=pack jc.mem (close jc.mem 0 args):=Io fun j hj=>(xA (tP j (by rw[Y1];exact yi _ hj))).symm
       obtain⟨hnd,_⟩:=fo jc.mem 0 args
       generalize close jc.mem 0 args=ord at *
       rw[←afb] at fJ
       have hR : ∀j∈ui xu (m1.length-ord.length),eP.mem[j]? = some .free:=by
        intro j hj
        rw[tP j (by rw[Y1];exact ye _ hj)]
        rw[zt] at hj
        exact ae8 j hj.1 (by omega)
       have akb:(ord++ui xu (m1.length-ord.length)).Nodup:=List.nodup_append.2 ⟨hnd,List.nodup_range',fun x hx y hy e=>by
        subst e
        rw[zt] at hy
        have:=h2 x hx;omega⟩
       have YA : ∀j∈ord++ui xu (m1.length-ord.length),j<eP.mem.length:=by
        intro j hj
        rcases na.1 hj with q | q
        · have:=h2 j q;omega
        · rw[zt] at q;omega
       obtain⟨⟨fn,TS,TT,TU⟩,fJ⟩:=fJ
       unfold target at T4
       split at T4
       · rename_i call akc
         split at T4
         · rename_i x Au
           split at T4
           · rename_i f' first captured hx
             simp only[dk,ja] at T4
             obtain⟨rfl,Y2⟩:=T4
             have Ao:=gD hs x
             rw[hx,VA.fns] at Ao
             obtain⟨fa,ca,Ao,YT,hca⟩:=Ao
             have afc:=xh (P:=P) (w:=w) akc Au Ao TS TT TU
             have hargs:dj g w args (fa++call.args.map a.eval++ca).toList:=by
              rw[←Y2]
              simp only[xr,hP]
              exact(YT.append (gS (gD hs) _)).append hca
             obtain⟨OI,OJ⟩:=hs.rel.pack hnd
             have mW:=dG.pack g ord
             obtain⟨w',g',cv,fr,q1,q2,q3,q4,q5,q6,q7,q8⟩:=fJ (g.pack ord) w (fa++call.args.map a.eval++ca) (b.atR a (.inRegion ops (i::Lk .any ops fuel (t / (wx .any ops S).length) (S.setIfInBounds i true) [])::k)::cs) OI
              (dj.iH mW hargs) (hs.ec.mono fun _ _ p=>⟨p,rfl⟩)
             have hlen:(Am.pack eP.mem ord).length=ord.length:=by simp[Am.pack]
             rw[hlen] at q7 q8
             obtain⟨g2,r1,r2,r3,r4⟩:=hs.rel.YY akb YA hR q5 q6 q7 (by simp;omega)
             have C3:d.us=(ord++ui xu (m1.length-ord.length)).zip (m1.map (fM (bM (ord++ui xu (m1.length-ord.length)) eP.mem.length))):=by rw[h5,OV];rfl
             have hdv:d.v=iH (bM (ord++ui xu (m1.length-ord.length)) eP.mem.length) v:=by rw[h5,OV];rfl
             rw[←C3] at r1 r3
             have hstep:=qF (b:=b) (k:=k) (cs:=cs) (rest:=Lk .any ops fuel (t / (wx .any ops S).length) (S.setIfInBounds i true) []) ho jd afc
             have hleave:=step_leave_returned (P:=P) (c:=b.atR a (.inRegion ops (i::Lk .any ops fuel (t / (wx .any ops S).length) (S.setIfInBounds i true) [])::k)) (cs:=cs) q2
             rw[xc,ho] at hleave
             exact go g2 cv w' (by rw[hdv];exact q4.iH r4) r1 r2 r3 (.head hstep (q1.trans (.one hleave)))
           · cases T4
         · cases T4
       · cases T4
     · have both:(uz P (fun j=>eP.mem.getD j .dead) (wr o) xu (ev E eP.tm) o=some (d.v,d.us,true))∧(makes o=true→eP.mem[xu]? = some .free):=by
        by_cases hsp : ∃b x,d.us=[]∧eP.mem[b]? = some x∧d.ld b x=true
        · obtain⟨b,x,C3,hx,Fh⟩:=hsp
          rw[hld] at Fh
          unfold Yy at Fh
          split at Fh
          · rename_i t a Y3
            split at Fh
            · rename_i c off akd
              simp only[di] at Fh
              obtain⟨hcb,YK⟩:=Fh
              have hcb:=be hcb
              subst hcb
              split at YK
              · rename_i v' ok hlo
                simp only[di] at YK
                obtain⟨rfl,hv'⟩:=YK
                have hv':=lz hv'
                subst hv'
                have hrd:(fun j=>eP.mem.getD j bq.dead) c=x:=by
                 show eP.mem.getD c .dead=x
                 rw[de,hx];rfl
                have kC:lK P (fun j=>eP.mem.getD j .dead) t (.mp c off)=lK P (fun _=>x) t (.mp c off):=by
                 simp only[lK,qd (rd:=fun j=>eP.mem.getD j bq.dead) (rd':=fun _=>x) (a:= .mp c off) (fun b hb=>by
                  have:b=c:=by simpa[refs] using hb
                  subst this;exact hrd)]
                refine⟨?_,fun hm=> ?_⟩
                · have e1:ev E eP.tm a = .mp c off:=by rw[HI a (by rw[Y3];simp[If]),akd]
                  simp only[uz,Y3,e1,kC,hlo,iq,ie,C3]
                · simp[makes,Y3] at hm
              · cases YK
            · cases Fh
          · cases Fh
        · have tP : ∀b∈d.fp,eP.mem[b]? = jc.mem[b]? :=fun b hb=>(hag b hb).resolve_right fun⟨q0,x,q1,q2⟩=>hsp ⟨b,x,q0,q1,q2⟩
          refine⟨?_,fun hm=> ?_⟩
          · rw[←hop]
            refine(T0 Y0 (fun x hx=>(HI x hx).symm) fun j hj=> ?_).symm
            exact(xA (tP j (by rw[hfp];exact ye _ (yi _ hj)))).symm
          · rw[tP xu (by rw[hfp,hm];exact ye _ (ye _ (by simp)))]
            rw[hm] at h3
            simp only[cond_true] at h3
            exact ae8 xu (c9 _) (by omega)
       obtain⟨akf,hfree⟩:=both
       obtain⟨cv,w',g',k1,k2,k3,k4,k5⟩:=pz hs.rel (gD hs) (fun _=>rfl) hfree akf
       exact go g' cv w' k2 k3 k4 k5 (.one (rR ho jd k1))
   · have jd:vt o (yielded ops a.tmps)=false:=by
      rcases hw with hw | ⟨s',b',want,hw,hb⟩
      · exact w2 (HR.trans hw)
      · rw[(w3 s' b' want (HR.trans hw)).1];exact hb
     refine go g undef w (VA.mP.2 trivial) hs.rel (Ext.refl g w) (dF.refl _ _ _) (.one ?_)
     have hst:=stepR_op_skip (P:=P) (b:=b) (a:=a) (k:=k) (cs:=cs) (w:=w) (ops:=ops) (i:=i) (rest:=Lk .any ops fuel (t / (wx .any ops S).length) (S.setIfInBounds i true) []) (by simp[ho,jd])
     simpa only[ho,sg] using hst
theorem uM : ∀{m:Mem},vK m=true → ∀(i:Nat) (b:bq),m[i]? = some b→b = .free
 |[],_,i,b,h=>by simp at h
 |x::r,h,i,b,hb=>by
  cases x with
  |free=>
   cases i with
   |zero=>simpa using hb.symm
   |succ i=>exact uM (m:=r) h i b (by simpa using hb)
  |_=>cases h
theorem Rel.trim {g:Gh} {m:Mem} {w:World} (h:Rel g m w) {n:Nat} (hf:vK (m.drop n)=true):Rel g (m.take n) w∧dF g m w g (m.take n) w:=by
 have get : ∀i b,(m.take n)[i]? = some b→m[i]? = some b:=fun i b hb=>by
  rw[dq] at hb
  split at hb
  · exact hb
  · cases hb
 refine⟨⟨fun i hi=> ?_,fun i hi=>h.free i (get i _ hi),fun i b l hi hb=>h.cells i b l (get i b hi) hb,fun i c hi hc=>h.tok i c (get i _ hi) hc,
  fun i j b b' c hi hj ho ho' hc fk=>h.inj i j b b' c (get i b hi) (get j b' hj) ho ho' hc fk,h.there,fun i k l hi=>h.obs i k l (get i _ hi)⟩,dF.less fun c ⟨i,b,hi,ho,hc⟩=>⟨i,b,get i b hi,ho,hc⟩⟩
 rcases ft i m.length with q | q
 · rw[eh] at hi
   have hb:(m.drop n)[i-n]? = some m[i]:=by
    rw[List.getElem?_drop,show n+(i-n)=i by omega]
    exact da q
   have:=uM hf _ _ hb
   exact h.free i (by rw[da q,this])
 · exact h.tA i q
theorem Rel.cR {g:Gh} {w:World} : ∀(n:Nat) {m:Mem},Rel g m w→Rel g (m++cR n) w∧dF g m w g (m++cR n) w
 |0,m,h=>by
  simp only[Am.cR,List.replicate_zero,Hc]
  exact⟨h,dF.refl _ _ _⟩
 |n+1,m,h=>by
  obtain⟨h1,h2⟩:=h.reserve
  obtain⟨h3,h4⟩:=Rel.cR n h1
  have e:m++Am.cR (n+1)=(m++[.free])++Am.cR n:=by simp[Am.cR,List.replicate_succ]
  rw[e]
  exact⟨h3,h2.trans h4⟩
theorem rU {x:Nat} : ∀{n:Nat},vH x n=true → ∀j,j<n→cp x j=true
 |0,_,j,h=>absurd h (ss _)
 |n+1,h,j,hj=>by
  simp only[vH,di] at h
  rcases ft j n with q | q
  · exact rU h.2 j q
  · have:j=n:=by omega
    subst this;exact h.1
theorem De (ops:Array Oper):gK ops≤ops.size∧(gK ops=ops.size∨(gK ops+1=ops.size ∧ ∀j,j<gK ops→cp ((masks [] ops.toList).getD (gK ops) 0) j=true)):=by
 unfold gK
 cases h:tw ops with
 |false=>exact⟨c9 _,.inl rfl⟩
 |true=>
  simp only[cond_true]
  refine⟨by omega,?_⟩
  unfold tw at h
  simp only[di] at h
  obtain⟨h1,h2⟩:=h
  have hp:0<ops.size:=by
   rcases Nat.eq_zero_or_pos ops.size with e | e
   · rw[show ops[ops.size-1]? = none from xo (by omega)] at h1;cases h1
   · exact e
  exact .inr ⟨by omega,fun j hj=>rU h2 j hj⟩
theorem Aw.afd {wr:Oper→Bool} {ops:Array Oper} {m:Nat} {st st':St} {nx p9:Nat} {ds:List gW} (h:Aw P E wr ops (ops.toList.take m) st nx ds st' p9) (hm:m≤ops.size) (hu:E8 ops.toList) (hn:nx≤st.mem.length) (hfr:me nx st.mem) :
  X9 P E wr ops m st (ds++db (ops.size-m) ⟨.aK [],[],[],fun _ _=>false⟩) st'∧ds.length=m∧st'.mem=ny st.mem ds∧st'.fix=st.fix:=by
 have get : ∀i,i<m→(ops.toList.take m)[i]? = ops.toList[i]? :=fun i hi=>by rw[dq,if_pos hi]
 have Ts:E8 (ops.toList.take m):=by
  intro i j p q t hij hp hq
  rw[dq] at hp hq
  split at hp
  · split at hq
    · exact hu i j p q t hij hp hq
    · cases hq
  · cases hp
 have hlen:(ops.toList.take m).length=m:=by simp;omega
 obtain⟨h1,h2,h3,_,h4⟩:=h.spec Ts hn hfr
 rw[hlen] at h1 h2
 have slots : ∀{i:Nat} {T:St},i≤m→dR (ops.toList.take m) (ds.map (·.v)) st i T→dR ops.toList ((ds++db (ops.size-m) (⟨.aK [],[],[],fun _ _=>false⟩:gW)).map (·.v)) st i T:=by
  intro i T hi ⟨q1,q2,q3,q4,q5⟩
  refine⟨q1,q2,q3,fun j p v t hj hp hv ht=>q4 j p v t hj (by rw[get j (by omega)];exact hp) ?_ ht,fun t ht=>q5 t fun j p hj hp=>ht j p hj ?_⟩
  · rw[List.map_append,nz (by simp;omega)] at hv;exact hv
  · rw[get j (by omega)] at hp;exact hp
 refine⟨⟨by simp;omega,slots (c9 _) h2,?_,?_,?_⟩,h1,h3,h2.2.2.1⟩
 · rw[np (by omega),List.take_of_length_le (by omega)];exact h3
 · intro i o ho hi
   obtain⟨d,jc,xu,Fe,q1,q2,q3,q4,q5,q6,q7⟩:=h4 i o (by rw[get i hi];exact ho)
   refine⟨d,jc,xu,Fe,by rw[nz (by omega)];exact q1,q2,q3,slots (by omega) q4,?_,q6,q7⟩
   rw[np (by omega)];exact q5
 · intro i e hi he
   rw[yr (by omega),zr] at he
   split at he
   · cases he;rfl
   · cases he
theorem LOk.pad {L:List Nat} {ds:List gW} {n:Nat} (h : ∀(i j:Nat) (d e:gW),j<i→ds[i]? = some d→ds[j]? = some e→cp (L.getD i 0) j=true∨((∀b∈e.w,b∉d.fp)∧((∀b∈d.w,b∉e.fp)∨T1 d e))) :
  LOk L (ds++db n ⟨.aK [],[],[],fun _ _=>false⟩):=by
 refine⟨fun i j d e hj hd he=> ?_⟩
 rcases ft i ds.length with q | q
 · exact h i j d e hj (by rw[nz q] at hd;exact hd) (by rw[nz (by omega)] at he;exact he)
 · rw[yr q,zr] at hd
   split at hd
   · cases hd
     exact .inr ⟨fun b _=>by simp,.inl fun b hb=>by simp at hb⟩
   · cases hd
theorem Y4 {g:Gh} {w:World} {b:Frame} {a:Act} {k:List It} {ops:Array Oper} {f cK:Nat} {O:FuncId→List AV→Mem→Option (AV×Mem)} {st st':St} (hO : ∀g args m v m1,O g args m=some (v,m1)→az P E g args m v m1)
  (hs:cU E g st a w) (h:kj P E f cK O ops st=some (st',true)) :
  ∀cs,∃g' a' w',Steps P (lone (b.atR a (.code (.region cK ops true)::eu k)) cs w) (lone (b.atR a' (eu (iN cK ops k))) cs w')∧a'.defers=a.defers∧cU E g' st' a' w' ∧
   dF g st.mem w g' st'.mem w'∧bZ g g' st.fix∧st'.fix=st.fix ∧ ∀i c,g.bX i=some c→g'.bX i=some c:=by
 intro cs
 unfold kj at h
 split at h
 · rename_i TV nx ds ok hq
   simp only[dk,ja,di] at h
   obtain⟨rfl,rfl,OT,Y0,hfree,OW,YW⟩:=h
   have OW:=fg OW
   have hrun:=tN hO hq
   obtain⟨hQ,_⟩:=vp.of OT
   obtain⟨akg,akh⟩:=De ops
   have hL:LOk (masks [] ops.toList) (ds++db (ops.size-gK ops) ⟨.aK [],[],[],fun _ _=>false⟩):=LOk.pad fun i j d e hj hd he=>uK (nF:=[]) Y0 i j d e (H5 _) hj hd he
   obtain⟨YX,hr2⟩:=hs.rel.cR (60+ops.size)
   have hs1:cU E g {st with mem:=st.mem++cR (60+ops.size)} a w:=⟨hs.tm,hs.nt,YX,by simp;have:=hs.fix;omega,hs.ec⟩
   have hgd : ∀j,(xi ops.size false).getD j false=false:=by
    intro j
    rw[vd,xv]
    split<;>rfl
   have hfr:me st.mem.length (st.mem++cR (60+ops.size)):=by
    intro i hi hl
    rw[yr hi]
    simp only[cR,List.length_append,List.length_replicate] at hl ⊢
    rw[zr,if_pos (by omega)]
   have hnl:st.mem.length≤(st.mem++cR (60+ops.size)).length:=by simp
   obtain⟨hspec,hdl,hmem,oA⟩:=hrun.afd akg hQ.uniq hnl hfr
   generalize hds:ds++db (ops.size-gK ops) (⟨.aK [],[],[],fun _ _=>false⟩:gW)=ds2 at *
   have hI:nH ops (masks [] ops.toList) (ds2.map (·.v)) {st with mem:=st.mem++cR (60+ops.size)} {st with mem:=st.mem++cR (60+ops.size)} (xi ops.size false):=
    ⟨by simp,rfl,rfl,rfl,fun j _ _ _ hj=>(by rw[hgd] at hj;cases hj),fun _ _=>rfl,fun i _ hi=>(by rw[hgd] at hi;cases hi)⟩
   have hM:kF ds2 (st.mem++cR (60+ops.size)) (fun j=>(xi ops.size false).getD j false=true) (st.mem++cR (60+ops.size)):=kF.nil fun j q=>by rw[hgd] at q;cases q
   have hs2:=hs1.drew (w.drawn+1)
   obtain⟨g',a',w',r1,r2,r3,r4,r5,r6⟩:=T3 (P:=P) (E:=E) (b:=b) (k:=eu k) cs hQ hL hspec akh ops.size (w.tape w.drawn (.order b.fn cK)) (xi ops.size false) {st with mem:=st.mem++cR (60+ops.size)} a g _ (fe ops.size) hI hM hs2 (by simp) (fun i hi _=>Hn.2 hi) (fun i _=>hgd i)
   obtain⟨t1,t2⟩:=r3.rel.trim hfree
   have hlen:TV.mem.length=st.mem.length+(60+ops.size):=by rw[hmem,mY];simp[cR]
   have oA:TV.fix=st.fix:=oA
   refine⟨g',a',w',?_,r2,⟨r3.tm,r3.nt,t1,?_,r3.ec⟩,?_,r5,oA,r6⟩
   · refine .head stepR_region_draw ?_
     have OU:wy (P.follows .mixedOrders) ops (w.tape w.drawn (.order b.fn cK))=Lk .any ops ops.size (w.tape w.drawn (.order b.fn cK)) (xi ops.size false) []:=by
      simp only[wy,YW,if_true,xb]
     rw[OU]
     unfold iN
     unfold gK at r1
     cases Fg:tw ops with
     |false=>
      rw[Fg] at r1
      simp only[cond_false,H2,Hb] at r1 ⊢
      exact r1.trans (.one stepR_region_end)
     |true=>
      rw[Fg] at r1
      simp only[cond_true] at r1 ⊢
      exact r1
   · have:=hs.fix
     show TV.fix≤(TV.mem.take nx).length
     rw[eh,oA]
     omega
   · have hst:dF g (st.mem++cR (60+ops.size)) w g (st.mem++cR (60+ops.size)) {w with drawn:=w.drawn+1}:=⟨c9 _,fun _ _ _=>rfl,fun _ _ h=>⟨h,rfl⟩,fun _ _ h=> .inl h,fun _ h=> .inl h,rfl,rfl,rfl⟩
     exact((hr2.trans hst).trans r4).trans t2
 · cases h
def vr (s t:St):Prop:=s.nt=t.nt∧s.fix=t.fix∧s.mem=t.mem ∧ ∀k,look s.tm k=look t.tm k
theorem vr.refl (s:St):vr s s:=⟨rfl,rfl,rfl,fun _=>rfl⟩
theorem A8 {a b:pZ} : ∀{l:List Nat},TF a b l=true → ∀k∈l,look a k=look b k
 |[],_,k,h=>by cases h
 |x::r,h,k,hk=>by
  simp only[TF,di] at h
  rcases yo.1 hk with rfl | hk
  · exact lz h.1
  · exact A8 h.2 k hk
theorem tQ : ∀{a:pZ} {k:Nat},k∉a.map (·.1)→look a k = .bC
 |[],_,_=>rfl
 |(j,v)::r,k,h=>by
  simp only[s0,yo,not_or] at h
  simp only[look]
  cases hb:ba j k with
  |true=>exact absurd (be hb).symm h.1
  |false=>exact tQ h.2
theorem LN {s t:St} (h:Yx s t=true):vr s t:=by
 simp only[Yx,di] at h
 obtain⟨h1,h2,_,h3,h4⟩:=h
 refine⟨be h1,be h2,lX h3,fun k=> ?_⟩
 by_cases hk:k∈s.tm.map (·.1)++t.tm.map (·.1)
 · exact A8 h4 k hk
 · rw[na,not_or] at hk
   rw[tQ hk.1,tQ hk.2]
def Has (l:List Pt) (q:Pt):Prop:= ∃p∈l,p.1=q.1∧vr q.2 p.2
theorem A9 {q:Pt} : ∀{l:List Pt},EH q l=true→Has l q
 |[],h=>by cases h
 |p::r,h=>by
  simp only[EH,iu] at h
  rcases h with h | h
  · simp only[aeP,di] at h
    exact⟨p,.head _,(Array.toList_inj.1 (wF h.1)).symm,LN h.2⟩
  · obtain⟨x,h1,h2⟩:=A9 h
    exact⟨x,.tail _ h1,h2⟩
theorem Ba {q:Pt} {l:List Pt}:Has (EI q l) q ∧ ∀x∈l,x∈EI q l:=by
 unfold EI
 cases h:EH q l with
 |true=>exact⟨A9 h,fun _ hx=>hx⟩
 |false=>exact⟨⟨q,.head _,rfl,vr.refl _⟩,fun _ hx=> .tail _ hx⟩
theorem Has.mono {l l':List Pt} {q:Pt} (h:Has l q) (hl : ∀x∈l,x∈l'):Has l' q:=by
 obtain⟨p,h1,h2⟩:=h
 exact⟨p,hl p h1,h2⟩
theorem uN {f:FuncId} {ops:Array Oper} {q:Pt} : ∀{is:List Nat} {l l':List Pt},rB P E f ops q is l=some l' →
  (∀x∈l,x∈l') ∧ ∀i∈is,∃st,JM P E f ops i q.2=some st∧Has l' (q.1.setIfInBounds i true,st)
 |[],l,l',h=>by
  simp only[rB,dk] at h
  subst h
  exact⟨fun _ hx=>hx,fun i hi=>by cases hi⟩
 |i::r,l,l',h=>by
  simp only[rB] at h
  split at h
  · rename_i st hst
    obtain⟨h1,h2⟩:=uN h
    obtain⟨k1,k2⟩:=Ba (q:=(q.1.setIfInBounds i true,st)) (l:=l)
    refine⟨fun x hx=>h1 x (k2 x hx),fun j hj=> ?_⟩
    rcases yo.1 hj with rfl | hj
    · exact⟨st,hst,k1.mono h1⟩
    · exact h2 j hj
  · cases h
theorem pF {f:FuncId} {ops:Array Oper} : ∀{l acc l':List Pt},level P E f ops l acc=some l' →
  (∀x∈acc,x∈l') ∧ ∀q∈l,(wx .any ops q.1=[]→Has l' q) ∧ ∀i∈wx .any ops q.1,∃st,JM P E f ops i q.2=some st∧Has l' (q.1.setIfInBounds i true,st)
 |[],acc,l',h=>by
  simp only[level,dk] at h
  subst h
  exact⟨fun _ hx=>hx,fun q hq=>by cases hq⟩
 |q::r,acc,l',h=>by
  simp only[level] at h
  split at h
  · rename_i hr
    obtain⟨h1,h2⟩:=pF h
    obtain⟨k1,k2⟩:=Ba (q:=q) (l:=acc)
    refine⟨fun x hx=>h1 x (k2 x hx),fun p hp=> ?_⟩
    rcases yo.1 hp with rfl | hp
    · exact⟨fun _=>k1.mono h1,fun i hi=>by rw[hr] at hi;cases hi⟩
    · exact h2 p hp
  · rename_i hr
    split at h
    · rename_i l1 hn
      obtain⟨h1,h2⟩:=pF h
      obtain⟨k1,k2⟩:=uN hn
      refine⟨fun x hx=>h1 x (k1 x hx),fun p hp=> ?_⟩
      rcases yo.1 hp with rfl | hp
      · refine⟨fun e=>absurd e hr,fun i hi=> ?_⟩
        obtain⟨st,q1,q2⟩:=k2 i hi
        exact⟨st,q1,q2.mono h1⟩
      · exact h2 p hp
    · cases h
theorem vr.trans {a b c:St} (h:vr a b) (k:vr b c):vr a c:=⟨h.1.trans k.1,h.2.1.trans k.2.1,h.2.2.1.trans k.2.2.1,fun x=>(h.2.2.2 x).trans (k.2.2.2 x)⟩
theorem cU.like {g:Gh} {w:World} {st st':St} {a:Act} (h:cU E g st a w) (q:vr st st'):cU E g st' a w:=h.same q.2.2.1 q.1 q.2.1 q.2.2.2
theorem rV {f:FuncId} {ops:Array Oper} : ∀(n:Nat) {l l':List Pt},levels P E f ops n l=some l' → ∀q∈l,wx .any ops q.1=[]→Has l' q
 |0,l,l',h,q,hq,_=>by
  simp only[levels,dk] at h
  subst h
  exact⟨q,hq,rfl,vr.refl _⟩
 |n+1,l,l',h,q,hq,hr=>by
  simp only[levels] at h
  split at h
  · rename_i l1 hl
    obtain⟨p,h1,h2,h3⟩:=(((pF hl).2 q hq).1 hr)
    obtain⟨x,k1,k2,k3⟩:=rV n h p h1 (by rw[h2];exact hr)
    exact⟨x,k1,k2.trans h2,h3.trans k3⟩
  · cases h
theorem OX {b:Frame} {k:List Item} {f:FuncId} {ops:Array Oper} : ∀(n:Nat) (l l':List Pt),levels P E f ops n l=some l' → ∀(q:Pt),q∈l → ∀(t:Nat) (a:Act) (g:Gh) (w:World),cU E g q.2 a w →
  ∃st'∈l'.map (·.2),∃g' a' w',(∀cs,Steps P (lone (b.atR a (.inRegion ops (Lk .any ops n t q.1 [])::k)) cs w) (lone (b.atR a' (.inRegion ops []::k)) cs w'))∧a'.defers=a.defers∧cU E g' st' a' w' ∧
   dF g q.2.mem w g' st'.mem w'∧bZ g g' q.2.fix∧st'.fix=q.2.fix ∧ ∀i c,g.bX i=some c→g'.bX i=some c
 |0,l,l',h,q,hq,t,a,g,w,hs=>by
  simp only[levels,dk] at h
  subst h
  exact⟨q.2,fb.2 ⟨q,hq,rfl⟩,g,a,w,fun cs=>M2 _ _,rfl,hs,dF.refl _ _ _,bZ.refl _ _,rfl,fun _ _ q=>q⟩
 |n+1,l,l',h,q,hq,t,a,g,w,hs=>by
  have h0:=h
  simp only[levels] at h
  split at h
  · rename_i l1 hl
    simp only[Lk]
    show ∃st'∈l'.map (·.2),∃g' a' w',(∀cs,Steps P (lone (b.atR a (.inRegion ops (match(wx .any ops q.1)[t%(wx .any ops q.1).length]? with
     |some i=>Lk .any ops n (t / (wx .any ops q.1).length) (q.1.setIfInBounds i true) [i]
     |none=>[].reverse)::k)) cs w) (lone (b.atR a' (.inRegion ops []::k)) cs w'))∧_
    obtain⟨_,k2⟩:=(pF hl).2 q hq
    cases hr:(wx .any ops q.1)[t%(wx .any ops q.1).length]? with
    |none=>
     have OQ:wx .any ops q.1=[]:=by
      cases hz:wx .any ops q.1 with
      |nil=>rfl
      |cons x xs=>
       rw[hz] at hr
       have hlt:t%(x::xs).length<(x::xs).length:=pw _ (by simp)
       rw[da hlt] at hr;cases hr
     obtain⟨p,p1,p2,p3⟩:=rV (n+1) h0 q hq OQ
     exact⟨p.2,fb.2 ⟨p,p1,rfl⟩,g,a,w,fun cs=>M2 _ _,rfl,hs.like p3,by rw[←p3.2.2.1];exact dF.refl _ _ _,bZ.refl _ _,p3.2.1.symm,fun _ _ q=>q⟩
    |some i=>
     dsimp only
     rw[linearise_go_acc,yv,zd]
     obtain⟨st,he,p,p1,p2,p3⟩:=k2 i (mv hr)
     have p2:p.1=q.1.setIfInBounds i true:=p2
     have p3:vr st p.2:=p3
     unfold JM at he
     split at he
     · cases he
     · rename_i o ho
       split at he
       · rename_i hw
         dsimp only at he
         split at he
         · rename_i v us ok hop
           cases hok:(ok&&fits q.2 o.dst) with
           |false=>rw[hok] at he;cases he
           |true=>
            rw[hok] at he
            simp only[cond_true,dk] at he
            subst he
            simp only[di] at hok
            obtain⟨rfl,hf⟩:=hok
            have jd:=(pE hs (ops:=ops) (o:=o)).1 hw
            have hres:Rel g (reserve o q.2.mem) w∧dF g q.2.mem w g (reserve o q.2.mem) w:=by
             unfold reserve
             cases makes o with
             |true=>exact hs.rel.reserve
             |false=>exact⟨hs.rel,dF.refl _ _ _⟩
            have hfree:makes o=true→(reserve o q.2.mem)[q.2.mem.length]? = some .free:=by
             intro hm
             simp[reserve,hm]
            obtain⟨cv,w1,g1,k1,k2,k3,k4,k5⟩:=pz hres.1 (gD hs) (fun _=>rfl) hfree hop
            have nw:q.2.fix≤(apply (reserve o q.2.mem) us).length:=by
             rw[eK]
             have:=hs.fix
             unfold reserve
             cases makes o<;>simp<;>omega
            have hs1:=(hs.put hf k2 k4 k3 nw).like p3
            have hm:p.2.mem=apply (reserve o q.2.mem) us:=by rw[←p3.2.2.1,uJ]
            have hx:p.2.fix=q.2.fix:=by rw[←p3.2.1];cases o.dst<;>rfl
            obtain⟨st2,r0,g2,a2,w2,r1,r2,r3,r4,r5,r6,r7⟩:=OX (b:=b) (k:=k) n l1 l' h p p1 (t / (wx .any ops q.1).length) _ _ _ hs1
            rw[hm] at r4
            rw[hx] at r5 r6
            rw[p2] at r1
            exact⟨st2,r0,g2,a2,w2,fun cs=> .head (rR ho jd k1) (r1 cs),r2.trans put_defers,r3,(hres.2.trans k5).trans r4,(bZ.rP k4 _).trans r5,r6,fun i c q=>r7 i c (k4.bX i c q).1⟩
         · cases he
       · cases he
  · cases h
theorem T5 {g:Gh} {w:World} {b:Frame} {a:Act} {k:List Item} {ops:Array Oper} {f cK:Nat} {st:St} {sts:List St} (hs:cU E g st a w) (h:CP P E f ops st=some sts) :
  ∃st'∈sts,∃g' a' w',(∀cs,Steps P (lone (b.atR a (.code (.region cK ops true)::k)) cs w) (lone (b.atR a' k) cs w'))∧a'.defers=a.defers∧cU E g' st' a' w' ∧
   dF g st.mem w g' st'.mem w'∧bZ g g' st.fix∧st'.fix=st.fix ∧ ∀i c,g.bX i=some c→g'.bX i=some c:=by
 unfold CP at h
 cases hc:((Ol ops||Om P ops)&&(P.follows .mixedOrders || !Region.departs ops)) with
 |false=>rw[hc] at h;cases h
 |true=>
  rw[hc] at h
  simp only[cond_true,Option.map_eq_some_iff] at h
  simp only[di] at hc
  obtain⟨l',h1,rfl⟩:=h
  obtain⟨st',h2,g',a',w',r1,r2,r3,r4,r5,r6,r7⟩:=OX (b:=b) (k:=k) _ _ _ h1 (xi ops.size false,st) (.head _) (w.tape w.drawn (.order b.fn cK)) a g _ (hs.drew (w.drawn+1))
  refine⟨st',h2,g',a',w',fun cs=> ?_,r2,r3,?_,r5,r6,r7⟩
  · refine .head stepR_region_draw ?_
    have OU:wy (P.follows .mixedOrders) ops (w.tape w.drawn (.order b.fn cK))=Lk .any ops ops.size (w.tape w.drawn (.order b.fn cK)) (xi ops.size false) []:=by
     simp only[wy,hc.2,if_true,xb]
    rw[OU]
    exact(r1 cs).trans (.one stepR_region_end)
  · have hst:dF g st.mem w g st.mem {w with drawn:=w.drawn+1}:=⟨c9 _,fun _ _ _=>rfl,fun _ _ h=>⟨h,rfl⟩,fun _ _ h=> .inl h,fun _ h=> .inl h,rfl,rfl,rfl⟩
    exact hst.trans r4
end
end Go.Am
end
