import Derived.Test.YtdmmllcjgjmbbaaGreatDoorMD
import Derived.Laws.Externs
import Derived.KernelRfl
import Derived.Orders
open Go.Deferred renaming ofValue→ye
open Go.Sem renaming run_bind→iv,run_pure→ja
open Go.Result renaming andThen_ok→jb
open Bool renaming and_eq_true→c8,false_eq_true→pb,or_eq_true→il,not_eq_true'→im,false_or→pj,not_true→yi
open Go.Region renaming ready→yn,wanted→yb,schedule→yo,binds→yr,linearise→yv
open Go.Frame renaming finish_atR→zd,atR→zr
open Array renaming getD_eq_getD_getElem?→xr,replicate→zt,getElem?_eq_some_iff→Fs,getElem?_eq_none→Ha,toList_map→gn,toList_append→Hb,getElem?_eq_getElem→fv,getElem?_replicate→Hc,empty_append→Hd
open Option.some renaming injEq→c9
open List renaming range'→xi,getElem?_eq_getElem→cb,getElem?_eq_some_iff→dp,mem_append_right→Hk,getElem?_append_left→od,mem_append_left→Hm,getD_eq_getElem?_getD→ch,getElem?_cons_zero→mf,map_congr_left→Hn,mem_cons→mv,getElem?_append_right→H0,mem_of_getElem?→mb,reverse_singleton→H2,map_cons→oT,singleton_append→H3,getElem?_take→db,getElem?_cons_succ→mi,getElem?_replicate→H4,mem_range'_1→H5,replicate→cf,eq_nil_of_length_eq_zero→If,take_append_of_le_length→np,mem_append→na,mem_map→eh,length_erase_of_mem→Lk,range'_zero→M2,append_nil→Pl,getElem?_eq_none→dt,mem_erase_of_ne→Ps,getElem?_map→dT,map_toArray→wc,mem_toArray→PH,all_eq_true→PQ,length_take→dC,nil_append→QP,mem_range→QQ,toArray→wx,map_nil→wi,range→ei
open Nat renaming testBit→bj,eq_of_beq_eq_true→ai,lt_or_ge→fg,not_lt_zero→vz,le_of_ble_eq_true→en,le_refl→bx,lt_trichotomy→QR,beq_refl→vt,sub_self→aam,strongRecOn→aaI,mod_lt→pB,add_assoc→fi,add_comm→aaT,beq→ae,zero_le→abb
open Prod.mk renaming injEq→iu
open Go.Op renaming operands→abp
open Go.Region.linearise renaming go→abB
open Go.Steps renaming refl→abC
open Option renaming bind_some→vd,map_some→hZ
section
namespace Go.Am
open Go.RowKit
section
variable {P:Program} {E:Env} {g:Gh} {w:World}
theorem eB : ∀(us:nv) (m:Mem),(apply m us).length=m.length
 |[],_=>rfl
 |(i,b)::us,m=>by simp[apply,eB us]
def B8 (P:Program) (E:Env) (g:Gh) (c:cw) (fr:Frame) (w:World) (l:List cw):Prop:=
 ∀cs,∃c'∈l,∃g' fr' w',Steps P (lone fr cs w) (lone fr' cs w')∧dN P E g' c' fr' w'∧dm g c.st.mem w g' c'.st.mem w'∧bJ g g' c.st.fix∧c'.f=c.f∧c'.st.fix=c.st.fix∧c'.st.bX=c.st.bX
def B9 (P:Program) (E:Env) (g:Gh) (c:cw) (fr:Frame) (w:World):Ev→Prop
 |.next c'=>eO P E g c fr w c'
 |.must b c'=>b=true→eO P E g c fr w c'
 |.test b y z=>(b=true→eO P E g c fr w y)∧(b=false→eO P E g c fr w z)
 |.call f args m ord dst c'=>(∀v m1,an P E f args m v m1→eO P E g c fr w {c' with st:=back ord dst c'.st v m1}) ∧ ∀u m1,Lz P E f args m u m1→eO P E g c fr w (nF ord c' u m1)
 |.late f args m ord pv c'=> ∀m1,LB P E f args m pv m1→eO P E g c fr w {c' with st:=back ord none c'.st (.au []) m1}
 |.round args m ord dst c'=> ∀v m1,Hz P E args m v m1→eO P E g c fr w {c' with st:=back ord dst c'.st v m1}
 |.range f args m ord L c'=> ∀v m1,an P E f args m v m1 → ∀m2 pd,gm (back ord none c'.st v m1).mem L=some (m2,pd)→eO P E g c fr w (behind c' m2 pd)
 |.draw bV ops c'=> ∀(O:FuncId→List AV→Mem→Option (AV×Mem)) (st':St),(∀g args m v m1,O g args m=some (v,m1)→an P E g args m v m1)→jW P E c'.f bV O ops c'.st=some (st',true) →
    eO P E g c fr w {c' with st:={st' with cA:=c'.st.cA,bX:=c'.st.bX}}
 |.fork l=>B8 P E g c fr w l
 |.done (.ret v m')=>fr.fn=c.f∧m'=c.st.mem ∧ ∃cv w2,Ly P c.st.bX fr w cv w2∧VA g w2 v cv∧Rel g m' w2∧dm g m' w g m' w2∧c.st.fix≤m'.length
 |.done (.za v m')=>fr.fn=c.f∧m'=c.st.mem ∧ ∃cv,fr.leaving P w (.panicked [{v:=cv,recovered:=false}])∧VA g w v cv∧Rel g m' w∧c.st.fix≤m'.length
 |.fail=>True
theorem nf {x:It} {k:List It} (hx:It.pl x) (hk : ∀y∈k,It.pl y) : ∀y∈x::k,It.pl y:=by
 intro y hy
 cases hy with
 |head=>exact hx
 |tail _ hy=>exact hk y hy
theorem dN.mk {c:cw} {b:Frame} {a:Act} (hnf : ∀x∈c.todo,It.pl x) (h1:b.fn=c.f) (h2:eJ g c.st.bX b) (h3:Mk g c.st.cA a.defers) (h4:cu E g c.st a w):dN P E g c (b.atR a (dV c.todo)) w:=by
 unfold dN
 split
 · rename_i hk;exact absurd (hnf _ (by rw[hk];exact .head _)) id
 · rename_i hk;exact absurd (hnf _ (by rw[hk];exact .head _)) id
 · rename_i hk;exact absurd (hnf _ (by rw[hk];exact .head _)) id
 · rename_i hk;exact absurd (hnf _ (by rw[hk];exact .head _)) id
 · exact⟨b,a,rfl,h1,h2,h3,h4,hnf⟩
theorem eO.quiet {c c':cw} {b:Frame} {a:Act} {fr:Frame} (hst : ∀cs,Steps P (lone fr cs w) (lone (b.atR a (dV c'.todo)) cs w))
  (hnf : ∀x∈c'.todo,It.pl x) (h1:b.fn=c.f) (hf:c'.f=c.f) (h2:eJ g c'.st.bX b) (h3:Mk g c'.st.cA a.defers) (h4:cu E g c'.st a w) (hm:c'.st.mem=c.st.mem) (hx:c'.st.fix=c.st.fix) (hr:c'.st.bX=c.st.bX:=by rfl):eO P E g c fr w c':=by
 intro cs
 exact⟨g,_,w,hst cs,dN.mk hnf (h1.trans hf.symm) h2 h3 h4,by rw[hm];exact dm.refl _ _ _,bJ.refl _ _,hf,hx,hr⟩
theorem put_defers {a:Act} {d:Option Tmp} {v:Value}:(a.put d v).defers=a.defers:=by cases d<;>rfl
theorem Ui {st:St} {d:Option Tmp} {v:AV}:(Am.put st d v).cA=st.cA:=by cases d<;>rfl
theorem jA {st:St} {d:Option Tmp} {v:AV}:(Am.put st d v).bX=st.bX:=by cases d<;>rfl
theorem eJ.put {g g':Gh} {w w':World} {st st':St} {b:Frame} {d:Option Tmp} {u:AV} (h:eJ g st.bX b) (e:Ext g w g' w') (hm:st'.bX=st.bX):eJ g' (Am.put st' d u).bX b:=by
 rw[jA,hm]
 exact h.ext fun i c q=>(e.bP i c q).1
theorem Mk.put {g g':Gh} {w w':World} {st st':St} {a:Act} {d:Option Tmp} {v:Value} {u:AV} (h:Mk g st.cA a.defers) (e:Ext g w g' w') (hm:st'.cA=st.cA):Mk g' (Am.put st' d u).cA (a.put d v).defers:=by
 rw[put_defers,Ui,hm]
 exact h.ext fun i c q=>(e.bP i c q).1
theorem xd {a:Act} {o:Oper} {c:Call} {x:Operand} {f:FuncId} {fa ca:Array Value} (ho:o.op = .call c) (hc:c.callee = .value x) (hx:a.eval x = .func (.func f) fa ca)
  {fn:Func} (hf:P.funcs[f]? = some fn) (hb:fn.body.isSome=true) (hn:(fn.name == "runtime.NumGoroutine")=false) :
  (execOp a.eval o).run P w = .ok (.enter f (fa++c.args.map a.eval++ca)) w:=by
 have Tz:fn.body.isNone=false:=by cases hq:fn.body<;>simp_all
 simp only[execOp,ho,resolve,hc,hx,ye,iv,ja,jb,invoke,callFunc,run_program,hf,hn,pb,if_false,Tz]
theorem FB {b:Frame} {a:Act} {k:List Item} {cs:List Frame} {w':World} {ops:Array Oper} {i:Nat} {rest:List Nat} {o:Oper} {l:Nat} {f:FuncId} {tmps:Array Value} {as bd:Code} (ho:ops[i]? = some o)
  (hw:yb o (yielded ops a.tmps)=true) (hr:(execOp a.eval o).run P w = .ok (.round l f tmps as bd) w') :
  _root_.Go.step P (lone (b.atR a (.inRegion ops (i::rest)::k)) cs w) = .next (lone (Frame.round l f tmps as bd .normal) (b.atR a (.inRegion ops (i::rest)::k)::cs) w'):=by
 have hg:=stepGR_op (P:=P) (b:=b) (k:=k) (cs:=cs) (w:=w) (rest:=rest) ho hw
 exact step_lone_go (by rw[hg,semAt_eq hr fun _ e=>by cases e];simp[stepG.apply,hr,zr])
theorem zH {a:Act} {o:Oper} {c:Call} {x:Operand} {l:Nat} (ho:o.op = .call c) (hc:c.callee = .value x) (hx:a.eval x = .func (.yield l) #[] #[]) {n:Next} {w':World}
  (hy:(Instr.yield l (c.args.map a.eval)).run P w = .ok n w'):(execOp a.eval o).run P w = .ok n w':=by
 simp only[execOp,ho,resolve,hc,hx,ye,iv,ja,jb,invoke,callFunc,Hd]
 exact hy
theorem LC {st:St} {a:Act} {b:Frame} {k:List Item} {ops:Array Oper} {i:Nat} {rest:List Nat} {o:Oper} {args:List AV} {v:AV} {m1:Mem}
  (hs:cu E g st a w) (hd:Mk g st.cA a.defers) (hb:eJ g st.bX b) (ho:ops[i]? = some o) (hw:yb o (yielded ops a.tmps)=true) (ht:vB (ev E st.tm) o=some args)
  (hf:fits st o.dst=true) (hlt:iT (close st.mem 0 args) st.mem.length=true)
  (fD:Hz P E (eW (idx (close st.mem 0 args)) args) (pack st.mem (close st.mem 0 args)) v m1) :
  ∀cs,∃g' a' w',Steps P (lone (b.atR a (.inRegion ops (i::rest)::k)) cs w) (lone (b.atR a' (.inRegion ops rest::k)) cs w') ∧
   Mk g' (back (close st.mem 0 args) o.dst st v m1).cA a'.defers∧eJ g' (back (close st.mem 0 args) o.dst st v m1).bX b∧cu E g' (back (close st.mem 0 args) o.dst st v m1) a' w' ∧
   dm g st.mem w g' (back (close st.mem 0 args) o.dst st v m1).mem w'∧bJ g g' st.fix∧(back (close st.mem 0 args) o.dst st v m1).fix=st.fix:=by
 intro cs
 have zI:=gw hs
 unfold vB at ht
 split at ht
 · rename_i call hop
   split at ht
   · rename_i x zJ
     split at ht
     · rename_i bl hx
       simp only[c9] at ht
       subst ht
       have zB:=zI x
       rw[hx] at zB
       generalize hcx:a.eval x=cx at zB
       cases zB with
       |vy _ l hl=>
        have hin:bl∈close st.mem 0 (.vy bl::call.args.toList.map (ev E st.tm)):=by
         obtain⟨_,t,h2⟩:=dU (iB (.vy bl::call.args.toList.map (ev E st.tm))) (upTo 0) (j7 0)
         obtain⟨_,t',h4⟩:=mE st.mem (st.mem.length+1) (iF (upTo 0) (iB (.vy bl::call.args.toList.map (ev E st.tm)))) 0 (dU _ _ (j7 0)).1
         unfold close
         rw[h4]
         refine Hm _ ?_
         show bl∈iF [] (bl::iB (call.args.toList.map (ev E st.tm)))
         simp only[iF,has,cond_false,QP]
         obtain⟨_,t2,h5⟩:=dU (iB (call.args.toList.map (ev E st.tm))) [bl] (by simp)
         rw[h5]
         exact Hm _ (by simp)
        have hargs:cL g w (call.args.toList.map (ev E st.tm)) (call.args.map a.eval).toList:=by
         rw[gn];exact gL zI _
        generalize hxs:call.args.toList.map (ev E st.tm)=xs at *
        obtain⟨hnd,_⟩:=fc st.mem 0 (.vy bl::xs)
        generalize close st.mem 0 (.vy bl::xs)=ord at *
        obtain⟨Lv,Lw⟩:=hs.rel.pack hnd
        have mF:=dy.pack g ord
        obtain⟨j,hj1,hj2⟩:=List.getElem_of_mem hin
        have Yn:ord[j]? = some bl:=by rw[cb hj1,hj2]
        have hidx:idx ord bl=some j:=qh hnd Yn
        have hra:eW (idx ord) (.vy bl::xs) = .vy j::eW (idx ord) xs:=by simp only[eW,Am.jx,hidx]
        have hbj:(g.pack ord).bP j=some l:=by simp[Gh.pack,Yn,hl]
        obtain⟨f,tmps,as,bd,w',g',cv,y,q1,q4,q5,q6,q7,q8⟩:=fD (g.pack ord) w j l (eW (idx ord) xs) (call.args.map a.eval) (b.atR a (.inRegion ops (i::rest)::k)) cs hra Lv hbj
         (cL.jx mF hargs) (hs.dg.mono fun _ _ p=>⟨p,rfl⟩)
        have hlen:(Am.pack st.mem ord).length=ord.length:=by simp[Am.pack]
        rw[hlen] at q7 q8
        obtain⟨r1,r2,r3,r4⟩:=hs.rel.back hnd (fQ hlt) q5 q6 q7 q8
        have hstep:=FB (b:=b) (k:=k) (cs:=cs) (rest:=rest) ho hw (zH hop zJ hcx y)
        have nW:(b.atR a (.inRegion ops (i::rest)::k)).finish cv=b.atR (a.put o.dst cv) (.inRegion ops rest::k):=by rw[zd,ho];rfl
        rw[nW] at q1
        have nX:st.fix≤(dh (bg ord st.mem.length) ord m1 st.mem).length:=by
         rw[dX _ _ _ _ q8];have:=hs.fix;omega
        refine⟨_,a.put o.dst cv,w',.head hstep q1,hd.put (st':={st with mem:=_}) r2 rfl,hb.put (st':={st with mem:=_}) r2 rfl,hs.put hf (q4.jx r4) r2 r1 nX,?_,bJ.rz r2 _,?_⟩
        · have:(back ord o.dst st v m1).mem=dh (bg ord st.mem.length) ord m1 st.mem:=by
           unfold back Am.put;cases o.dst<;>rfl
          rw[this];exact r3
        · unfold back Am.put;cases o.dst<;>rfl
     · cases ht
   · cases ht
 · cases ht
theorem Jn {f:FuncId} (h:Hg P f=true) (x:Value):(callFunc f #[x]).run P w = .ok (.value x) w:=by
 unfold Hg at h
 split at h
 · rename_i fn hf
   simp only[c8] at h
   obtain⟨h1,h2,h3⟩:=h
   have h2:=of_decide_eq_true h2
   have h3:=of_decide_eq_true h3
   have hn:(fn.name == "runtime.NumGoroutine")=false:=by rw[h2];decide
   have q1:Extern.findNext fn=none:=by
    simp only[Extern.findNext,h2,h3]
    kernel_rfl
   have q2:Extern.find fn=some Extern.AbiNoEscape.same:=by
    simp only[Extern.find,h2,h3]
    kernel_rfl
   rw[run_callFunc_extern hf hn h1 q1 q2]
   rfl
 · cases h
theorem DB {ρ:Operand→AV} {cg:Operand→Value} (hr : ∀x,VA g w (ρ x) (cg x)) {o:Oper} {v:AV} (h:K2 P ρ o=some v) : ∃cv,(execOp cg o).run P w = .ok (.value cv) w∧VA g w v cv:=by
 unfold K2 at h
 split at h
 · rename_i c ho
   split at h
   · rename_i f x hc ha
     have kG:c.args = #[x]:=by have:=congrArg wx ha;simpa using this
     split at h
     · rename_i q hq
       cases he:Hg P q with
       |false=>rw[he] at h;cases h
       |true=>
        rw[he] at h
        simp only[cond_true,c9] at h
        subst h
        have hf:=hr f
        rw[hq,VA.fns] at hf
        obtain⟨fa,ca,hcf,q1,q2⟩:=hf
        have e1:fa = #[]:=by cases fa with | mk l=>cases l with | nil=>rfl | cons _ _=>exact q1.elim
        have e2:ca = #[]:=by cases ca with | mk l=>cases l with | nil=>rfl | cons _ _=>exact q2.elim
        subst e1;subst e2
        refine⟨cg x,?_,hr x⟩
        simp only[execOp,ho,resolve,hc,hcf,kG,ye,iv,ja,jb,invoke,wc,oT,wi,Array.append_empty,Hd]
        exact Jn he _
     · cases h
   · cases h
 · cases h
theorem DC {v:AV} {cv:Value} (h:Ab v=true) (hv:VA g w v cv) : ∃t x,cv = .iface t x:=by
 cases hv with
 |nu t v cv h=>exact⟨t,cv,rfl⟩
 |p v cv h'=>cases h' with
  |nu t v cv h=>exact⟨t,cv,rfl⟩
  |_=>cases h
 |_=>cases h
theorem FC {b:Frame} {a:Act} {k:List Item} {cs:List Frame} {ops:Array Oper} {i:Nat} {rest:List Nat} {o:Oper} {v:Value} (ho:ops[i]? = some o) (hw:yb o (yielded ops a.tmps)=true)
  (hr:(o.semAt b.roundOf a.eval).run P w = .halt (.panic v) w) :
  _root_.Go.step P (lone (b.atR a (.inRegion ops (i::rest)::k)) cs w) = .next (lone {b.atR a (.inRegion ops (i::rest)::k) with mode:=cT (some v) false} cs w):=by
 have hg:=stepGR_op (P:=P) (b:=b) (k:=k) (cs:=cs) (w:=w) (rest:=rest) ho hw
 refine step_lone_go ?_
 rw[hg]
 simp[stepG.apply,hr,Frame.raise,zr,cT]
theorem nY : ∀{l:List AV} {q:List (Nat×Nat)} {cs:List Value},Aa l=some q→cL g w l cs→Mps g q cs
 |[],q,[],h,_=>by
  simp only[Aa,c9] at h;subst h;trivial
 |.mp b off::l,q,cv::cs,h,hv=>by
  simp only[Aa] at h
  split at h
  · rename_i l' hl
    simp only[c9] at h;subst h
    have h1:=hv.1
    cases h1 with
    |mp _ _ c hc=>exact⟨⟨c,hc,rfl⟩,nY hl hv.2⟩
  · cases h
 |[],_,_::_,_,hv=>hv.elim
 |_::_,_,[],_,hv=>hv.elim
 |.ah::_,_,_::_,h,_ | .p _::_,_,_::_,h,_ | .os .. :: _,_,_::_,h,_ | .ms .. :: _,_,_::_,h,_ | .fn .. :: _,_,_::_,h,_ | .agg _::_,_,_::_,h,_ | .au _::_,_,_::_,h,_
 |.nu .. :: _,_,_::_,h,_ | .vm _::_,_,_::_,h,_ | .vy _::_,_,_::_,h,_=>by cases h
theorem LD {c:cw} {b:Frame} {a:Act} {k0:List It} {ops:Array Oper} {i bV:Nat} {o:Oper} (hs:cu E g c.st a w) (xe:b.fn=c.f) (hbk:eJ g c.st.bX b) (hd:Mk g c.st.cA a.defers)
  (ho:ops[i]? = some o) (hw:yb o (yielded ops a.tmps)=true) (Uj : ∀x∈k0,It.pl x) :
  B9 P E g c (b.atR a (.inRegion ops (i::xi (i+1) (ops.size-(i+1)))::dV k0)) w (K3 E c o (.ops bV ops (i+1) false::k0)):=by
 have zI:=gw hs
 have throw : ∀(x:Operand),Ab (ev E c.st.tm x)=true→(∀v,a.eval x=v→(∃t y,v = .iface t y)→(o.semAt b.roundOf a.eval).run P w = .halt (.panic v) w) →
   eO P E g c (b.atR a (.inRegion ops (i::xi (i+1) (ops.size-(i+1)))::dV k0)) w {c with todo:=[.hJ (ev E c.st.tm x)]}:=by
  intro x hx hrun cs
  have hr:=hrun _ rfl (DC hx (zI x))
  exact⟨g,_,w,.one (FC ho hw hr),⟨b,a,_,a.eval x,rfl,xe,hbk,hd,hs,zI x⟩,dm.refl _ _ _,bJ.refl _ _,rfl,rfl,rfl⟩
 unfold K3
 split
 · rename_i x hop
   cases hx:Ab (ev E c.st.tm x) with
   |false=>trivial
   |true=>
    refine throw x hx fun v hv ⟨t,y,e⟩=> ?_
    have Uk:o.semAt b.roundOf a.eval=execOp a.eval o:=by unfold Oper.semAt;rw[hop];cases b.roundOf<;>rfl
    rw[Uk]
    subst hv
    simp only[execOp,hop,e,Instr.panic]
    rfl
 · rename_i d hop
   split
   · rename_i x hc ha
     have kG:d.args = #[x]:=by have:=congrArg wx ha;simpa using this
     cases hx:Ab (ev E c.st.tm x) with
     |false=>trivial
     |true=>
      refine throw x hx fun v hv ⟨t,y,e⟩=> ?_
      have Uk:o.semAt b.roundOf a.eval=execOp a.eval o:=by unfold Oper.semAt;rw[hop];cases b.roundOf<;>rfl
      rw[Uk]
      subst hv
      simp only[execOp,hop,resolve,hc,kG,iv,ja,jb,invoke,wc,oT,wi,e]
      rfl
   · trivial
 · rename_i d hop
   split
   · trivial
   · rename_i f hmk zJ xg
     split
     · rename_i gf first captured hf
       split
       · rename_i l m hl hm
         intro hfit cs
         have hvf:=zI f
         rw[hf,VA.fns] at hvf
         obtain⟨fa,ca,hcf,Ul,hca⟩:=hvf
         have hro:=hbk.B7 fun i e=>xg i e
         have hrun:(o.semAt b.roundOf a.eval).run P w = .ok (.defer {target:= .fn (.func gf) ca,args:=fa++d.args.map a.eval}) w:=by
          rw[hro]
          simp only[Oper.semAt,execOp,hop,resolve,zJ,hcf,ye,iv,ja,jb]
         have hargs:cL g w (first++d.args.toList.map (ev E c.st.tm)) (fa++d.args.map a.eval).toList:=by
          simp only[Hb,gn]
          exact Ul.append (gL zI _)
         rw[hmk] at hd
         have hds:a.defers=[]:=by
          cases hq:a.defers with
          |nil=>rfl
          |cons _ _=>rw[hq] at hd;exact hd.elim
         have hstep:_root_.Go.step P (lone (b.atR a (.inRegion ops (i::xi (i+1) (ops.size-(i+1)))::dV k0)) cs w) =
          .next (lone (b.atR ({a with defers:=[{target:= .fn (.func gf) ca,args:=fa++d.args.map a.eval}]}.put o.dst undef) (.inRegion ops (xi (i+1) (ops.size-(i+1)))::dV k0)) cs w):=by
          have hg:=stepGR_op (P:=P) (b:=b) (k:=dV k0) (cs:=cs) (w:=w) (rest:=xi (i+1) (ops.size-(i+1))) ho hw
          have nW:({b.atR a (.inRegion ops (i::xi (i+1) (ops.size-(i+1)))::dV k0) with defers:={target:= .fn (.func gf) ca,args:=fa++d.args.map a.eval}::a.defers}:Frame).finish undef =
           b.atR ({a with defers:=[{target:= .fn (.func gf) ca,args:=fa++d.args.map a.eval}]}.put o.dst undef) (.inRegion ops (xi (i+1) (ops.size-(i+1)))::dV k0):=by
           have:=zd b {a with defers:=[{target:= .fn (.func gf) ca,args:=fa++d.args.map a.eval}]} ops i (xi (i+1) (ops.size-(i+1))) (dV k0) undef
           rw[ho] at this
           rw[hds]
           exact this
          refine step_lone_go ?_
          rw[hg]
          simp only[stepG.apply,Sem.runT_eq,hrun,GStep.bare_after]
          exact congrArg (fun fr=>GStep.go {frame:=fr,callers:=cs,status:= .running,dying:=none} w) nW
         have hs':cu E g {c.st with cA:=[.late gf l m]} {a with defers:=[{target:= .fn (.func gf) ca,args:=fa++d.args.map a.eval}]} w:=⟨hs.tm,hs.nt,hs.rel,hs.fix,hs.dg⟩
         have hd':Mk g [.late gf l m] [{target:= .fn (.func gf) ca,args:=fa++d.args.map a.eval}]:=⟨⟨_,_,nY hl hargs,nY hm hca,rfl⟩,trivial⟩
         refine⟨g,_,w,.one hstep,dN.mk (c:={c with todo:= .ops bV ops (i+1) false::k0,st:=put {c.st with cA:=[.late gf l m]} o.dst (.au [])}) (nf trivial Uj) xe
          (hbk.put (st:=c.st) (st':={c.st with cA:=[.late gf l m]}) (Ext.refl g w) rfl)
          (Mk.put (st:={c.st with cA:=[.late gf l m]}) (st':={c.st with cA:=[.late gf l m]}) (a:={a with defers:=[{target:= .fn (.func gf) ca,args:=fa++d.args.map a.eval}]}) hd' (Ext.refl g w) rfl)
          (hs'.put (cv:=undef) (v:= .au []) (m':=c.st.mem) hfit (VA.lF.2 trivial) (Ext.refl g w) hs.rel hs.fix),?_,bJ.refl _ _,rfl,?_,jA⟩
         · have:(put {c.st with cA:=[.late gf l m]} o.dst (.au [])).mem=c.st.mem:=by unfold Am.put;cases o.dst<;>rfl
           show dm g c.st.mem w g (put {c.st with cA:=[.late gf l m]} o.dst (.au [])).mem w
           rw[this];exact dm.refl _ _ _
         · show(put {c.st with cA:=[.late gf l m]} o.dst (.au [])).fix=c.st.fix
           unfold Am.put;cases o.dst<;>rfl
       · trivial
     · trivial
   · trivial
 · trivial
theorem HA {c:cw} {b:Frame} {a:Act} {k0:List It} {ops:Array Oper} {i bV:Nat} {o:Oper} (hs:cu E g c.st a w) (xe:b.fn=c.f) (hbk:eJ g c.st.bX b) (hd:Mk g c.st.cA a.defers)
  (ho:ops[i]? = some o) (hw:yb o (yielded ops a.tmps)=true) (Uj : ∀x∈k0,It.pl x) :
  B9 P E g c (b.atR a (.inRegion ops (xi i (ops.size-i))::dV k0)) w (K4 P E c bV o (.ops bV ops (i+1) false::k0)):=by
 have hi:i<ops.size:=by
  rcases fg i ops.size with q | q
  · exact q
  · rw[Ha q] at ho;cases ho
 rw[nV hi]
 unfold K4
 have zI:=gw hs
 split
 · rename_i f args ht
   split
   · rename_i v ab7
     intro hok cs
     obtain⟨cv,k1,k2⟩:=DB zI ab7
     have hstep:=rB (b:=b) (k:=dV k0) (cs:=cs) (rest:=xi (i+1) (ops.size-(i+1))) ho hw (.inl k1)
     refine⟨g,_,w,.one hstep,dN.mk (a:=a.put o.dst cv) (c:={c with todo:= .ops bV ops (i+1) false::k0,st:=put {c.st with mem:=c.st.mem} o.dst v}) (nf trivial Uj) xe (hbk.put (st':={c.st with mem:=_}) (Ext.refl g w) rfl) (hd.put (st':={c.st with mem:=_}) (Ext.refl g w) rfl) (hs.put hok k2 (Ext.refl g w) hs.rel hs.fix),?_,bJ.refl _ _,rfl,?_,jA⟩
     · have:(put c.st o.dst v).mem=c.st.mem:=(by unfold Am.put;cases o.dst<;>rfl)
       show dm g c.st.mem w g (put c.st o.dst v).mem w
       rw[this];exact dm.refl _ _ _
     · show(put c.st o.dst v).fix=c.st.fix
       unfold Am.put;cases o.dst<;>rfl
   cases hb:(fits c.st o.dst&&iT (close c.st.mem 0 args) c.st.mem.length) with
   |false=>simp only[hb,cond_false];trivial
   |true=>
    simp only[hb,cond_true]
    simp only[c8] at hb
    unfold target at ht
    split at ht
    · rename_i call hop
      split at ht
      · rename_i x zJ
        split at ht
        · rename_i f' first captured hx
          simp only[c9,iu] at ht
          obtain⟨rfl,rfl⟩:=ht
          have zB:=zI x
          rw[hx,VA.fns] at zB
          obtain⟨fa,ca,zB,Ul,hca⟩:=zB
          have hargs:cL g w (first++call.args.toList.map (ev E c.st.tm)++captured) (fa++call.args.map a.eval++ca).toList:=by
           simp only[Hb,gn]
           exact(Ul.append (gL zI _)).append hca
          generalize first++call.args.toList.map (ev E c.st.tm)++captured=args at *
          obtain⟨hnd,_⟩:=fc c.st.mem 0 args
          generalize close c.st.mem 0 args=ord at *
          obtain⟨Lv,Lw⟩:=hs.rel.pack hnd
          have mF:=dy.pack g ord
          have hlen:(Am.pack c.st.mem ord).length=ord.length:=by simp[Am.pack]
          constructor
          · intro v m1 fD cs
            obtain⟨⟨fn,Qm,Qn,Qo⟩,fD⟩:=fD
            have hrun:=xd (P:=P) (w:=w) hop zJ zB Qm Qn Qo
            obtain⟨w',g',cv,fr,q1,q2,q3,q4,q5,q6,q7,q8⟩:=fD (g.pack ord) w (fa++call.args.map a.eval++ca) (b.atR a (.inRegion ops (i::xi (i+1) (ops.size-(i+1)))::dV k0)::cs) Lv
             (cL.jx mF hargs) (hs.dg.mono fun _ _ p=>⟨p,rfl⟩)
            rw[hlen] at q7 q8
            obtain⟨r1,r2,r3,r4⟩:=hs.rel.back hnd (fQ hb.2) q5 q6 q7 q8
            have hstep:=qi (b:=b) (k:=dV k0) (cs:=cs) (rest:=xi (i+1) (ops.size-(i+1))) ho hw hrun
            have hleave:=step_leave_returned (P:=P) (c:=b.atR a (.inRegion ops (i::xi (i+1) (ops.size-(i+1)))::dV k0)) (cs:=cs) q2
            have nW:(b.atR a (.inRegion ops (i::xi (i+1) (ops.size-(i+1)))::dV k0)).finish cv=b.atR (a.put o.dst cv) (.inRegion ops (xi (i+1) (ops.size-(i+1)))::dV k0):=by
             rw[zd,ho];rfl
            rw[nW] at hleave
            have nX:c.st.fix≤(dh (bg ord c.st.mem.length) ord m1 c.st.mem).length:=by
             rw[dX _ _ _ _ q8];have:=hs.fix;omega
            refine⟨_,_,w',.head hstep (q1.trans (.one hleave)),dN.mk (a:=a.put o.dst cv) (c:={c with todo:= .ops bV ops (i+1) false::k0,st:=back ord o.dst c.st v m1}) (nf trivial Uj) xe (hbk.put (st':={c.st with mem:=_}) r2 rfl) (hd.put (st':={c.st with mem:=_}) r2 rfl) (hs.put hb.1 (q4.jx r4) r2 r1 nX),?_,bJ.rz r2 _,rfl,?_,jA⟩
            · have:(back ord o.dst c.st v m1).mem=dh (bg ord c.st.mem.length) ord m1 c.st.mem:=by
               unfold back Am.put;cases o.dst<;>rfl
              show dm g c.st.mem w _ (back ord o.dst c.st v m1).mem w'
              rw[this];exact r3
            · show(back ord o.dst c.st v m1).fix=c.st.fix
              unfold back Am.put;cases o.dst<;>rfl
          · intro u m1 fD cs
            obtain⟨⟨fn,Qm,Qn,Qo⟩,fD⟩:=fD
            have hrun:=xd (P:=P) (w:=w) hop zJ zB Qm Qn Qo
            obtain⟨w',g',cv,fr,q1,q2,q3,q4,q5,q6,q7,q8⟩:=fD (g.pack ord) w (fa++call.args.map a.eval++ca) (b.atR a (.inRegion ops (i::xi (i+1) (ops.size-(i+1)))::dV k0)::cs) Lv
             (cL.jx mF hargs) (hs.dg.mono fun _ _ p=>⟨p,rfl⟩)
            rw[hlen] at q7 q8
            obtain⟨r1,r2,r3,r4⟩:=hs.rel.back hnd (fQ hb.2) q5 q6 q7 q8
            have hstep:=qi (b:=b) (k:=dV k0) (cs:=cs) (rest:=xi (i+1) (ops.size-(i+1))) ho hw hrun
            have hleave:=step_leave_panicked (P:=P) (c:=b.atR a (.inRegion ops (i::xi (i+1) (ops.size-(i+1)))::dV k0)) (cs:=cs) q2
            have nX:c.st.fix≤(dh (bg ord c.st.mem.length) ord m1 c.st.mem).length:=by
             rw[dX _ _ _ _ q8];have:=hs.fix;omega
            refine⟨_,_,w',.head hstep (q1.trans (.one hleave)),⟨b,a,_,cv,rfl,xe,hbk.ext fun i c q=>(r2.bP i c q).1,hd.ext fun i c q=>(r2.bP i c q).1,⟨fun k=>(hs.tm k).mono r2,hs.nt,r1,nX,hs.dg.mono r2.pure⟩,q4.jx r4⟩,r3,bJ.rz r2 _,rfl,rfl,rfl⟩
        · cases ht
      · cases ht
    · cases ht
 · dsimp only
   split
   · rename_i args ht
     cases hb:(fits c.st o.dst&&iT (close c.st.mem 0 args) c.st.mem.length) with
     |false=>trivial
     |true=>
      simp only[cond_true]
      simp only[c8] at hb
      intro v m1 fD cs
      obtain⟨g',a',w',r1,r2,r3,r4,r5,r6,r7⟩:=LC (P:=P) (k:=dV k0) (rest:=xi (i+1) (ops.size-(i+1))) hs hd hbk ho hw ht hb.1 hb.2 fD cs
      exact⟨g',_,w',r1,dN.mk (a:=a') (c:={c with todo:= .ops bV ops (i+1) false::k0,st:=back (close c.st.mem 0 args) o.dst c.st v m1}) (nf trivial Uj) xe r3 r2 r4,r5,r6,rfl,r7,jA⟩
   · split
     · rename_i v us ok he
       intro hok cs
       simp only[c8] at hok
       obtain⟨rfl,hfit⟩:=hok
       have hres:Rel g (reserve o c.st.mem) w∧dm g c.st.mem w g (reserve o c.st.mem) w:=by
        unfold reserve
        cases makes o with
        |true=>exact hs.rel.reserve
        |false=>exact⟨hs.rel,dm.refl _ _ _⟩
       have hfree:makes o=true→(reserve o c.st.mem)[c.st.mem.length]? = some .free:=by
        intro hm
        simp[reserve,hm]
       obtain⟨cv,w',g',k1,k2,k3,k4,k5⟩:=oS hres.1 zI (fun _=>rfl) hfree he
       have hstep:=rB (b:=b) (k:=dV k0) (cs:=cs) (rest:=xi (i+1) (ops.size-(i+1))) ho hw k1
       have nX:c.st.fix≤(apply (reserve o c.st.mem) us).length:=by
        rw[eB]
        have:=hs.fix
        unfold reserve
        cases makes o<;>simp<;>omega
       refine⟨g',_,w',.one hstep,dN.mk (a:=a.put o.dst cv) (c:={c with todo:= .ops bV ops (i+1) false::k0,st:=put {c.st with mem:=apply (reserve o c.st.mem) us} o.dst v}) (nf trivial Uj) xe (hbk.put (st':={c.st with mem:=_}) k4 rfl) (hd.put (st':={c.st with mem:=_}) k4 rfl) (hs.put hfit k2 k4 k3 nX),?_,bJ.rz k4 _,rfl,?_,jA⟩
       · have:(put {c.st with mem:=apply (reserve o c.st.mem) us} o.dst v).mem=apply (reserve o c.st.mem) us:=by unfold Am.put;cases o.dst<;>rfl
         show dm g c.st.mem w _ (put {c.st with mem:=apply (reserve o c.st.mem) us} o.dst v).mem w'
         rw[this];exact hres.2.trans k5
       · show(put {c.st with mem:=apply (reserve o c.st.mem) us} o.dst v).fix=c.st.fix
         unfold Am.put;cases o.dst<;>rfl
     · exact LD hs xe hbk hd ho hw Uj
end
end Go.Am
end
section
namespace Go.Am
section
variable {P:Program} {E:Env}
theorem uA {ρ ρ':Operand→AV} : ∀{l:List Operand},(∀x∈l,ρ x=ρ' x)→ud ρ l=ud ρ' l
 |[],_=>rfl
 |x::r,h=>by simp only[ud,h x (.head _),uA fun y hy=>h y (.tail _ hy)]
theorem nZ {ρ ρ':Operand→AV} {x:Option Operand} (h : ∀y∈x,ρ y=ρ' y) (d:Nat):bound ρ x d=bound ρ' x d:=by
 cases x with
 |none=>rfl
 |some x=>simp only[bound,h x (by simp)]
theorem Ar {rd:Nat→aU} {wr:Bool} {aZ:Nat} {ρ ρ':Operand→AV} {o:Oper} (hq:gF o=true) (h : ∀x∈o.op.operands,ρ x=ρ' x):ug P rd wr aZ ρ o=ug P rd wr aZ ρ' o:=by
 have hsel : ∀cs b,o.op ≠ .select cs b:=by
  intro cs b e
  simp[gF,e] at hq
 have hsc:scalar P ρ o=scalar P ρ' o:=by
  unfold scalar
  rw[uA (ρ:=ρ) (ρ':=ρ') fun x hx=>h x (by simpa using hx),
   execOp_congr (ρ:=fun x=>(Fg (ρ x)).getD undef) (ρ':=fun x=>(Fg (ρ' x)).getD undef) o hsel fun x hx=>by rw[h x hx]]
 obtain⟨dst,op,type,pos,after,guard⟩:=o
 cases op<;>simp only[gF,pb] at hq<;>simp only[abp] at h<;>simp only[ug]
 case move x=>rw[h x (by simp)]
 case assign x=>rw[h x (by simp)]
 case pick c a b=>rw[h c (by simp),h a (by simp),h b (by simp)]
 case build t ps=>
  have:ps.toList.map (fun q=>(q.1,ρ q.2))=ps.toList.map fun q=>(q.1,ρ' q.2):=
   Hn fun q hq=>by rw[h q.2 (by simp only[PH,eh];exact⟨q,hq,rfl⟩)]
  rw[this]
 case load t a=>rw[h a (by simp)]
 case nilCheck x=>rw[h x (by simp)];simp only[jR,hsc]
 case binOp op t x y r=>rw[h x (by simp),h y (by simp)];simp only[qI,hsc]
 case unOp op t x=>rw[h x (by simp)];simp only[vT,hsc]
 case convert s d x=>rw[h x (by simp)];simp only[convertOp,hsc]
 case makeInterface t x=>rw[h x (by simp)]
 case makeFunc f first captured=>
  rw[Hn (l:=first.toList) fun x hx=>h x (by simp_all),Hn (l:=captured.toList) fun x hx=>h x (by simp_all)]
 case slice t x lo hi mx=>
  rw[h x (by simp)]
  have h1:=nZ (ρ:=ρ) (ρ':=ρ') (x:=lo) fun y hy=>h y (by simp_all)
  have h2:=nZ (ρ:=ρ) (ρ':=ρ') (x:=hi) fun y hy=>h y (by simp_all)
  have h3:=nZ (ρ:=ρ) (ρ':=ρ') (x:=mx) fun y hy=>h y (by simp_all)
  cases mx with
  |none=>
   simp only[oI,h1,h2]
   repeat' first | rfl | split
   all_goals simp_all
  |some m=>
   simp only[oI,h1,h2]
   repeat' first | rfl | split
   all_goals simp_all
 case fieldAddr t x f=>rw[h x (by simp)]
 case field t x f=>rw[h x (by simp)]
 case indexAddr t x i=>rw[h x (by simp),h i (by simp)]
 case index t x i=>rw[h x (by simp),h i (by simp)]
 case extract x i=>rw[h x (by simp)]
 case call c=>
  obtain⟨callee,args,tys⟩:=c
  cases callee with
  |value _=>simp at hq
  |invoke _ _=>simp at hq
  |builtin b=>
   simp only[Call.operands] at h
   obtain⟨args⟩:=args
   have hmm : ∀mn,jT P ρ ⟨dst,.call ⟨.builtin b,⟨args⟩,tys⟩,type,pos,after,guard⟩ mn args=jT P ρ' ⟨dst,.call ⟨.builtin b,⟨args⟩,tys⟩,type,pos,after,guard⟩ mn args:=by
    intro mn
    unfold jT
    rw[hsc,Hn (l:=args) fun x hx=>h x (by simp_all)]
   cases b<;>simp only[pb] at hq<;>simp only[hmm]
   cases args with
   |nil=>rfl
   |cons x r=>cases r with
    |nil=>simp only[h x (by simp)]
    |cons _ _=>rfl
theorem rC (st:St) (dst:Option Tmp) (v:AV) (t:Nat):look (put st dst v).tm t=if dst=some t then v else look st.tm t:=by
 cases dst with
 |none=>simp[put]
 |some d=>simp only[put,jM,c9]
theorem Ca (st:St) (dst:Option Tmp) (v:AV):(put st dst v).mem=st.mem∧(put st dst v).nt=st.nt∧(put st dst v).fix=st.fix:=by
 cases dst<;>exact⟨rfl,rfl,rfl⟩
theorem mG {a b:List Nat} (h:meet a b=false) {i:Nat} (ha:i∈a) (hb:i∈b):False:=by
 simp only[meet,List.any_eq_false] at h
 have:=h i ha
 simp only[List.any_eq_true,not_exists,not_and] at this
 exact this i hb (vt i)
theorem DD : ∀(l:List Oper) (acc:List Nat),∃M,masks acc l=acc++M∧M.length=l.length ∧ ∀i o,l[i]? = some o→M[i]? = some (p9 (acc++M.take i) o)
 |[],acc=>⟨[],by simp[masks]⟩
 |o::r,acc=>by
  obtain⟨M,h1,h2,h3⟩:=DD r (acc++[p9 acc o])
  refine⟨p9 acc o::M,by simp[masks,h1],by simp[h2],?_⟩
  intro i p hp
  cases i with
  |zero=>simp only[mf,c9] at hp;subst hp;simp
  |succ i=>
   simp only[mi] at hp
   have:=h3 i p hp
   simpa using this
theorem FD {acc:List Nat} {o:Oper} {j:Nat} (h:bj (p9 acc o) j=true) : ∃e∈o.after,yr .any e=true∧(e.on=j∨bj (acc.getD e.on 0) j=true):=by
 unfold p9 at h
 have key : ∀(l:List Edge) (s:Nat),bj (l.foldl (fun s e=>cond (yr .any e) (s|||(2 ^ e.on|||acc.getD e.on 0)) s) s) j=true →
   bj s j=true ∨ ∃e∈l,yr .any e=true∧(e.on=j∨bj (acc.getD e.on 0) j=true):=by
  intro l
  induction l with
  |nil=>intro s h;exact .inl h
  |cons e r ih=>
   intro s h
   simp only[List.foldl_cons] at h
   rcases ih _ h with h | ⟨e',he',q⟩
   · cases hb:yr .any e with
     |false=>rw[hb] at h;exact .inl h
     |true=>
      rw[hb] at h
      simp only[cond_true,Nat.testBit_or,il] at h
      rcases h with h | h | h
      · exact .inl h
      · refine .inr ⟨e,.head _,hb,.inl ?_⟩
        rw[Nat.testBit_two_pow] at h
        exact of_decide_eq_true h
      · exact .inr ⟨e,.head _,hb,.inr h⟩
   · exact .inr ⟨e',.tail _ he',q⟩
 rcases key _ _ h with h | ⟨e,he,q⟩
 · simp at h
 · exact⟨e,by simpa using he,q⟩
theorem pJ {q:Oper→Bool} {ops:Array Oper} {L:List Nat} : ∀{r ni:List Oper},jU q ops L ni.length ni r=true →
  ∀i o,(ni++r)[i]? = some o→ni.length≤i →
   q o=true∧(∀e∈o.after,yr .any e=true→e.on<i) ∧ ∀j p,j<i→(ni++r)[j]? = some p→qa ops L i o j p=true
 |[],ni,_,i,o,ho,hi=>by
  simp only[Pl] at ho
  rw[dt hi] at ho;cases ho
 |q0::r,ni,h,i,o,ho,hi=>by
  simp only[jU,c8] at h
  obtain⟨⟨⟨h1,h2⟩,h3⟩,h4⟩:=h
  by_cases hc:i=ni.length
  · subst hc
    have:o=q0:=by simpa using ho.symm
    subst this
    refine⟨h1,?_,?_⟩
    · intro e he hb
      have:=PQ.1 h2 e (by simpa using he)
      simp only[hb,yi,pj] at this
      rwa [Nat.blt_eq] at this
    · intro j p hj hp
      have key : ∀(l:List Oper) (k:Nat),vD ops L ni.length o k l=true → ∀m p,l[m]? = some p→qa ops L ni.length o (k+m) p=true:=by
       intro l
       induction l with
       |nil=>intro k _ m p hp;simp at hp
       |cons x l ih=>
        intro k hk m p hp
        simp only[vD,c8] at hk
        cases m with
        |zero=>simp only[mf,c9] at hp;subst hp;exact hk.1
        |succ m=>
         simp only[mi] at hp
         have:=ih (k+1) hk.2 m p hp
         rwa [fi,aaT 1 m] at this
      have hp':ni[j]? = some p:=by rwa [od hj] at hp
      simpa using key ni 0 h3 j p hp'
  · have h4':jU q ops L (ni++[q0]).length (ni++[q0]) r=true:=by simpa using h4
    have:=pJ h4' i o (by simpa using ho) (by simp;omega)
    simpa using this
def TA (P:Program) (E:Env) (rd:Nat→aU) (wr:Bool) (aZ:Nat) (ops:Array Oper) (st:St) (o:Oper) (v:AV):Prop:=
 ((ep ops st.tm o = .yes ∨ ∃d b want,ep ops st.tm o = .ask d b want∧(b==want)=true)∧ug P rd wr aZ (ev E st.tm) o=some (v,[],true)) ∨
 ((ep ops st.tm o = .no ∨ ∃d b want,ep ops st.tm o = .ask d b want∧(b==want)=false)∧v = .au [])
inductive Cb (P:Program) (E:Env) (rd:Nat→aU) (wr:Bool) (aZ:Nat) (ops:Array Oper):List Oper→St→List AV→St→Prop
 |nil (st:St):Cb P E rd wr aZ ops [] st [] st
 |cons (o:Oper) (r:List Oper) (st:St) (v:AV) (vs:List AV) (st':St) (hf:fits st o.dst=true) (h:TA P E rd wr aZ ops st o v)
   (hr:Cb P E rd wr aZ ops r (put st o.dst v) vs st'):Cb P E rd wr aZ ops (o::r) st (v::vs) st'
theorem oa {rd:Nat→aU} {wr:Bool} {aZ:Nat} {ops:Array Oper} : ∀{l:List Oper} {st st':St},kN P E rd wr aZ ops l st=some (st',true) → ∃vs,Cb P E rd wr aZ ops l st vs st'
 |[],st,st',h=>by
  simp only[kN,c9,iu,and_true] at h
  subst h
  exact⟨[],.nil st⟩
 |o::r,st,st',h=>by
  have skip:(match kN P E rd wr aZ ops r (put st o.dst (.au [])) with
   |some (st',ok)=>some (st',fits st o.dst&&ok)
   |none=>none)=some (st',true)→fits st o.dst=true ∧ ∃vs,Cb P E rd wr aZ ops r (put st o.dst (.au [])) vs st':=by
   intro h
   split at h
   · rename_i Qp ok hq
     simp only[c9,iu,c8] at h
     obtain⟨rfl,h1,rfl⟩:=h
     exact⟨h1,oa hq⟩
   · cases h
  have qN:(match ug P rd wr aZ (ev E st.tm) o with
   |some (v,[],ok)=>match kN P E rd wr aZ ops r (put st o.dst v) with
    |some (st',ok')=>some (st',ok&&(fits st o.dst&&ok'))
    |none=>none
   |_=>none)=some (st',true) → ∃v,ug P rd wr aZ (ev E st.tm) o=some (v,[],true)∧fits st o.dst=true ∧ ∃vs,Cb P E rd wr aZ ops r (put st o.dst v) vs st':=by
   intro h
   split at h
   · rename_i v ok hop
     split at h
     · rename_i Qp ok' hq
       simp only[c9,iu,c8] at h
       obtain⟨rfl,rfl,h1,rfl⟩:=h
       exact⟨v,hop,h1,oa hq⟩
     · cases h
   · cases h
  unfold kN at h
  dsimp only at h
  cases hw:ep ops st.tm o with
  |yes=>
   rw[hw] at h
   obtain⟨v,h1,h2,vs,h3⟩:=qN h
   exact⟨v::vs,.cons o r st v vs st' h2 (.inl ⟨.inl hw,h1⟩) h3⟩
  |no=>
   rw[hw] at h
   obtain⟨h2,vs,h3⟩:=skip h
   exact⟨.au []::vs,.cons o r st _ vs st' h2 (.inr ⟨.inl hw,rfl⟩) h3⟩
  |lost=>rw[hw] at h;cases h
  |ask d b want=>
   rw[hw] at h
   dsimp only at h
   cases hb:b==want with
   |true=>
    rw[hb] at h
    obtain⟨v,h1,h2,vs,h3⟩:=qN h
    exact⟨v::vs,.cons o r st v vs st' h2 (.inl ⟨.inr ⟨d,b,want,hw,hb⟩,h1⟩) h3⟩
   |false=>
    rw[hb] at h
    obtain⟨h2,vs,h3⟩:=skip h
    exact⟨.au []::vs,.cons o r st _ vs st' h2 (.inr ⟨.inr ⟨d,b,want,hw,hb⟩,rfl⟩) h3⟩
def DE (l:List Oper):Prop:= ∀(i j:Nat) (p q:Oper) (t:Tmp),i<j→l[i]? = some p→l[j]? = some q→p.dst=some t→q.dst≠some t
def dJ (l:List Oper) (vs:List AV) (st:St) (i:Nat) (iP:St):Prop:=
 iP.mem=st.mem∧iP.nt=st.nt∧iP.fix=st.fix∧(∀j p v t,j<i→l[j]? = some p→vs[j]? = some v→p.dst=some t→look iP.tm t=v) ∧
 (∀t,(∀j p,j<i→l[j]? = some p→p.dst≠some t)→look iP.tm t=look st.tm t)
theorem dJ.cons {o:Oper} {r:List Oper} {v:AV} {vs:List AV} {st iP:St} {i:Nat} (hu:DE (o::r)) (h:dJ r vs (put st o.dst v) i iP):dJ (o::r) (v::vs) st (i+1) iP:=by
 obtain⟨h1,h2,h3,h4,h5⟩:=h
 obtain⟨q1,q2,q3⟩:=Ca st o.dst v
 refine⟨h1.trans q1,h2.trans q2,h3.trans q3,?_,?_⟩
 · intro j p w t hj hp hw ht
   cases j with
   |zero=>
    simp only[mf,c9] at hp hw
    subst hp;subst hw
    rw[h5 t fun j p _ hp=>hu 0 (j+1) o p t (by omega) rfl (by simpa using hp) ht,rC,if_pos ht]
   |succ j=>exact h4 j p w t (by omega) (by simpa using hp) (by simpa using hw) ht
 · intro t ht
   rw[h5 t fun j p hj hp=>ht (j+1) p (by omega) (by simpa using hp),rC,if_neg (ht 0 o (by omega) rfl)]
theorem Cb.spec {rd:Nat→aU} {wr:Bool} {aZ:Nat} {ops:Array Oper} {l:List Oper} {st st':St} {vs:List AV} (h:Cb P E rd wr aZ ops l st vs st') (hu:DE l) :
  vs.length=l.length∧dJ l vs st l.length st' ∧ ∀i o,l[i]? = some o → ∃v iP,vs[i]? = some v∧TA P E rd wr aZ ops iP o v∧fits iP o.dst=true∧dJ l vs st i iP:=by
 induction h with
 |nil st=>exact⟨rfl,⟨rfl,rfl,rfl,fun j _ _ _ hj=>absurd hj (vz _),fun _ _=>rfl⟩,fun i o ho=>by simp at ho⟩
 |cons o r st v vs st' hf hk hr ih=>
  have PX:DE r:=fun i j p q t hij hp hq=>hu (i+1) (j+1) p q t (by omega) (by simpa using hp) (by simpa using hq)
  obtain⟨h1,h2,h3⟩:=ih PX
  refine⟨by simp[h1],h2.cons hu,?_⟩
  intro i p hp
  cases i with
  |zero=>
   simp only[mf,c9] at hp
   subst hp
   exact⟨v,st,rfl,hk,hf,rfl,rfl,rfl,fun j _ _ _ hj=>absurd hj (vz _),fun _ _=>rfl⟩
  |succ i=>
   obtain⟨w,iP,q1,q2,q3,q4⟩:=h3 i p (by simpa using hp)
   exact⟨w,iP,by simpa using q1,q2,q3,q4.cons hu⟩
structure nj (ops:Array Oper) (L:List Nat) (vs:List AV) (gH eH:St) (S:Array Bool):Prop where
 size:S.size=ops.size
 mem:eH.mem=gH.mem
 nt:eH.nt=gH.nt
 fix:eH.fix=gH.fix
 a : ∀(j:Nat) (p:Oper) (v:AV) (t:Tmp),S.getD j false=true→ops.toList[j]? = some p→vs[j]? = some v→p.dst=some t→look eH.tm t=v
 b : ∀t:Tmp,(∀(j:Nat) (p:Oper),S.getD j false=true→ops.toList[j]? = some p→p.dst≠some t)→look eH.tm t=look gH.tm t
 cl : ∀i j:Nat,S.getD i false=true→bj (L.getD i 0) j=true→S.getD j false=true
structure vf (ops:Array Oper) (L:List Nat):Prop where
 mask : ∀i o,ops.toList[i]? = some o→L[i]? = some (p9 (L.take i) o)
 low : ∀(i:Nat) o,ops.toList[i]? = some o → ∀e∈o.after,yr .any e=true→e.on<i
 pair : ∀(i:Nat) o,ops.toList[i]? = some o → ∀j p,j<i→ops.toList[j]? = some p→qa ops L i o j p=true
theorem vf.of {q:Oper→Bool} {ops:Array Oper} (h:jU q ops (masks [] ops.toList) 0 [] ops.toList=true):vf ops (masks [] ops.toList) ∧ ∀(i:Nat) o,ops.toList[i]? = some o→q o=true:=by
 obtain⟨M,h1,_,h3⟩:=DD ops.toList []
 simp only[QP] at h1 h3
 rw[h1] at h ⊢
 have hs:=fun i o ho=>pJ (ni:=[]) h i o ho (abb _)
 exact⟨⟨h3,fun i o ho=>(hs i o ho).2.1,fun i o ho=>(hs i o ho).2.2⟩,fun i o ho=>(hs i o ho).1⟩
theorem vf.uniq {ops:Array Oper} {L:List Nat} (h:vf ops L):DE ops.toList:=by
 intro i j p q t hij hp hq ht ht'
 have:=h.pair j q hq i p hij hp
 simp only[qa,c8,im] at this
 exact mG this.1 (i:=t) (by simp[ht']) (by simp[ht])
theorem lN {S:Array Bool} {j:Nat} (h:j<S.size) (d d':Bool):S.getD j d=S.getD j d':=by
 simp[xr,fv h]
theorem Qq {S:Array Bool} {j:Nat} (h:S.getD j false=true):j<S.size:=by
 rcases fg j S.size with q | q
 · exact q
 · rw[xr,Ha q] at h;cases h
section
variable {ops:Array Oper} {L:List Nat} {vs:List AV} {gH eH iP:St} {S:Array Bool}
theorem nj.ahead (hI:nj ops L vs gH eH S) (hO:vf ops L) {i:Nat} (hi:i∈yn .any ops S) {j:Nat} (hb:bj (L.getD i 0) j=true):S.getD j false=true:=by
 obtain⟨_,o,ho,hr⟩:=mem_ready.1 hi
 have ho':ops.toList[i]? = some o:=by simpa using ho
 have hm:=hO.mask i o ho'
 rw[ch,hm,Option.getD_some] at hb
 obtain⟨e,he,zf,h⟩:=FD hb
 rcases h with h | h
 · exact h▸hr e he zf
 · have hlt:=hO.low i o ho' e he zf
   refine hI.cl e.on j (hr e he zf) ?_
   rw[ch,db,if_pos hlt,←ch] at h
   exact h
theorem nj.slots (hI:nj ops L vs gH eH S) (hO:vf ops L) {i:Nat} {o:Oper} (ho:ops.toList[i]? = some o) (hi:i∈yn .any ops S) (hl:vs.length=ops.toList.length) (FE:dJ ops.toList vs gH i iP)
  {t:Tmp} (ht:t∈Am.slots ops o):look eH.tm t=look iP.tm t:=by
 obtain⟨_,_,_,hA,hB⟩:=FE
 have hu:=hO.uniq
 have hni:S.getD i false=false:=by
  obtain⟨h,_⟩:=mem_ready.1 hi
  cases hq:S.getD i false with
  |false=>rfl
  |true=>rw[lN (Qq hq) false true,h] at hq;cases hq
 by_cases hw : ∃(j:Nat) (p:Oper),ops.toList[j]? = some p∧p.dst=some t
 · obtain⟨j,p,hp,hd⟩:=hw
   have only : ∀(k:Nat) (q:Oper),ops.toList[k]? = some q→q.dst=some t→k=j:=by
    intro k q hq PY
    rcases QR k j with h | h | h
    · exact absurd hd (hu k j q p t h hq hp PY)
    · exact h
    · exact absurd PY (hu j k p q t h hp hq hd)
   rcases QR j i with h | h | h
   · have DF:=hO.pair i o ho j p h hp
     simp only[qa,c8,il,im] at DF
     have Um:bj (L.getD i 0) j=true:=by
      rcases DF.2 with q | q
      · exact q
      · exact(mG q.1 (i:=t) (by simp[hd]) ht).elim
     have hS:=hI.ahead hO hi Um
     have Lf : ∃v,vs[j]? = some v:=by
      have:j<vs.length:=by rw[hl];exact(dp.1 hp).1
      exact⟨vs[j],cb this⟩
     obtain⟨v,hv⟩:=Lf
     rw[hI.a j p v t hS hp hv hd,hA j p v t h hp hv hd]
   · subst h
     rw[hI.b t,hB t]
     · intro k q hk hq PY
       have:=only k q hq PY
       omega
     · intro k q hk hq PY
       have:=only k q hq PY
       subst this
       rw[hni] at hk;cases hk
   · have DF:=hO.pair j p hp i o h ho
     simp only[qa,c8,il,im] at DF
     have Um:bj (L.getD j 0) i=true:=by
      rcases DF.2 with q | q
      · exact q
      · exact(mG q.2 (i:=t) (by simp[hd]) ht).elim
     rw[hI.b t,hB t]
     · intro k q hk hq PY
       have:=only k q hq PY
       omega
     · intro k q hk hq PY
       have:=only k q hq PY
       subst this
       have:=hI.cl k i hk Um
       rw[hni] at this;cases this
 · have hno : ∀(k:Nat) (q:Oper),ops.toList[k]? = some q→q.dst≠some t:=fun k q hq hd=>hw ⟨k,q,hq,hd⟩
   rw[hI.b t fun k q _ hq=>hno k q hq,hB t fun k q _ hq=>hno k q hq]
theorem nj.step (hI:nj ops L vs gH eH S) (hO:vf ops L) {i:Nat} {o:Oper} {v:AV} (ho:ops.toList[i]? = some o) (hv:vs[i]? = some v) (hi:i∈yn .any ops S) :
  nj ops L vs gH (put eH o.dst v) (S.setIfInBounds i true):=by
 obtain⟨q1,q2,q3⟩:=Ca eH o.dst v
 have hu:=hO.uniq
 have zu : ∀j,(S.setIfInBounds i true).getD j false=true→j=i∨S.getD j false=true:=by
  intro j hj
  by_cases h:i=j
  · exact .inl h.symm
  · rw[getD_set_ne false h] at hj;exact .inr hj
 have hup : ∀j,S.getD j false=true→(S.setIfInBounds i true).getD j false=true:=fun j hj=>getD_set_true hj
 refine⟨by simp[hI.size],q1.trans hI.mem,q2.trans hI.nt,q3.trans hI.fix,?_,?_,?_⟩
 · intro j p w t hj hp hw hd
   rw[rC]
   by_cases hji:j=i
   · subst hji
     rw[ho] at hp;cases hp
     rw[hv] at hw;cases hw
     rw[if_pos hd]
   · have hne:o.dst≠some t:=by
      rcases Nat.lt_or_gt_of_ne hji with h | h
      · exact hu j i p o t h hp ho hd
      · exact fun hod=>hu i j o p t h ho hp hod hd
     rw[if_neg hne]
     rcases zu j hj with h | h
     · exact absurd h hji
     · exact hI.a j p w t h hp hw hd
 · intro t ht
   have BP:i<S.size:=by rw[hI.size];have:=(dp.1 ho).1;simpa using this
   have hne:o.dst≠some t:=ht i o (by simp[xr,BP]) ho
   rw[rC,if_neg hne]
   exact hI.b t fun j p hj hp=>ht j p (hup j hj) hp
 · intro k j hk hb
   rcases zu k hk with h | h
   · subst h;exact hup j (hI.ahead hO hi hb)
   · exact hup j (hI.cl k j h hb)
theorem nj.all (hI:nj ops L vs gH eH S) (hO:vf ops L) (hr:yn .any ops S=[]) : ∀i,i<ops.size→S.getD i false=true:=by
 intro i
 induction i using aaI with
 |ind i ih=>
  intro hi
  have ho:ops[i]? = some ops[i]:=fv hi
  have ho':ops.toList[i]? = some ops[i]:=by simp[hi]
  cases hq:S.getD i false with
  |true=>rfl
  |false=>
   have:i∈yn .any ops S:=mem_ready.2 ⟨by rw[lN (by rw[hI.size];exact hi) true false];exact hq,ops[i],ho,fun e he hb=>ih e.on (hO.low i _ ho' e he hb) (by have:=hO.low i _ ho' e he hb;omega)⟩
   rw[hr] at this;cases this
theorem nj.ends (hI:nj ops L vs gH eH S) (hl:vs.length=ops.toList.length) {st':St} (hst:dJ ops.toList vs gH ops.toList.length st') (hall : ∀i,i<ops.size→S.getD i false=true) :
  eH.mem=st'.mem∧eH.nt=st'.nt∧eH.fix=st'.fix ∧ ∀t,look eH.tm t=look st'.tm t:=by
 obtain⟨h1,h2,h3,hA,hB⟩:=hst
 refine⟨hI.mem.trans h1.symm,hI.nt.trans h2.symm,hI.fix.trans h3.symm,fun t=> ?_⟩
 by_cases hw : ∃(j:Nat) (p:Oper),ops.toList[j]? = some p∧p.dst=some t
 · obtain⟨j,p,hp,hd⟩:=hw
   have hjl:=(dp.1 hp).1
   have Lf:vs[j]? = some vs[j]:=cb (by rw[hl];exact hjl)
   rw[hI.a j p _ t (hall j (by simpa using hjl)) hp Lf hd,hA j p _ t hjl hp Lf hd]
 · rw[hI.b t fun k q _ hq hd=>hw ⟨k,q,hq,hd⟩,hB t fun k q _ hq hd=>hw ⟨k,q,hq,hd⟩]
end
theorem cu.same {g:Gh} {w:World} {st st':St} {a:Act} (h:cu E g st a w) (h1:st.mem=st'.mem) (h2:st.nt=st'.nt) (h3:st.fix=st'.fix) (h4 : ∀t,look st.tm t=look st'.tm t):cu E g st' a w:=
 ⟨fun k=>h4 k▸h.tm k,h2▸h.nt,h1▸h.rel,by rw[←h1,←h3];exact h.fix,h.dg⟩
theorem uB {ops:Array Oper} {tm YK:vQ} {o:Oper} (h : ∀t∈slots ops o,look tm t=look YK t):ep ops tm o=ep ops YK o:=by
 unfold ep
 unfold slots at h
 cases hg:o.guard with
 |none=>rfl
 |some q=>
  obtain⟨j,want⟩:=q
  simp only[hg] at h
  dsimp only
  cases hj:ops[j]? with
  |none=>rfl
  |some oj=>
   simp only[hj] at h
   dsimp only
   cases hd:oj.dst with
   |none=>rfl
   |some d=>simp only[h d (by simp[hd])]
theorem DG {tm YK:vQ} {ops:Array Oper} {o:Oper} (h : ∀t∈slots ops o,look tm t=look YK t) : ∀x∈o.op.operands,ev E tm x=ev E YK x:=by
 intro x hx
 cases x with
 |tmp t=>exact h t (Hk _ (List.mem_filterMap.2 ⟨.tmp t,by simpa using hx,rfl⟩))
 |_=>rfl
theorem Jo {b:Frame} {k:List Item} {ops:Array Oper} {L:List Nat} {vs:List AV} {gH st':St} {wr:Bool} {aZ:Nat} (hO:vf ops L) (hQ : ∀(i:Nat) o,ops.toList[i]? = some o→gF o=true) (hn:gH.mem[aZ]? = some .free)
  (hrun:Cb P E (fun i=>gH.mem.getD i .dead) wr aZ ops ops.toList gH vs st') : ∀(fuel t:Nat) (S:Array Bool) (eH:St) (a:Act) (g:Gh) (w:World) (u:List Nat),
    nj ops L vs gH eH S→cu E g eH a w→u.length=fuel→(∀i,i<ops.size→S.getD i false=false→i∈u) →
    ∃g' a' w',(∀cs,Steps P (lone (b.atR a (.inRegion ops (abB .any ops fuel t S [])::k)) cs w) (lone (b.atR a' (.inRegion ops []::k)) cs w'))∧a'.defers=a.defers∧cu E g' st' a' w' ∧
     dm g gH.mem w g' gH.mem w'∧bJ g g' gH.fix ∧ ∀i c,g.bP i=some c→g'.bP i=some c:=by
 obtain⟨hl,hend,hspec⟩:=hrun.spec hO.uniq
 intro fuel
 induction fuel with
 |zero=>
  intro t S eH a g w u hI hs Un hu
  have hall : ∀i,i<ops.size→S.getD i false=true:=by
   intro i hi
   cases hq:S.getD i false with
   |true=>rfl
   |false=>
    have:=hu i hi hq
    rw[If Un] at this;cases this
  obtain⟨e1,e2,e3,e4⟩:=hI.ends hl hend hall
  exact⟨g,a,w,fun cs=>abC _ _,rfl,hs.same e1 e2 e3 e4,dm.refl _ _ _,bJ.refl _ _,fun _ _ h=>h⟩
 |succ fuel ih=>
  intro t S eH a g w u hI hs Un hu
  simp only[abB]
  show ∃g' a' w',(∀cs,Steps P (lone (b.atR a (.inRegion ops (match(yn .any ops S)[t%(yn .any ops S).length]? with
   |some i=>abB .any ops fuel (t / (yn .any ops S).length) (S.setIfInBounds i true) [i]
   |none=>[].reverse)::k)) cs w) (lone (b.atR a' (.inRegion ops []::k)) cs w'))∧_
  cases hi:(yn .any ops S)[t%(yn .any ops S).length]? with
  |none=>
   have LF:yn .any ops S=[]:=by
    cases hr:yn .any ops S with
    |nil=>rfl
    |cons x xs=>
     rw[hr] at hi
     have hlt:t%(x::xs).length<(x::xs).length:=pB _ (by simp)
     rw[cb hlt] at hi;cases hi
   obtain⟨e1,e2,e3,e4⟩:=hI.ends hl hend (hI.all hO LF)
   exact⟨g,a,w,fun cs=>abC _ _,rfl,hs.same e1 e2 e3 e4,dm.refl _ _ _,bJ.refl _ _,fun _ _ h=>h⟩
  |some i=>
   have Qr:=mb hi
   obtain⟨hSi,o,ho,_⟩:=mem_ready.1 Qr
   have ho':ops.toList[i]? = some o:=by simpa using ho
   obtain⟨v,iP,hv,hk,hf,FE⟩:=hspec i o ho'
   have xh : ∀t∈slots ops o,look eH.tm t=look iP.tm t:=fun t ht=>hI.slots hO ho' Qr hl FE ht
   have hilt:i<ops.size:=(Fs.1 ho).1
   have LG:i∈u:=hu i hilt (by rw[lN (by rw[hI.size];exact hilt) false true];exact hSi)
   have PX : ∀j,j<ops.size→(S.setIfInBounds i true).getD j false=false→j∈u.erase i:=by
    intro j hj hq
    have hne:j≠i:=by
     intro e
     subst e
     rw[show(S.setIfInBounds j true).getD j false=true by simp[xr,hI.size,hj]] at hq
     cases hq
    rw[getD_set_ne false (fun e=>hne e.symm)] at hq
    exact(Ps hne).2 (hu j hj hq)
   have Qs:(u.erase i).length=fuel:=by rw[Lk LG,Un];rfl
   have hI':=hI.step hO ho' hv Qr
   have hfA:fits eH o.dst=true:=by
    have:fits eH o.dst=fits iP o.dst:=by unfold fits;rw[hI.nt,FE.2.1]
    rw[this];exact hf
   dsimp only
   rw[linearise_go_acc,H2,H3]
   have FF:=uB xh
   obtain⟨w1,w2,w3⟩:=oU hs (ops:=ops) (o:=o)
   rcases hk with⟨hw,hop⟩ | ⟨hw,rfl⟩
   · have iQ:yb o (yielded ops a.tmps)=true:=by
      rcases hw with hw | ⟨d,b',want,hw,hb⟩
      · exact w1 (FF.trans hw)
      · rw[(w3 d b' want (FF.trans hw)).1];exact hb
     have acd:ug P (fun i=>eH.mem.getD i .dead) wr aZ (ev E eH.tm) o=some (v,[],true):=by
      rw[hI.mem,Ar (hQ i o ho') (DG xh)];exact hop
     obtain⟨cv,w',g',k1,k2,k3,k4,k5⟩:=oS hs.rel (gw hs) (fun _=>rfl) (fun _=>by rw[hI.mem];exact hn) acd
     have hs':=hs.put hfA k2 k4 k3 hs.fix
     obtain⟨g2,a2,w2',r1,r2,r3,r4,r5,r6⟩:=ih (t / (yn .any ops S).length) _ _ _ _ _ _ hI' hs' Qs PX
     refine⟨g2,a2,w2',fun cs=> .head (rB ho iQ k1) (r1 cs),r2.trans put_defers,r3,?_,(bJ.rz k4 _).trans r5,fun i c q=>r6 i c (k4.bP i c q).1⟩
     have k5':dm g gH.mem w g' gH.mem w':=by rw[←hI.mem];exact k5
     exact k5'.trans r4
   · have iQ:yb o (yielded ops a.tmps)=false:=by
      rcases hw with hw | ⟨d,b',want,hw,hb⟩
      · exact w2 (FF.trans hw)
      · rw[(w3 d b' want (FF.trans hw)).1];exact hb
     have hs':=hs.put (v:= .au []) (cv:=undef) hfA (VA.lF.2 trivial) (Ext.refl g w) hs.rel hs.fix
     obtain⟨g2,a2,w2',r1,r2,r3,r4,r5,r6⟩:=ih (t / (yn .any ops S).length) _ _ _ _ _ _ hI' hs' Qs PX
     refine⟨g2,a2,w2',fun cs=> .head ?_ (r1 cs),r2.trans put_defers,r3,r4,r5,r6⟩
     have hst:=stepR_op_skip (P:=P) (b:=b) (a:=a) (k:=k) (cs:=cs) (w:=w) (ops:=ops) (i:=i) (rest:=abB .any ops fuel (t / (yn .any ops S).length) (S.setIfInBounds i true) []) (by simp[ho,iQ])
     simpa only[ho,vd] using hst
theorem cu.drew {g:Gh} {w:World} {st:St} {a:Act} (h:cu E g st a w) (n:Nat):cu E g st a {w with drawn:=n}:=by
 have he:Ext g w g {w with drawn:=n}:=⟨fun _ _ e=>⟨e,rfl,rfl⟩,fun _ _ e=>⟨e,rfl⟩⟩
 refine⟨fun k=>(h.tm k).mono he,h.nt,(h.rel.jX (w':={w with drawn:=n}) rfl rfl rfl rfl).1,h.fix,h.dg.mono he.pure⟩
theorem Qt {g:Gh} {w:World} {b:Frame} {a:Act} {k:List Item} {ops:Array Oper} {f bV:Nat} {st st':St} (hs:cu E g st a w) (h:wk P E f bV ops st=some (st',true)) :
  ∃g' a' w',(∀cs,Steps P (lone (b.atR a (.code (.region bV ops true)::k)) cs w) (lone (b.atR a' k) cs w'))∧a'.defers=a.defers∧cu E g' st' a' w' ∧
   dm g st.mem w g' st'.mem w'∧bJ g g' st.fix∧st'.fix=st.fix ∧ ∀i c,g.bP i=some c→g'.bP i=some c:=by
 unfold wk at h
 dsimp only at h
 split at h
 · rename_i Qp ok hq
   cases LH:(ops.toList.all gF&&K5 E f ops) with
   |false=>rw[LH] at hq;cases hq
   |true=>
   rw[LH] at hq
   simp only[cond_true] at hq
   have hall:ops.toList.all gF=true:=(c8 _ _▸LH).1
   simp only[c9,iu,c8] at h
   obtain⟨rfl,rfl,LI,Uo⟩:=h
   obtain⟨vs,hrun⟩:=oa hq
   obtain⟨hO,hQ⟩:=vf.of LI
   obtain⟨HB,Yo⟩:=hs.rel.reserve
   have hs1:cu E g {st with mem:=st.mem++[.free]} a w:=⟨hs.tm,hs.nt,HB,by simp;have:=hs.fix;omega,hs.dg⟩
   have hgd : ∀j,(zt ops.size false).getD j false=false:=by
    intro j
    rw[xr,Hc]
    split<;>rfl
   have hI:nj ops (masks [] ops.toList) vs {st with mem:=st.mem++[.free]} {st with mem:=st.mem++[.free]} (zt ops.size false):=
    ⟨by simp,rfl,rfl,rfl,fun j _ _ _ hj=>(by rw[hgd] at hj;cases hj),fun _ _=>rfl,fun i _ hi=>(by rw[hgd] at hi;cases hi)⟩
   have Ym:=hs1.drew (w.drawn+1)
   obtain⟨g',a',w',r1,r2,r3,r4,r5,r6⟩:=Jo (P:=P) (E:=E) (b:=b) (k:=k) hO hQ (by simp) hrun ops.size (w.tape w.drawn (.order b.fn bV)) _ _ a g _ (ei ops.size) hI Ym (by simp) (fun i hi _=>QQ.2 hi)
   have hend:=(hrun.spec hO.uniq).2.1
   refine⟨g',a',w',fun cs=> ?_,r2,r3,?_,r5,hend.2.2.1,r6⟩
   · refine .head stepR_region_draw ?_
     have LJ:yo (P.follows .mixedOrders) ops (w.tape w.drawn (.order b.fn bV))=abB .any ops ops.size (w.tape w.drawn (.order b.fn bV)) (zt ops.size false) []:=by
      simp only[yo,Uo,if_true,yv]
     rw[LJ]
     exact(r1 cs).trans (.one stepR_region_end)
   · rw[hend.1]
     have hst:dm g (st.mem++[.free]) w g (st.mem++[.free]) {w with drawn:=w.drawn+1}:=⟨bx _,fun _ _ _=>rfl,fun _ _ h=>⟨h,rfl⟩,fun _ _ h=> .inl h,fun _ h=> .inl h,rfl,rfl,rfl⟩
     exact(Yo.trans hst).trans r4
 · cases h
end
end Go.Am
end
section
set_option linter.unusedSimpArgs false
namespace Go.Am
open Go.RowKit
section
variable {P:Program} {E:Env}
theorem pK {rd rd':Nat→aU} {a:AV} (h : ∀b∈refs a,rd b=rd' b) (n:Nat):l9 rd a n=l9 rd' a n:=by
 cases a with
 |mp b off=>simp only[l9,h b (by simp[refs])]
 |p v=>cases v<;>rfl
 |_=>rfl
theorem fK {rd rd':Nat→aU} {a:AV} (h : ∀b∈refs a,rd b=rd' b) (sz:Nat):contents rd sz a=contents rd' sz a:=by
 cases a with
 |ms b off len s c=>
  cases c with
  |none=>simp only[contents,h b (by simp[refs])]
  |some c=>simp only[contents,h b (by simp[refs])]
 |p v=>
  cases v with
  |sc v=>cases v<;>rfl
  |_=>rfl
 |_=>rfl
theorem vg {rd rd':Nat→aU} {a:AV} (h : ∀b∈refs a,rd b=rd' b) (sz:Nat):cJ rd sz a=cJ rd' sz a:=by
 have hc:=fK h sz
 unfold cJ
 rw[hc]
 cases contents rd' sz a with
 |some r=>rfl
 |none=>
  cases a with
  |ms b off len s c=>
   cases c with
   |none=>rfl
   |some c=>simp only[h b (by simp[refs])]
  |_=>rfl
theorem qj {rd rd':Nat→aU} {x n:AV} (h : ∀b∈refs x,rd b=rd' b) {ts:List TypeId}:eM P rd ts x n=eM P rd' ts x n:=by
 have hg:TZ rd x=TZ rd' x:=by
  cases x with
  |mp b off=>cases off with
   |zero=>simp only[TZ,h b (by simp[refs])]
   |succ _=>rfl
  |_=>rfl
 unfold eM
 simp only[hg]
theorem zK {rd rd':Nat→aU} {a:AV} (h : ∀b∈refs a,rd b=rd' b) {aZ:Nat} {ρ:Operand→AV} {o:Oper} {s d:TypeId}:convertOp P rd aZ ρ o s d a=convertOp P rd' aZ ρ o s d a:=by
 have hc:=fun sz=>fK (a:=a) h sz
 unfold convertOp
 split<;>first
  |rfl
  |(rename_i b off len sz cap hd;have hb:=h b (by simp[refs]);simp only[hb];done)
  |(rename_i b off hd;have hb:=h b (by simp[refs]);simp only[hb];done)
  |(rename_i u b hd;have hb:=h b (by simp[refs]);simp only[hb];done)
  |simp only[hc]
theorem append_congr {rd rd':Nat→aU} {s x:AV} (h : ∀b∈refs s++refs x,rd b=rd' b) {aZ:Nat} {ts:Array TypeId}:iS P rd aZ ts s x=iS P rd' aZ ts s x:=by
 have hc:=fun sz=>fK (a:=x) (fun b hb=>h b (Hk _ hb)) sz
 have ht : ∀tok len sz cs,s = .os tok len sz cs→oJ rd aZ tok=oJ rd' aZ tok:=by
  rintro tok len sz cs rfl
  cases tok with
  |none=>rfl
  |some t=>simp only[oJ,h t (by simp[refs])]
 unfold iS
 simp only[hc]
 repeat' first | rfl | split
 all_goals first
  |rfl
  |(rw[ht _ _ _ _ rfl])
  |simp_all
theorem xj {rd rd':Nat→aU} {s x:AV} (h : ∀b∈refs s++refs x,rd b=rd' b) {aZ:Nat} {ts:Array TypeId}:fG P rd aZ ts s x=fG P rd' aZ ts s x:=by
 have hc:=fun sz=>vg (a:=x) (fun b hb=>h b (Hk _ hb)) sz
 have hp : ∀sz,jQ rd sz x=jQ rd' sz x:=fun sz=>by unfold jQ;rw[fK (a:=x) (fun b hb=>h b (Hk _ hb)) sz]
 cases s with
 |ms b off len sz cap=>
  have hb:=h b (by simp[refs])
  unfold fG
  simp only[hc,hp]
  cases off with
  |zero=>cases cap<;>simp only[hb]
  |succ off=>rfl
 |os tok len sz cells=>
  cases tok with
  |none=>
   unfold fG
   simp only[hc,hp]
  |some t=>
   unfold fG
   simp only[hc]
 |_=>
  unfold fG
  simp only[hc]
theorem tq {rd rd':Nat→aU} {wr:Bool} {s x:AV} (h : ∀b∈refs s++refs x,rd b=rd' b) {aZ:Nat} {ts:Array TypeId} :
  (match TX s||wr with | true=>fG P rd aZ ts (nB s) x | false=>iS P rd aZ ts (nB s) x)=(match TX s||wr with | true=>fG P rd' aZ ts (nB s) x | false=>iS P rd' aZ ts (nB s) x):=by
 have hs : ∀b∈refs (nB s),b∈refs s:=by
  intro b hb
  unfold nB at hb
  split at hb
  · simp[refs] at hb
  · exact hb
 have h' : ∀b∈refs (nB s)++refs x,rd b=rd' b:=fun b hb=>h b ((na.1 hb).elim (fun q=>Hm _ (hs b q)) fun q=>Hk _ q)
 rw[xj h',append_congr h']
theorem FG {rd rd':Nat→aU} {d s:AV} (h : ∀b∈refs d++refs s,rd b=rd' b) {ts:Array TypeId}:sM P rd ts d s=sM P rd' ts d s:=by
 have hc:=fun sz=>fK (a:=s) (fun b hb=>h b (Hk _ hb)) sz
 have ht : ∀b off len sz cap,d = .ms b off len sz cap→rd b=rd' b:=by
  rintro b off len sz cap rfl
  exact h b (by simp[refs])
 unfold sM
 simp only[hc]
 repeat' first | rfl | split
 all_goals first
  |rfl
  |(rename_i h1 h2;rw[ht _ _ _ _ _ rfl] at h1;simp_all)
  |(rename_i h1;rw[ht _ _ _ _ _ rfl] at h1;simp_all)
  |simp_all
theorem Cc {rd rd':Nat→aU} {x:AV} (h : ∀b∈refs x,rd b=rd' b) {t:TypeId} {k:AV} {ok:Bool}:lE P rd t x k ok=lE P rd' t x k ok:=by
 have hm:mapOf rd x=mapOf rd' x:=by
  cases x with
  |vm b=>simp only[mapOf,h b (by simp[refs])]
  |p v=>
   cases v with
   |sc v=>
    cases v with
    |map r=>cases r<;>rfl
    |_=>rfl
   |_=>rfl
  |_=>rfl
 have hu:sN rd x=sN rd' x:=by
  cases x with
  |vm b=>simp only[sN,h b (by simp[refs])]
  |_=>rfl
 unfold lE vw
 simp only[hm,hu]
theorem vh {rd rd':Nat→aU} {x:AV} (h : ∀b∈refs x,rd b=rd' b) {t:TypeId} {k v:AV}:gN P rd t x k v=gN P rd' t x k v:=by
 cases x with
 |vm b=>
  have hb:=h b (by simp[refs])
  cases k with
  |p u=>
   cases u with
   |sc u=>simp only[gN,hb]
   |_=>rfl
  |agg l=>
   show iE P rd t (.vm b) (.agg l) v=iE P rd' t (.vm b) (.agg l) v
   unfold iE
   generalize Fg (AV.agg l)=kk
   generalize P.underlying t=tt
   cases kk with
   |none=>rfl
   |some key=>
    cases tt with
    |none=>rfl
    |some d=>cases d<;>first
     |rfl
     |simp only[hb]
  |_=>rfl
 |_=>cases k<;>rfl
theorem xk {rd rd':Nat→aU} {x:AV} (h : ∀b∈refs x,rd b=rd' b):pZ rd x=pZ rd' x:=by
 cases x with
 |vm b=>simp only[pZ,h b (by simp[refs])]
 |_=>rfl
theorem FH {rd rd':Nat→aU} {x:AV} (h : ∀b∈refs x,rd b=rd' b) {t:TypeId} {k:AV} {ok:Bool}:sO P rd t x k ok=sO P rd' t x k ok:=by
 unfold sO
 rw[xk h,Cc h]
theorem As {rd rd':Nat→aU} {x:AV} (h : ∀b∈refs x,rd b=rd' b) {t:TypeId} {k v:AV}:vZ P rd t x k v=vZ P rd' t x k v:=by
 unfold vZ
 rw[xk h,vh h]
theorem Qu {rd rd':Nat→aU} {wr:Bool} {aZ:Nat} {ρ ρ':Operand→AV} {o:Oper} (hq:Ac o=true) (h : ∀x∈o.op.operands,ρ x=ρ' x) (hrd : ∀b∈Jf ρ o,rd b=rd' b):ug P rd wr aZ ρ o=ug P rd' wr aZ ρ' o:=by
 have h1:ug P rd wr aZ ρ o=ug P rd' wr aZ ρ o:=by
  obtain⟨dst,op,type,pos,after,guard⟩:=o
  cases op<;>try rfl
  case load t a=>simp only[ug,kY,pK (a:=ρ a) hrd]
  case store t a v=>
   simp only[ug,qH]
   have hrd : ∀b∈refs (ρ a),rd b=rd' b:=hrd
   generalize ρ a=x at hrd ⊢
   cases x with
   |mp b off=>
    cases fN P t with
    |none=>rfl
    |some n=>simp only[hrd b (by simp[refs])]
   |_=>rfl
  case convert s d x=>exact zK hrd
  case lookup t x i ok=>exact congrArg jv (FH hrd)
  case mapUpdate t x k v=>exact As hrd
  case insert t x k v=>exact As hrd
  case next=>simp[Ac,gF] at hq
  case call c=>
   obtain⟨callee,args,tys⟩:=c
   cases callee with
   |value _=>rfl
   |invoke _ _=>rfl
   |builtin b=>cases b<;>first
    |rfl
    |(obtain⟨args⟩:=args;rcases args with _ | ⟨x,_ | ⟨y,r⟩⟩<;>rfl)
    |(obtain⟨args⟩:=args;rcases args with _ | ⟨x,_ | ⟨y,_ | ⟨z,r⟩⟩⟩<;>first | rfl | exact tq fun b hb=>hrd b (by simpa[Jf,iB] using hb) | exact FG fun b hb=>hrd b (by simpa[Jf,iB] using hb) | exact qj fun b hb=>hrd b (by simp[Jf,iB,hb]))
    |simp[Ac,gF] at hq
  case makeMap t r=>cases r<;>rfl
 rw[h1]
 cases hqq:gF o with
 |true=>exact Ar hqq h
 |false=>
  simp only[Ac,hqq,pj] at hq
  obtain⟨dst,op,type,pos,after,guard⟩:=o
  cases op<;>simp only[pb] at hq<;>simp only[abp] at h<;>simp only[ug]
  case box t v=>rw[h v (by simp)]
  case buildSlice t n ps=>
   have:ps.toList.map (fun q=>(q.1,ρ q.2))=ps.toList.map fun q=>(q.1,ρ' q.2):=
    Hn fun q hq=>by rw[h q.2 (by simp only[PH,eh];exact⟨q,hq,rfl⟩)]
   rw[this]
  case makeSlice t l c=>rw[h l (by simp),h c (by simp)]
  case store t a v=>rw[h a (by simp),h v (by simp)]
  case makeMap t r=>cases r<;>rfl
  case lookup t x i ok=>rw[h x (by simp),h i (by simp)]
  case mapUpdate t x k v=>rw[h x (by simp),h k (by simp),h v (by simp)]
  case insert t x k v=>rw[h x (by simp),h k (by simp),h v (by simp)]
  case call c=>
   obtain⟨callee,args,tys⟩:=c
   cases callee with
   |value _=>simp at hq
   |invoke _ _=>simp at hq
   |builtin b=>
    simp only[Call.operands] at h
    obtain⟨args⟩:=args
    cases b<;>simp only[pb] at hq
    all_goals
     rcases args with _ | ⟨x,_ | ⟨y,_ | ⟨z,r⟩⟩⟩<;>first | rfl | simp only[h x (by simp),h y (by simp)] | simp only[h x (by simp)]
theorem Cd {ρ ρ':Operand→AV} {o:Oper} (h : ∀x∈o.op.operands,ρ x=ρ' x):target ρ o=target ρ' o:=by
 obtain⟨dst,op,type,pos,after,guard⟩:=o
 cases op<;>try rfl
 case call c=>
  obtain⟨callee,args,tys⟩:=c
  cases callee with
  |value f=>
   simp only[abp,Call.operands] at h
   have h1:ρ f=ρ' f:=h f (by simp)
   have h2:args.toList.map ρ=args.toList.map ρ':=Hn fun x hx=>h x (by simp_all)
   simp only[target,h1,h2]
  |_=>rfl
theorem iJ : ∀(us:nv) (m:Mem) (b:Nat),b∉us.map (·.1)→(apply m us)[b]? = m[b]?
 |[],_,_,_=>rfl
 |(i,x)::us,m,b,h=>by
  simp only[oT,mv,not_or] at h
  simp only[apply]
  rw[iJ us _ b h.2,List.getElem?_set_ne (fun e=>h.1 e.symm)]
theorem DH : ∀(us:nv) (m m':Mem) (b:Nat),m.length=m'.length→b∈us.map (·.1)→(apply m us)[b]? = (apply m' us)[b]?
 |(i,x)::us,m,m',b,hl,h=>by
  simp only[apply]
  by_cases hb:b∈us.map (·.1)
  · exact DH us _ _ b (by simp[hl]) hb
  · rw[iJ us _ b hb,iJ us _ b hb]
    simp only[oT,mv] at h
    have:b=i:=h.resolve_right hb
    subst this
    simp only[List.getElem?_set,hl,if_true]
abbrev gO.w (d:gO):List Nat:=d.us.map (·.1)
structure j8 (ds:List gO) (base:Mem) (S:Nat→Prop) (M:Mem):Prop where
 len:M.length=base.length
 out : ∀b,(∀j d,S j→ds[j]? = some d→b∉d.w)→M[b]? = base[b]?
 last : ∀j d b,S j→ds[j]? = some d→b∈d.w→(∀k e,S k→j<k→ds[k]? = some e→b∉e.w)→M[b]? = (apply base d.us)[b]?
theorem j8.nil {ds:List gO} {base:Mem} {S:Nat→Prop} (h : ∀j,¬S j):j8 ds base S base:=⟨rfl,fun _ _=>rfl,fun j _ _ hj=>absurd hj (h j)⟩
theorem j8.step {ds:List gO} {base M:Mem} {S S':Nat→Prop} {i:Nat} {d:gO} (h:j8 ds base S M) (hd:ds[i]? = some d) (hS : ∀j,S' j↔S j∨j=i) (hi : ¬S i)
  (acf : ∀j e,S j→i<j→ds[j]? = some e → ∀b∈d.w,b∉e.w):j8 ds base S' (apply M d.us):=by
 refine⟨by rw[eB];exact h.len,fun b hb=> ?_,fun j e b hj he zf hl=> ?_⟩
 · rw[iJ _ _ _ (hb i d ((hS i).2 (.inr rfl)) hd)]
   exact h.out b fun j e hj he=>hb j e ((hS j).2 (.inl hj)) he
 · rcases(hS j).1 hj with hj' | rfl
   · have hbd:b∉d.w:=by
      intro q
      rcases QR j i with hlt | heq | hgt
      · exact hl i d ((hS i).2 (.inr rfl)) hlt hd q
      · subst heq;exact hi hj'
      · exact acf j e hj' hgt he b q zf
     rw[iJ _ _ _ hbd]
     exact h.last j e b hj' he zf fun k x hk PZ hx=>hl k x ((hS k).2 (.inl hk)) PZ hx
   · rw[hd] at he;cases he
     exact DH _ _ _ _ h.len zf
theorem HC {p:Nat→Prop} {n:Nat} (hb : ∀k,p k→k<n) : ∀(r j:Nat),n-j=r→p j → ∃j,p j ∧ ∀k,p k → ¬j<k:=by
 intro r
 induction r using aaI with
 |ind r ih=>
  intro j hr hj
  by_cases h : ∃k,p k∧j<k
  · obtain⟨k,hk,PZ⟩:=h
    have:=hb k hk
    exact ih (n-k) (by omega) k rfl hk
  · exact⟨j,hj,fun k hk PZ=>h ⟨k,hk,PZ⟩⟩
theorem j8.agree {ds:List gO} {base M M':Mem} {S T:Nat→Prop} (h:j8 ds base S M) (h':j8 ds base T M') {b:Nat} (hST : ∀j d,ds[j]? = some d→b∈d.w→(S j↔T j)):M[b]? = M'[b]? :=by
 by_cases hw : ∃j d,S j∧ds[j]? = some d∧b∈d.w
 · obtain⟨j0,d0,q1,q2,q3⟩:=hw
   obtain⟨j,⟨hj,d,hd,hbd⟩,hl⟩:=HC (p:=fun j=>S j ∧ ∃d,ds[j]? = some d∧b∈d.w) (n:=ds.length) (fun k ⟨_,d,hd,_⟩=>(dp.1 hd).1) _ j0 rfl ⟨q1,d0,q2,q3⟩
   rw[h.last j d b hj hd hbd fun k e hk PZ he zf=>hl k ⟨hk,e,he,zf⟩ PZ,
    h'.last j d b ((hST j d hd hbd).1 hj) hd hbd fun k e hk PZ he zf=>hl k ⟨(hST k e he zf).2 hk,e,he,zf⟩ PZ]
 · rw[h.out b fun j d hj hd hbd=>hw ⟨j,d,hj,hd,hbd⟩,h'.out b fun j d hj hd hbd=>hw ⟨j,d,(hST j d hd hbd).2 hj,hd,hbd⟩]
def mZ (m:Mem):List gO→Mem
 |[]=>m
 |d::r=>mZ (apply m d.us) r
theorem rD (m:Mem) : ∀(ds es:List gO),mZ m (ds++es)=mZ (mZ m ds) es
 |[],_=>rfl
 |d::ds,es=>rD (apply m d.us) ds es
theorem xl (ds:List gO) (base:Mem) : ∀i,i≤ds.length→j8 ds base (· < i) (mZ base (ds.take i))
 |0,_=>j8.nil fun _ h=>absurd h (vz _)
 |i+1,h=>by
  have hi:i<ds.length:=h
  rw[List.take_succ_eq_append_getElem hi,rD]
  exact(xl ds base i (by omega)).step (d:=ds[i]) (cb hi) (fun j=>by omega) (by omega) fun j e hj hij=>absurd hj (by omega)
def lO (nx:Nat) (m:Mem):Prop:= ∀i,nx≤i→i<m.length→m[i]? = some .free
def LDo (P:Program) (E:Env) (wr:Oper→Bool) (st:St) (nx:Nat) (o:Oper) (d:gO) (jV:Nat):Prop:=
 (∃g args v m1,target (ev E st.tm) o=some (g,args)∧an P E g (eW (idx (close st.mem 0 args)) args) (pack st.mem (close st.mem 0 args)) v m1∧(close st.mem 0 args).length≤m1.length ∧
   (∀i∈close st.mem 0 args,i<nx)∧jV=nx+(m1.length-(close st.mem 0 args).length)∧jV≤st.mem.length∧d=oL st.mem.length nx (close st.mem 0 args) v m1) ∨
 (target (ev E st.tm) o=none∧Ac o=true∧ug P (fun i=>st.mem.getD i .dead) (wr o) nx (ev E st.tm) o=some (d.v,d.us,true)∧d.fp=d.w++(Jf (ev E st.tm) o++cond (makes o) [nx] []) ∧
   (∀b∈d.w,b<jV)∧jV=cond (makes o) (nx+1) nx∧jV≤st.mem.length∧d.ld=T1 P (ev E st.tm) o d.v)
def DI (P:Program) (E:Env) (wr:Oper→Bool) (ops:Array Oper) (st:St) (nx:Nat) (o:Oper) (d:gO) (jV:Nat):Prop:=
 ((ep ops st.tm o = .yes ∨ ∃s b want,ep ops st.tm o = .ask s b want∧(b==want)=true)∧LDo P E wr st nx o d jV) ∨
 ((ep ops st.tm o = .no ∨ ∃s b want,ep ops st.tm o = .ask s b want∧(b==want)=false)∧d=⟨.au [],[],[],fun _ _=>false⟩∧jV=nx)
inductive zL (P:Program) (E:Env) (wr:Oper→Bool) (ops:Array Oper):List Oper→St→Nat→List gO→St→Nat→Prop
 |nil (st:St) (nx:Nat):zL P E wr ops [] st nx [] st nx
 |cons (o:Oper) (r:List Oper) (st:St) (nx:Nat) (d:gO) (jV:Nat) (ds:List gO) (st':St) (pG:Nat) (hf:fits st o.dst=true) (h:DI P E wr ops st nx o d jV)
   (hr:zL P E wr ops r (put {st with mem:=apply st.mem d.us} o.dst d.v) jV ds st' pG):zL P E wr ops (o::r) st nx (d::ds) st' pG
theorem FI {t:Option AV} {r:Option (gO×Nat×Bool)} {d:gO} {nx:Nat} (h:Hj t r=some (d,nx,true)):r=some (d,nx,true):=by
 unfold Hj at h
 split at h
 · exact h
 · split at h
   · rename_i v d0 n0 ok
     simp only[c9,iu,c8] at h
     obtain⟨rfl,rfl,h1,h2⟩:=h
     have e:=kO h2
     subst h1
     obtain⟨v0,us,fp,ld⟩:=d0
     simp only at e
     subst e
     rfl
   · cases h
theorem Jp {f bV:Nat} {O:FuncId→List AV→Mem→Option (AV×Mem)} (hO : ∀g args m v m1,O g args m=some (v,m1)→an P E g args m v m1) {nx jV:Nat} {o:Oper} {st:St} {d:gO}
  (h:jj P E f bV O nx o st=some (d,jV,true)):LDo P E (fun o=>E.wr f (o.dst.getD 0)) st nx o d jV:=by
 have h:=FI h
 unfold oM at h
 split at h
 · rename_i g args ht
   dsimp only at h
   split at h
   · rename_i v m1 ho
     simp only[c9,iu,c8] at h
     obtain⟨rfl,rfl,h1,h2,h3⟩:=h
     exact .inl ⟨g,args,v,m1,ht,hO _ _ _ _ _ ho,en h1,fQ h2,rfl,en h3,rfl⟩
   · cases h
 · rename_i ht
   split at h
   · rename_i v us ok hop
     simp only[c9,iu,c8] at h
     obtain⟨rfl,rfl,rfl,h1,h2,h3⟩:=h
     exact .inr ⟨ht,h1,hop,rfl,fQ h2,rfl,en h3,rfl⟩
   · cases h
theorem tv {f bV:Nat} {O:FuncId→List AV→Mem→Option (AV×Mem)} (hO : ∀g args m v m1,O g args m=some (v,m1)→an P E g args m v m1) {ops:Array Oper} : ∀{l:List Oper} {nx pG:Nat} {st st':St} {ds:List gO},
  iC P E f bV O ops l nx st=some (st',pG,ds,true)→zL P E (fun o=>E.wr f (o.dst.getD 0)) ops l st nx ds st' pG
 |[],nx,pG,st,st',ds,h=>by
  simp only[iC,c9,iu,and_true] at h
  obtain⟨rfl,rfl,rfl⟩:=h
  exact .nil st nx
 |o::r,nx,pG,st,st',ds,h=>by
  have skip:(match iC P E f bV O ops r nx (put st o.dst (.au [])) with
   |some (st',pG,ds,ok)=>some (st',pG,(⟨.au [],[],[],fun _ _=>false⟩:gO)::ds,fits st o.dst&&ok)
   |none=>none)=some (st',pG,ds,true)→(ep ops st.tm o = .no ∨ ∃s b want,ep ops st.tm o = .ask s b want∧(b==want)=false)→zL P E (fun o=>E.wr f (o.dst.getD 0)) ops (o::r) st nx ds st' pG:=by
   intro h hw
   split at h
   · rename_i Qp jV ds1 ok hq
     simp only[c9,iu,c8] at h
     obtain⟨rfl,rfl,rfl,h1,rfl⟩:=h
     exact .cons o r st nx _ nx _ _ _ h1 (.inr ⟨hw,rfl,rfl⟩) (tv hO hq)
   · cases h
  have qN:(match jj P E f bV O nx o st with
   |some (d,jV,ok)=>match iC P E f bV O ops r jV (put {st with mem:=apply st.mem d.us} o.dst d.v) with
    |some (st',pG,ds,ok')=>some (st',pG,d::ds,ok&&(fits st o.dst&&ok'))
    |none=>none
   |none=>none)=some (st',pG,ds,true)→(ep ops st.tm o = .yes ∨ ∃s b want,ep ops st.tm o = .ask s b want∧(b==want)=true)→zL P E (fun o=>E.wr f (o.dst.getD 0)) ops (o::r) st nx ds st' pG:=by
   intro h hw
   split at h
   · rename_i d jV ok hop
     split at h
     · rename_i Qp nx2 ds1 ok' hq
       simp only[c9,iu,c8] at h
       obtain⟨rfl,rfl,rfl,rfl,h1,rfl⟩:=h
       exact .cons o r st nx d jV _ _ _ h1 (.inl ⟨hw,Jp hO hop⟩) (tv hO hq)
     · cases h
   · cases h
  unfold iC at h
  dsimp only at h
  cases hw:ep ops st.tm o with
  |yes=>rw[hw] at h;exact qN h (.inl hw)
  |no=>rw[hw] at h;exact skip h (.inl hw)
  |lost=>rw[hw] at h;cases h
  |ask s b want=>
   rw[hw] at h
   dsimp only at h
   cases hb:b==want with
   |true=>rw[hb] at h;exact qN h (.inr ⟨s,b,want,hw,hb⟩)
   |false=>rw[hb] at h;exact skip h (.inr ⟨s,b,want,hw,hb⟩)
theorem At {N nx:Nat} {ord:List Nat} {v:AV} {m1:Mem} {b:Nat} (h:b∈(oL N nx ord v m1).w):b∈(oL N nx ord v m1).fp:=by
 simp only[oL,gO.w,eh] at h ⊢
 obtain⟨q,hq,rfl⟩:=h
 exact(List.of_mem_zip hq).1
theorem LDo.facts {wr:Oper→Bool} {st:St} {nx jV:Nat} {o:Oper} {d:gO} (h:LDo P E wr st nx o d jV):nx≤jV∧jV≤st.mem.length∧(∀b∈d.w,b<jV) ∧ ∀b∈d.w,b∈d.fp:=by
 rcases h with⟨g,args,v,m1,_,_,h1,h2,rfl,h3,rfl⟩ | ⟨_,_,_,h1,h2,rfl,h3,_⟩
 · refine⟨by omega,h3,fun b hb=> ?_,fun b hb=>At hb⟩
   have:=At hb
   simp only[oL,na,H5] at this
   rcases this with q | q
   · have:=h2 b q;omega
   · omega
 · refine⟨by cases makes o<;>simp,h3,h2,fun b hb=> ?_⟩
   rw[h1]
   exact Hm _ hb
theorem DI.facts {wr:Oper→Bool} {ops:Array Oper} {st:St} {nx jV:Nat} {o:Oper} {d:gO} (h:DI P E wr ops st nx o d jV) (hn:nx≤st.mem.length):nx≤jV∧jV≤st.mem.length∧(∀b∈d.w,b<jV) ∧ ∀b∈d.w,b∈d.fp:=by
 rcases h with⟨_,h⟩ | ⟨_,rfl,rfl⟩
 · exact h.facts
 · exact⟨bx _,hn,by simp,by simp⟩
theorem dJ.xm {l:List Oper} {vs:List AV} {S S' T T':St} {i:Nat} (h:dJ l vs S i T) (h1:S'.tm=S.tm) (h2:S'.nt=S.nt) (h3:S'.fix=S.fix) (h4:T'.tm=T.tm) (h5:T'.nt=T.nt) (h6:T'.fix=T.fix) (h7:T'.mem=S'.mem):dJ l vs S' i T':=by
 obtain⟨_,q2,q3,q4,q5⟩:=h
 refine⟨h7,by rw[h5,h2];exact q2,by rw[h6,h3];exact q3,?_,?_⟩
 · intro j p v t a b c d;rw[h4];exact q4 j p v t a b c d
 · intro t ht;rw[h4,h1];exact q5 t ht
theorem uC (st:St) (m:Mem) (dst:Option Tmp) (v:AV):put {st with mem:=m} dst v={put st dst v with mem:=m}:=by cases dst<;>rfl
theorem zL.spec {wr:Oper→Bool} {ops:Array Oper} {l:List Oper} {st st':St} {nx pG:Nat} {ds:List gO} (h:zL P E wr ops l st nx ds st' pG) (hu:DE l) (hn:nx≤st.mem.length) (hfr:lO nx st.mem) :
  ds.length=l.length∧dJ l (ds.map (·.v)) st l.length {st' with mem:=st.mem}∧st'.mem=mZ st.mem ds∧st'.cA=st.cA ∧
    ∀(i:Nat) (o:Oper),l[i]? = some o → ∃d iP xp DJ,ds[i]? = some d∧DI P E wr ops iP xp o d DJ∧fits iP o.dst=true∧dJ l (ds.map (·.v)) st i {iP with mem:=st.mem}∧iP.mem=mZ st.mem (ds.take i)∧lO xp iP.mem∧xp≤iP.mem.length:=by
 induction h with
 |nil st nx=>exact⟨rfl,⟨rfl,rfl,rfl,fun j _ _ _ hj=>absurd hj (vz _),fun _ _=>rfl⟩,rfl,rfl,fun i o ho=>by simp at ho⟩
 |cons o r st nx d jV ds st' pG hf hk hr ih=>
  have PX:DE r:=fun i j p q t hij hp hq=>hu (i+1) (j+1) p q t (by omega) (by simpa using hp) (by simpa using hq)
  obtain⟨f1,f2,f3,f4⟩:=hk.facts hn
  have hm:(put {st with mem:=apply st.mem d.us} o.dst d.v).mem=apply st.mem d.us:=by rw[uC]
  have ach:lO jV (apply st.mem d.us):=by
   intro i hi hl
   rw[eB] at hl
   rw[iJ _ _ _ fun q=>by have:=f3 i q;omega]
   exact hfr i (by omega) hl
  obtain⟨h1,h2,h3,h5,h4⟩:=ih PX (by rw[hm,eB];exact f2) (by rw[hm];exact ach)
  have shift : ∀{i:Nat} {T:St},dJ r (ds.map (·.v)) (put {st with mem:=apply st.mem d.us} o.dst d.v) i {T with mem:=(put {st with mem:=apply st.mem d.us} o.dst d.v).mem} →
    dJ (o::r) ((d::ds).map (·.v)) st (i+1) {T with mem:=st.mem}:=by
   intro i T hs
   refine dJ.cons (vs:=ds.map (·.v)) (v:=d.v) hu (hs.xm (S':=put st o.dst d.v) (T':={T with mem:=st.mem}) ?_ ?_ ?_ rfl rfl rfl ?_)
   · cases o.dst<;>rfl
   · cases o.dst<;>rfl
   · cases o.dst<;>rfl
   · exact(Ca st o.dst d.v).1.symm
  refine⟨by simp[h1],shift h2,by rw[h3,hm];rfl,h5.trans (by cases o.dst<;>rfl),?_⟩
  intro i p hp
  cases i with
  |zero=>
   simp only[mf,c9] at hp
   subst hp
   exact⟨d,st,nx,jV,rfl,hk,hf,⟨rfl,rfl,rfl,fun j _ _ _ hj=>absurd hj (vz _),fun _ _=>rfl⟩,rfl,hfr,hn⟩
  |succ i=>
   obtain⟨e,iP,xp,DJ,q1,q2,q3,q4,q5,q6,q7⟩:=h4 i p (by simpa using hp)
   refine⟨e,iP,xp,DJ,by simpa using q1,q2,q3,shift q4,?_,q6,q7⟩
   rw[q5,hm];rfl
def Qv (d e:gO):Prop:=e.us=[] ∧ ∀b∈d.w,b∈e.fp → ∃x,wm d.us b=some x∧e.ld b x=true
theorem xq : ∀{l:List Nat} {i:Nat},i∈l→has l i=true
 |j::r,i,h=>by
  simp only[has]
  cases hb:ae j i with
  |true=>rfl
  |false=>
   rcases mv.1 h with e | h
   · subst e;rw[vt] at hb;cases hb
   · exact xq h
theorem FJ {d e:gO} (h:BL d e=true):Qv d e:=by
 simp only[BL,c8,PQ] at h
 refine⟨?_,fun b hb hf=> ?_⟩
 · have h1:=h.1
   cases hu:e.us with
   |nil=>rfl
   |cons _ _=>rw[hu] at h1;cases h1
 · have:=h.2 b hb
   rw[xq hf,yi,pj] at this
   split at this
   · rename_i x hx
     exact⟨x,hx,this⟩
   · cases this
theorem xu : ∀{us:nv} {b:Nat},wm us b=none→b∉us.map (·.1)
 |[],_,_=>by simp
 |(i,x)::r,b,h=>by
  simp only[wm] at h
  split at h
  · cases h
  · rename_i hr
    cases hb:ae i b with
    |true=>rw[hb] at h;cases h
    |false=>
     simp only[oT,mv,not_or]
     exact⟨fun e=>(by subst e;rw[vt] at hb;cases hb),xu hr⟩
theorem xw : ∀{us:nv} {m:Mem} {b:Nat} {x:aU},wm us b=some x→b<m.length→(apply m us)[b]? = some x
 |(i,y)::r,m,b,x,h,hb=>by
  simp only[wm] at h
  simp only[apply]
  split at h
  · rename_i z hz
    simp only[c9] at h
    subst h
    exact xw hz (by simpa using hb)
  · rename_i hr
    cases hib:ae i b with
    |false=>rw[hib] at h;cases h
    |true=>
     rw[hib] at h
     simp only[cond_true,c9] at h
     subst h
     have:=ai hib
     subst this
     rw[iJ r _ _ (xu hr),List.getElem?_set_self hb]
structure YL (L:List Nat) (ds:List gO):Prop where
 pair : ∀(i j:Nat) (d e:gO),j<i→ds[i]? = some d→ds[j]? = some e→bj (L.getD i 0) j=true∨((∀b∈e.w,b∉d.fp)∧((∀b∈d.w,b∉e.fp)∨Qv d e))
theorem tw {a b:List Nat} (h:meet a b=false) : ∀i∈a,i∉b:=fun _ ha hb=>mG h ha hb
theorem uD {L:List Nat} : ∀{r ni:List gO},wo L ni.length ni r=true → ∀(i j:Nat) (d e:gO),ni.length≤i→j<i→(ni++r)[i]? = some d→(ni++r)[j]? = some e →
  bj (L.getD i 0) j=true∨((∀b∈e.w,b∉d.fp)∧((∀b∈d.w,b∉e.fp)∨Qv d e))
 |[],ni,_,i,j,d,e,hi,_,hd,_=>by
  simp only[Pl] at hd
  rw[dt hi] at hd;cases hd
 |d0::r,ni,h,i,j,d,e,hi,hj,hd,he=>by
  simp only[wo,c8] at h
  by_cases hc:i=ni.length
  · subst hc
    have:d=d0:=by simpa using hd.symm
    subst this
    have key : ∀(l:List gO) (k:Nat),qP L ni.length d k l=true → ∀m x,l[m]? = some x→BM L ni.length d (k+m) x=true:=by
     intro l
     induction l with
     |nil=>intro k _ m x hx;simp at hx
     |cons y l ih=>
      intro k hk m x hx
      simp only[qP,c8] at hk
      cases m with
      |zero=>simp only[mf,c9] at hx;subst hx;exact hk.1
      |succ m=>
       simp only[mi] at hx
       have:=ih (k+1) hk.2 m x hx
       rwa [fi,aaT 1 m] at this
    have he':ni[j]? = some e:=by rwa [od hj] at he
    have:=key ni 0 h.1 j e he'
    simp only[BM,Nat.zero_add,il,c8,im] at this
    rcases this with q | ⟨q1,q2 | q2⟩
    · exact .inl q
    · exact .inr ⟨tw q1,.inl (tw q2)⟩
    · exact .inr ⟨tw q1,.inr (FJ q2)⟩
  · have h':wo L (ni++[d0]).length (ni++[d0]) r=true:=by simpa using h.2
    exact uD h' i j d e (by simp;omega) hj (by simpa using hd) (by simpa using he)
theorem uE {m m':Mem} : ∀(f:Nat) (ord:List Nat) (k:Nat),ord.Nodup→(∀i∈reach m f ord k,m.getD i .dead=m'.getD i .dead)→reach m' f ord k=reach m f ord k
 |0,_,_,_,_=>rfl
 |f+1,ord,k,hnd,h=>by
  simp only[reach] at h ⊢
  cases hk:ord[k]? with
  |none=>rfl
  |some i=>
   simp only[hk] at h
   dsimp only
   have Fz:=(dU (z8 (m.getD i .dead)) ord hnd).1
   obtain⟨t1,h1⟩:=(dU (z8 (m.getD i .dead)) ord hnd).2
   obtain⟨t2,h2⟩:=(mE m f _ (k+1) Fz).2
   have hi:m.getD i .dead=m'.getD i .dead:=h i (by rw[h2,h1];exact Hm _ (Hm _ (mb hk)))
   rw[←hi]
   exact uE f _ (k+1) Fz h
theorem DK {m m':Mem} {args:List AV} (hl:m.length=m'.length) (h : ∀i∈close m 0 args,m.getD i .dead=m'.getD i .dead):close m' 0 args=close m 0 args:=by
 unfold close at h ⊢
 rw[←hl]
 exact uE _ _ _ (dU _ _ (j7 0)).1 h
theorem FK {m m':Mem} {ord:List Nat} (h : ∀i∈ord,m.getD i .dead=m'.getD i .dead):pack m' ord=pack m ord:=by
 unfold pack
 exact Hn fun i hi=>by rw[h i hi]
theorem pM (ρ:Nat→Option Nat) : ∀(ord:List Nat) (m1 m:Mem),ord.length=m1.length→dh ρ ord m1 m=apply m (ord.zip (m1.map (gJ ρ)))
 |[],[],m,_=>by simp[dh,apply]
 |i::ord,b::m1,m,h=>by
  simp only[dh,oT,List.zip_cons_cons,apply]
  exact pM ρ ord m1 _ (by simpa using h)
 |[],_::_,_,h=>by simp at h
 |_::_,[],_,h=>by simp at h
theorem Rel.Up {g g1:Gh} {m m1:Mem} {w w':World} (h:Rel g m w) {ord R:List Nat} (hnd:(ord++R).Nodup) (hlt : ∀i∈ord++R,i<m.length) (hR : ∀i∈R,m[i]? = some .free)
  (h1:Rel g1 m1 w') (hs:dm (g.pack ord) (Am.pack m ord) w g1 m1 w') (hf:bJ (g.pack ord) g1 ord.length) (hl:(ord++R).length=m1.length) :
  ∃g',Rel g' (apply m ((ord++R).zip (m1.map (gJ (bg (ord++R) m.length))))) w'∧Ext g w g' w'∧dm g m w g' (apply m ((ord++R).zip (m1.map (gJ (bg (ord++R) m.length))))) w'∧dy (bg (ord++R) m.length) g1 g':=by
 have own : ∀c,gp (g.pack ord) (Am.pack m ord) c→gp (g.pack (ord++R)) (Am.pack m (ord++R)) c:=by
  rintro c ⟨k,b,hk,ho,hc⟩
  obtain⟨i,hi,rfl⟩:=j6 hk
  have hi':(ord++R)[k]? = some i:=by rw[od (bq hi)];exact hi
  refine⟨k,gJ (idx (ord++R)) (m.getD i .dead),?_,by rw[lM] at ho ⊢;exact ho,?_⟩
  · simp only[Am.pack,dT,hi',hZ]
  · simpa[Gh.pack,hi,hi'] using hc
 have hs':dm (g.pack (ord++R)) (Am.pack m (ord++R)) w g1 m1 w':=
  ⟨hs.size,fun c hc hn=>hs.keep c hc fun q=>hn (own c q),hs.pure,fun c o p=>(hs.fresh c o p).imp id fun q=>q.imp (own c) id,fun c ho=>(hs.owned c ho).imp (own c) id,hs.os,hs.tape,hs.output⟩
 have hf':bJ (g.pack (ord++R)) g1 (ord++R).length:=by
  intro k c hk hc
  rcases fg k ord.length with q | q
  · have e:(ord++R)[k]? = ord[k]? :=od q
    have:=hf k c q (by simpa[Gh.pack,e] using hc)
    simpa[Gh.pack,e] using this
  · have e:(ord++R)[k]? = R[k-ord.length]? :=H0 q
    simp only[Gh.pack,e] at hc
    cases hr:R[k-ord.length]? with
    |none=>rw[hr] at hc;cases hc
    |some i=>
     rw[hr] at hc
     simp only[vd] at hc
     rw[h.free i (hR i (mb hr))] at hc;cases hc
 obtain⟨r1,r2,r3,r4⟩:=h.back hnd hlt h1 hs' hf' (by omega)
 rw[pM _ _ _ _ hl] at r1 r3
 exact⟨_,r1,r2,r3,r4⟩
theorem xy {m m':Mem} {i:Nat} (h:m[i]? = m'[i]?):m.getD i .dead=m'.getD i .dead:=by
 rw[ch,ch,h]
end
end Go.Am
end
section
namespace Go.Am
open Go.RowKit
section
variable {P:Program} {E:Env}
theorem mH : ∀(ds:List gO) (m:Mem),(mZ m ds).length=m.length
 |[],_=>rfl
 |d::ds,m=>by rw[mZ,mH ds,eB]
structure TB (P:Program) (E:Env) (wr:Oper→Bool) (ops:Array Oper) (m:Nat) (gH:St) (ds:List gO) (st':St):Prop where
 len:ds.length=ops.toList.length
 ends:dJ ops.toList (ds.map (·.v)) gH m {st' with mem:=gH.mem}
 mem:st'.mem=mZ gH.mem (ds.take m)
 each : ∀(i:Nat) (o:Oper),ops.toList[i]? = some o→i<m → ∃d iP xp DJ,ds[i]? = some d∧DI P E wr ops iP xp o d DJ∧fits iP o.dst=true∧dJ ops.toList (ds.map (·.v)) gH i {iP with mem:=gH.mem}∧iP.mem=mZ gH.mem (ds.take i)∧lO xp iP.mem∧xp≤iP.mem.length
 dum : ∀(i:Nat) (e:gO),m≤i→ds[i]? = some e→e.us=[]
theorem nj.YM {ops:Array Oper} {L:List Nat} {vs:List AV} {gH eH:St} {S:Array Bool} (hI:nj ops L vs gH eH S) (hl:vs.length=ops.toList.length) {st':St} {m:Nat} (hst:dJ ops.toList vs gH m st') (hall : ∀i,i<m→S.getD i false=true) (hnot : ∀i,m≤i→S.getD i false=false) :
  eH.mem=st'.mem∧eH.nt=st'.nt∧eH.fix=st'.fix ∧ ∀t,look eH.tm t=look st'.tm t:=by
 obtain⟨h1,h2,h3,hA,hB⟩:=hst
 have lt : ∀j,S.getD j false=true→j<m:=fun j hj=>by
  rcases fg j m with q | q
  · exact q
  · rw[hnot j q] at hj;cases hj
 refine⟨hI.mem.trans h1.symm,hI.nt.trans h2.symm,hI.fix.trans h3.symm,fun t=> ?_⟩
 by_cases hw : ∃(j:Nat) (p:Oper),j<m∧ops.toList[j]? = some p∧p.dst=some t
 · obtain⟨j,p,hj,hp,hd⟩:=hw
   have hjl:=(dp.1 hp).1
   have Lf:vs[j]? = some vs[j]:=cb (by rw[hl];exact hjl)
   rw[hI.a j p _ t (hall j hj) hp Lf hd,hA j p _ t hj hp Lf hd]
 · rw[hI.b t fun k q hk hq hd=>hw ⟨k,q,lt k hk,hq,hd⟩,hB t fun k q hk hq hd=>hw ⟨k,q,hk,hq,hd⟩]
theorem Qw {ops:Array Oper} {S:Array Bool} (h : ∀i,i<ops.size→S.getD i false=true) (hs:S.size=ops.size) (fuel t:Nat):abB .any ops fuel t S []=[]:=by
 cases fuel with
 |zero=>rfl
 |succ fuel=>
  have hr:yn .any ops S=[]:=by
   cases hr:yn .any ops S with
   |nil=>rfl
   |cons x xs=>
    have hx:x∈yn .any ops S:=by rw[hr];exact .head _
    obtain⟨h1,o,ho,_⟩:=mem_ready.1 hx
    have hlt:=(Fs.1 ho).1
    have:=h x hlt
    rw[lN (by omega) false true,h1] at this
    cases this
  simp only[abB]
  show(match(yn .any ops S)[t%(yn .any ops S).length]? with
   |some i=>abB .any ops fuel (t / (yn .any ops S).length) (S.setIfInBounds i true) [i]
   |none=>[].reverse)=[]
  rw[hr]
  rfl
theorem Qx {b:Frame} {k:List Item} (cs:List Frame) {ops:Array Oper} {L:List Nat} {ds:List gO} {gH st':St} {m:Nat} {wr:Oper→Bool} (hO:vf ops L) (hL:YL L ds) (hrun:TB P E wr ops m gH ds st')
  (hm:m=ops.size∨(m+1=ops.size ∧ ∀j,j<m→bj (L.getD m 0) j=true)) : ∀(fuel t:Nat) (S:Array Bool) (eH:St) (a:Act) (g:Gh) (w:World) (u:List Nat),
    nj ops L (ds.map (·.v)) gH {eH with mem:=gH.mem} S→j8 ds gH.mem (fun j=>S.getD j false=true) eH.mem→cu E g eH a w→u.length=fuel→(∀i,i<ops.size→S.getD i false=false→i∈u)→(∀i,m≤i→S.getD i false=false) →
    ∃g' a' w',Steps P (lone (b.atR a (.inRegion ops (abB .any ops fuel t S [])::k)) cs w) (lone (b.atR a' (.inRegion ops (xi m (ops.size-m))::k)) cs w')∧a'.defers=a.defers∧cu E g' st' a' w' ∧
     dm g eH.mem w g' st'.mem w'∧bJ g g' gH.fix ∧ ∀i c,g.bP i=some c→g'.bP i=some c:=by
 obtain⟨hdl,hend,hmem,hspec,YN⟩:=hrun
 have hl:(ds.map (·.v)).length=ops.toList.length:=by simpa using hdl
 have af0:ds.length=ops.size:=by simpa using hdl
 have T7:m≤ops.size:=by omega
 have fin : ∀(S:Array Bool) (eH:St) (a:Act) (g:Gh) (w:World),nj ops L (ds.map (·.v)) gH {eH with mem:=gH.mem} S→j8 ds gH.mem (fun j=>S.getD j false=true) eH.mem→cu E g eH a w →
   (∀i,i<m→S.getD i false=true)→(∀i,m≤i→S.getD i false=false)→cu E g st' a w∧eH.mem=st'.mem:=by
  intro S eH a g w hI hM hs hall hnot
  obtain⟨_,e2,e3,e4⟩:=hI.YM hl hend hall hnot
  have hm:eH.mem=st'.mem:=by
   apply List.ext_getElem?
   intro i
   rw[hmem]
   have h2:=xl ds gH.mem m (by omega)
   refine hM.agree h2 fun j d hd _=> ?_
   refine⟨fun hS=> ?_,fun hj=>hall j hj⟩
   rcases fg j m with q | q
   · exact q
   · rw[hnot j q] at hS;cases hS
  exact⟨hs.same hm e2 e3 e4,hm⟩
 have full : ∀(S:Array Bool),(∀i,i<ops.size→S.getD i false=true)→(∀i,m≤i→S.getD i false=false)→m=ops.size:=by
  intro S h1 h2
  rcases hm with q | ⟨q,_⟩
  · exact q
  · have:=h1 m (by omega);rw[h2 m (bx _)] at this;cases this
 intro fuel
 induction fuel with
 |zero=>
  intro t S eH a g w u hI hM hs Un hu hnot
  have hall : ∀i,i<ops.size→S.getD i false=true:=by
   intro i hi
   cases hq:S.getD i false with
   |true=>rfl
   |false=>
    have:=hu i hi hq
    rw[If Un] at this;cases this
  have Uq:=full S hall hnot
  obtain⟨h1,h2⟩:=fin S eH a g w hI hM hs (fun i hi=>hall i (by omega)) hnot
  refine⟨g,a,w,?_,rfl,h1,by rw[h2];exact dm.refl _ _ _,bJ.refl _ _,fun _ _ h=>h⟩
  rw[Uq,aam,M2]
  exact abC _ _
 |succ fuel ih=>
  intro t S eH a g w u hI hM hs Un hu hnot
  simp only[abB]
  show ∃g' a' w',Steps P (lone (b.atR a (.inRegion ops (match(yn .any ops S)[t%(yn .any ops S).length]? with
   |some i=>abB .any ops fuel (t / (yn .any ops S).length) (S.setIfInBounds i true) [i]
   |none=>[].reverse)::k)) cs w) (lone (b.atR a' (.inRegion ops (xi m (ops.size-m))::k)) cs w')∧_
  cases hi:(yn .any ops S)[t%(yn .any ops S).length]? with
  |none=>
   have LF:yn .any ops S=[]:=by
    cases hr:yn .any ops S with
    |nil=>rfl
    |cons x xs=>
     rw[hr] at hi
     have hlt:t%(x::xs).length<(x::xs).length:=pB _ (by simp)
     rw[cb hlt] at hi;cases hi
   have hall:=hI.all hO LF
   have Uq:=full S hall hnot
   obtain⟨h1,h2⟩:=fin S eH a g w hI hM hs (fun i hi=>hall i (by omega)) hnot
   refine⟨g,a,w,?_,rfl,h1,by rw[h2];exact dm.refl _ _ _,bJ.refl _ _,fun _ _ h=>h⟩
   rw[Uq,aam,M2]
   exact abC _ _
  |some i=>
   have Qr:=mb hi
   obtain⟨hSi,o,ho,_⟩:=mem_ready.1 Qr
   have ho':ops.toList[i]? = some o:=by simpa using ho
   have hilt:i<ops.size:=(Fs.1 ho).1
   by_cases him:i<m
   case neg=>
    have hme:i=m∧m+1=ops.size ∧ ∀j,j<m→bj (L.getD m 0) j=true:=by
     rcases hm with q | ⟨q1,q2⟩
     · omega
     · exact⟨by omega,q1,q2⟩
    obtain⟨rfl,hsz,YO⟩:=hme
    have hall : ∀j,j<i→S.getD j false=true:=fun j hj=>hI.ahead hO Qr (YO j hj)
    obtain⟨h1,h2⟩:=fin S eH a g w hI hM hs hall hnot
    dsimp only
    rw[linearise_go_acc,H2,H3,Qw (fun j hj=>by
     by_cases e:i=j
     · subst e;simp[xr,hI.size,hj]
     · rw[getD_set_ne false e];exact hall j (by omega)) (by simp[hI.size])]
    refine⟨g,a,w,?_,rfl,h1,by rw[h2];exact dm.refl _ _ _,bJ.refl _ _,fun _ _ h=>h⟩
    rw[show ops.size-i=1 by omega,List.range'_one]
    exact abC _ _
   obtain⟨d,iP,xp,DJ,hd,hk,hf,FE,hmi,YP,ack⟩:=hspec i o ho' him
   have hv:(ds.map (·.v))[i]? = some d.v:=by rw[dT,hd];rfl
   have xh : ∀t∈slots ops o,look eH.tm t=look iP.tm t:=fun t ht=>hI.slots hO ho' Qr hl FE ht
   have hid:i<ds.length:=(dp.1 hd).1
   have hni:S.getD i false=false:=by rw[lN (by rw[hI.size];exact hilt) false true];exact hSi
   have LG:i∈u:=hu i hilt hni
   have PX : ∀j,j<ops.size→(S.setIfInBounds i true).getD j false=false→j∈u.erase i:=by
    intro j hj hq
    have hne:j≠i:=by
     intro e
     subst e
     rw[show(S.setIfInBounds j true).getD j false=true by simp[xr,hI.size,hj]] at hq
     cases hq
    rw[getD_set_ne false (fun e=>hne e.symm)] at hq
    exact(Ps hne).2 (hu j hj hq)
   have YQ : ∀j,m≤j→(S.setIfInBounds i true).getD j false=false:=by
    intro j hj
    rw[getD_set_ne false (by omega)]
    exact hnot j hj
   have Qs:(u.erase i).length=fuel:=by rw[Lk LG,Un];rfl
   have zu : ∀j,(S.setIfInBounds i true).getD j false=true↔S.getD j false=true∨j=i:=by
    intro j
    by_cases h:i=j
    · subst h
      simp[xr,hI.size,hilt]
    · rw[getD_set_ne false h]
      exact⟨.inl,fun q=>q.resolve_right fun e=>h e.symm⟩
   have hwf : ∀b∈d.w,b∈d.fp:=(hk.facts ack).2.2.2
   have wfp : ∀(j:Nat) (e:gO),ds[j]? = some e → ∀b∈e.w,b∈e.fp:=by
    intro j e he
    have hj:=(dp.1 he).1
    have Yn:ops.toList[j]? = some ops.toList[j]:=cb (by omega)
    by_cases hjm:j<m
    case neg=>
     intro b hb
     rw[gO.w,YN j e (by omega) he] at hb
     cases hb
    obtain⟨e',stj,nxj,acn,q1,q2,_,_,_,_,q3⟩:=hspec j _ Yn hjm
    rw[he] at q1;cases q1
    exact(q2.facts q3).2.2.2
   have Tu:=xl ds gH.mem i (by omega)
   rw[←hmi] at Tu
   have wlt : ∀(j:Nat) (e:gO),ds[j]? = some e → ∀b∈e.w,b<gH.mem.length:=by
    intro j e he b hb
    have hj:=(dp.1 he).1
    have Yn:ops.toList[j]? = some ops.toList[j]:=cb (by omega)
    by_cases hjm:j<m
    case neg=>
     rw[gO.w,YN j e (by omega) he] at hb
     cases hb
    obtain⟨e',stj,nxj,acn,q1,q2,_,_,q4,_,q3⟩:=hspec j _ Yn hjm
    rw[he] at q1;cases q1
    have h1:=(q2.facts q3).2.2.1 b hb
    have h2:=(q2.facts q3).2.1
    have h3:=mH (ds.take j) gH.mem
    rw[q4,h3] at h2
    omega
   have hag : ∀b∈d.fp,eH.mem[b]? = iP.mem[b]? ∨ (d.us=[] ∧ ∃x,eH.mem[b]? = some x∧d.ld b x=true):=by
    intro b hb
    by_cases hw : ∃j e,S.getD j false=true∧i<j∧ds[j]? = some e∧b∈e.w
    · obtain⟨j0,e0,q1,q2,q3,q4⟩:=hw
      obtain⟨j,⟨hj,e,he,zf⟩,hl⟩:=HC (p:=fun j=>S.getD j false=true ∧ ∃d,ds[j]? = some d∧b∈d.w) (n:=ds.length) (fun k ⟨_,d,hd,_⟩=>(dp.1 hd).1) _ j0 rfl ⟨q1,e0,q3,q4⟩
      have hij:i<j:=by
       rcases fg i j with q | q
       · exact q
       · exact absurd (show j<j0 by omega) (hl j0 ⟨q1,e0,q3,q4⟩)
      have DL:=hM.last j e b hj he zf fun k x hk PZ hx hbx=>hl k ⟨hk,x,hx,hbx⟩ PZ
      rcases hL.pair j i e d hij he hd with q | ⟨_,q | q⟩
      · have:=hI.cl j i hj q;rw[hni] at this;cases this
      · exact absurd hb (q b zf)
      · obtain⟨x,hx,hld⟩:=q.2 b zf hb
        rw[xw hx (wlt j e he b zf)] at DL
        exact .inr ⟨q.1,x,DL,hld⟩
    · refine .inl (hM.agree Tu fun j e he zf=> ?_)
      rcases QR j i with hlt | heq | hgt
      · rcases hL.pair i j d e hlt hd he with q | ⟨q,_⟩
        · exact⟨fun _=>hlt,fun _=>hI.ahead hO Qr q⟩
        · exact absurd hb (q b zf)
      · subst heq
        exact⟨fun q=>(by rw[hni] at q;cases q),fun q=>absurd q (Nat.lt_irrefl _)⟩
      · exact⟨fun q=>absurd ⟨j,e,q,hgt,he,zf⟩ hw,fun q=>by omega⟩
   have LK:eH.mem.length=iP.mem.length:=hM.len.trans Tu.len.symm
   have hM':j8 ds gH.mem (fun j=>(S.setIfInBounds i true).getD j false=true) (apply eH.mem d.us):=by
    refine hM.step hd zu (by rw[hni];exact fun q=>by cases q) fun j e hS hij he b hb zf=> ?_
    rcases hL.pair j i e d hij he hd with q | ⟨q,_⟩
    · have:=hI.cl j i hS q;rw[hni] at this;cases this
    · exact q b hb (wfp j e he b zf)
   have hI':=hI.step hO ho' hv Qr
   have hfA:fits eH o.dst=true:=by
    have:fits eH o.dst=fits iP o.dst:=by unfold fits;rw[show eH.nt=gH.nt from hI.nt,show iP.nt=gH.nt from FE.2.1]
    rw[this];exact hf
   have ae2:eH.fix=gH.fix:=hI.fix
   have hput : ∀m:Mem,put {eH with mem:=gH.mem} o.dst d.v={put {eH with mem:=m} o.dst d.v with mem:=gH.mem}:=by
    intro m;cases o.dst<;>rfl
   have TC : ∀m:Mem,(put {eH with mem:=m} o.dst d.v).mem=m:=by intro m;cases o.dst<;>rfl
   have YR:eH.fix≤(apply eH.mem d.us).length:=by rw[eB];exact hs.fix
   dsimp only
   rw[linearise_go_acc,H2,H3]
   have FF:=uB xh
   have zI:=DG (E:=E) xh
   obtain⟨w1,w2,w3⟩:=oU hs (ops:=ops) (o:=o)
   have go : ∀(g2:Gh) (cv:Value) (w':World),VA g2 w' d.v cv→Rel g2 (apply eH.mem d.us) w'→Ext g w g2 w'→dm g eH.mem w g2 (apply eH.mem d.us) w' →
     Steps P (lone (b.atR a (.inRegion ops (i::abB .any ops fuel (t / (yn .any ops S).length) (S.setIfInBounds i true) [])::k)) cs w)
      (lone (b.atR (a.put o.dst cv) (.inRegion ops (abB .any ops fuel (t / (yn .any ops S).length) (S.setIfInBounds i true) [])::k)) cs w') →
     ∃g' a' w',Steps P (lone (b.atR a (.inRegion ops (i::abB .any ops fuel (t / (yn .any ops S).length) (S.setIfInBounds i true) [])::k)) cs w) (lone (b.atR a' (.inRegion ops (xi m (ops.size-m))::k)) cs w')∧a'.defers=a.defers∧cu E g' st' a' w' ∧
      dm g eH.mem w g' st'.mem w'∧bJ g g' gH.fix ∧ ∀i c,g.bP i=some c→g'.bP i=some c:=by
    intro g2 cv w' k2 k3 k4 k5 kst
    have hs':=hs.put hfA k2 k4 k3 YR
    obtain⟨g3,a3,w3',r1,r2,r3,r4,r5,r6⟩:=ih (t / (yn .any ops S).length) (S.setIfInBounds i true) _ _ _ _ (u.erase i) (by rw[←hput];exact hI') (by rw[TC];exact hM') hs' Qs PX YQ
    rw[TC] at r4
    refine⟨g3,a3,w3',kst.trans r1,r2.trans put_defers,r3,k5.trans r4,(bJ.rz k4 _).trans r5,fun j c q=>r6 j c (k4.bP j c q).1⟩
   rcases hk with⟨hw,Ur⟩ | ⟨hw,rfl,rfl⟩
   · have iQ:yb o (yielded ops a.tmps)=true:=by
      rcases hw with hw | ⟨s',b',want,hw,hb⟩
      · exact w1 (FF.trans hw)
      · rw[(w3 s' b' want (FF.trans hw)).1];exact hb
     rcases Ur with⟨gf,args,v,m1,ht,fD,h1,h2,h3,h4,h5⟩ | ⟨ht,Us,hop,hfp,aga,h3,h4,hld⟩
     · have tA : ∀b∈d.fp,eH.mem[b]? = iP.mem[b]? :=fun b hb=>(hag b hb).resolve_right fun⟨_,x,_,q⟩=>by rw[h5] at q;cases q
       have Qy:target (ev E eH.tm) o=some (gf,args):=(Cd zI).trans ht
       have Ut:d.fp=close iP.mem 0 args++xi xp (m1.length-(close iP.mem 0 args).length):=by rw[h5];rfl
       have acp:close eH.mem 0 args=close iP.mem 0 args:=DK LK.symm fun j hj=>(xy (tA j (by rw[Ut];exact Hm _ hj))).symm
       have YS:pack eH.mem (close iP.mem 0 args)=pack iP.mem (close iP.mem 0 args):=FK fun j hj=>(xy (tA j (by rw[Ut];exact Hm _ hj))).symm
       obtain⟨hnd,_⟩:=fc iP.mem 0 args
       generalize close iP.mem 0 args=ord at *
       rw[←YS] at fD
       have hR : ∀j∈xi xp (m1.length-ord.length),eH.mem[j]? = some .free:=by
        intro j hj
        rw[tA j (by rw[Ut];exact Hk _ hj)]
        rw[H5] at hj
        exact YP j hj.1 (by omega)
       have acq:(ord++xi xp (m1.length-ord.length)).Nodup:=List.nodup_append.2 ⟨hnd,List.nodup_range',fun x hx y hy e=>by
        subst e
        rw[H5] at hy
        have:=h2 x hx;omega⟩
       have T3 : ∀j∈ord++xi xp (m1.length-ord.length),j<eH.mem.length:=by
        intro j hj
        rcases na.1 hj with q | q
        · have:=h2 j q;omega
        · rw[H5] at q;omega
       obtain⟨⟨fn,Qm,Qn,Qo⟩,fD⟩:=fD
       unfold target at Qy
       split at Qy
       · rename_i call acr
         split at Qy
         · rename_i x zJ
           split at Qy
           · rename_i f' first captured hx
             simp only[c9,iu] at Qy
             obtain⟨rfl,Uu⟩:=Qy
             have zB:=gw hs x
             rw[hx,VA.fns] at zB
             obtain⟨fa,ca,zB,Ul,hca⟩:=zB
             have YT:=xd (P:=P) (w:=w) acr zJ zB Qm Qn Qo
             have hargs:cL g w args (fa++call.args.map a.eval++ca).toList:=by
              rw[←Uu]
              simp only[Hb,gn]
              exact(Ul.append (gL (gw hs) _)).append hca
             obtain⟨Lv,Lw⟩:=hs.rel.pack hnd
             have mF:=dy.pack g ord
             obtain⟨w',g',cv,fr,q1,q2,q3,q4,q5,q6,q7,q8⟩:=fD (g.pack ord) w (fa++call.args.map a.eval++ca) (b.atR a (.inRegion ops (i::abB .any ops fuel (t / (yn .any ops S).length) (S.setIfInBounds i true) [])::k)::cs) Lv
              (cL.jx mF hargs) (hs.dg.mono fun _ _ p=>⟨p,rfl⟩)
             have hlen:(Am.pack eH.mem ord).length=ord.length:=by simp[Am.pack]
             rw[hlen] at q7 q8
             obtain⟨g2,r1,r2,r3,r4⟩:=hs.rel.Up acq T3 hR q5 q6 q7 (by simp;omega)
             have B0:d.us=(ord++xi xp (m1.length-ord.length)).zip (m1.map (gJ (bg (ord++xi xp (m1.length-ord.length)) eH.mem.length))):=by rw[h5,LK];rfl
             have hdv:d.v=jx (bg (ord++xi xp (m1.length-ord.length)) eH.mem.length) v:=by rw[h5,LK];rfl
             rw[←B0] at r1 r3
             have hstep:=qi (b:=b) (k:=k) (cs:=cs) (rest:=abB .any ops fuel (t / (yn .any ops S).length) (S.setIfInBounds i true) []) ho iQ YT
             have hleave:=step_leave_returned (P:=P) (c:=b.atR a (.inRegion ops (i::abB .any ops fuel (t / (yn .any ops S).length) (S.setIfInBounds i true) [])::k)) (cs:=cs) q2
             rw[zd,ho] at hleave
             exact go g2 cv w' (by rw[hdv];exact q4.jx r4) r1 r2 r3 (.head hstep (q1.trans (.one hleave)))
           · cases Qy
         · cases Qy
       · cases Qy
     · have both:(ug P (fun j=>eH.mem.getD j .dead) (wr o) xp (ev E eH.tm) o=some (d.v,d.us,true))∧(makes o=true→eH.mem[xp]? = some .free):=by
        by_cases hsp : ∃b x,d.us=[]∧eH.mem[b]? = some x∧d.ld b x=true
        · obtain⟨b,x,B0,hx,DM⟩:=hsp
          rw[hld] at DM
          unfold T1 at DM
          split at DM
          · rename_i t a Uv
            split at DM
            · rename_i c off acs
              simp only[c8] at DM
              obtain⟨hcb,Ls⟩:=DM
              have hcb:=ai hcb
              subst hcb
              split at Ls
              · rename_i v' ok hlo
                simp only[c8] at Ls
                obtain⟨rfl,TD⟩:=Ls
                have TD:=kO TD
                subst TD
                have hrd:(fun j=>eH.mem.getD j aU.dead) c=x:=by
                 show eH.mem.getD c .dead=x
                 rw[ch,hx];rfl
                have j4:kY P (fun j=>eH.mem.getD j .dead) t (.mp c off)=kY P (fun _=>x) t (.mp c off):=by
                 simp only[kY,pK (rd:=fun j=>eH.mem.getD j aU.dead) (rd':=fun _=>x) (a:= .mp c off) (fun b hb=>by
                  have:b=c:=by simpa[refs] using hb
                  subst this;exact hrd)]
                refine⟨?_,fun hm=> ?_⟩
                · have e1:ev E eH.tm a = .mp c off:=by rw[zI a (by rw[Uv];simp[abp]),acs]
                  simp only[ug,Uv,e1,j4,hlo,hH,hZ,B0]
                · simp[makes,Uv] at hm
              · cases Ls
            · cases DM
          · cases DM
        · have tA : ∀b∈d.fp,eH.mem[b]? = iP.mem[b]? :=fun b hb=>(hag b hb).resolve_right fun⟨q0,x,q1,q2⟩=>hsp ⟨b,x,q0,q1,q2⟩
          refine⟨?_,fun hm=> ?_⟩
          · rw[←hop]
            refine(Qu Us (fun x hx=>(zI x hx).symm) fun j hj=> ?_).symm
            exact(xy (tA j (by rw[hfp];exact Hk _ (Hm _ hj)))).symm
          · rw[tA xp (by rw[hfp,hm];exact Hk _ (Hk _ (by simp)))]
            rw[hm] at h3
            simp only[cond_true] at h3
            exact YP xp (bx _) (by omega)
       obtain⟨acu,hfree⟩:=both
       obtain⟨cv,w',g',k1,k2,k3,k4,k5⟩:=oS hs.rel (gw hs) (fun _=>rfl) hfree acu
       exact go g' cv w' k2 k3 k4 k5 (.one (rB ho iQ k1))
   · have iQ:yb o (yielded ops a.tmps)=false:=by
      rcases hw with hw | ⟨s',b',want,hw,hb⟩
      · exact w2 (FF.trans hw)
      · rw[(w3 s' b' want (FF.trans hw)).1];exact hb
     refine go g undef w (VA.lF.2 trivial) hs.rel (Ext.refl g w) (dm.refl _ _ _) (.one ?_)
     have hst:=stepR_op_skip (P:=P) (b:=b) (a:=a) (k:=k) (cs:=cs) (w:=w) (ops:=ops) (i:=i) (rest:=abB .any ops fuel (t / (yn .any ops S).length) (S.setIfInBounds i true) []) (by simp[ho,iQ])
     simpa only[ho,vd] using hst
theorem uF : ∀{m:Mem},vF m=true → ∀(i:Nat) (b:aU),m[i]? = some b→b = .free
 |[],_,i,b,h=>by simp at h
 |x::r,h,i,b,hb=>by
  cases x with
  |free=>
   cases i with
   |zero=>simpa using hb.symm
   |succ i=>exact uF (m:=r) h i b (by simpa using hb)
  |_=>cases h
theorem Rel.trim {g:Gh} {m:Mem} {w:World} (h:Rel g m w) {n:Nat} (hf:vF (m.drop n)=true):Rel g (m.take n) w∧dm g m w g (m.take n) w:=by
 have get : ∀i b,(m.take n)[i]? = some b→m[i]? = some b:=fun i b hb=>by
  rw[db] at hb
  split at hb
  · exact hb
  · cases hb
 refine⟨⟨fun i hi=> ?_,fun i hi=>h.free i (get i _ hi),fun i b l hi hb=>h.cells i b l (get i b hi) hb,fun i c hi hc=>h.tok i c (get i _ hi) hc,
  fun i j b b' c hi hj ho ho' hc fO=>h.inj i j b b' c (get i b hi) (get j b' hj) ho ho' hc fO,h.there,fun i k l hi=>h.obs i k l (get i _ hi)⟩,dm.less fun c ⟨i,b,hi,ho,hc⟩=>⟨i,b,get i b hi,ho,hc⟩⟩
 rcases fg i m.length with q | q
 · rw[dC] at hi
   have hb:(m.drop n)[i-n]? = some m[i]:=by
    rw[List.getElem?_drop,show n+(i-n)=i by omega]
    exact cb q
   have:=uF hf _ _ hb
   exact h.free i (by rw[cb q,this])
 · exact h.zb i q
theorem Rel.eu {g:Gh} {w:World} : ∀(n:Nat) {m:Mem},Rel g m w→Rel g (m++eu n) w∧dm g m w g (m++eu n) w
 |0,m,h=>by
  simp only[Am.eu,List.replicate_zero,Pl]
  exact⟨h,dm.refl _ _ _⟩
 |n+1,m,h=>by
  obtain⟨h1,h2⟩:=h.reserve
  obtain⟨h3,h4⟩:=Rel.eu n h1
  have e:m++Am.eu (n+1)=(m++[.free])++Am.eu n:=by simp[Am.eu,List.replicate_succ]
  rw[e]
  exact⟨h3,h2.trans h4⟩
theorem rE {x:Nat} : ∀{n:Nat},vC x n=true → ∀j,j<n→bj x j=true
 |0,_,j,h=>absurd h (vz _)
 |n+1,h,j,hj=>by
  simp only[vC,c8] at h
  rcases fg j n with q | q
  · exact rE h.2 j q
  · have:j=n:=by omega
    subst this;exact h.1
theorem Ce (ops:Array Oper):gG ops≤ops.size∧(gG ops=ops.size∨(gG ops+1=ops.size ∧ ∀j,j<gG ops→bj ((masks [] ops.toList).getD (gG ops) 0) j=true)):=by
 unfold gG
 cases h:sQ ops with
 |false=>exact⟨bx _,.inl rfl⟩
 |true=>
  simp only[cond_true]
  refine⟨by omega,?_⟩
  unfold sQ at h
  simp only[c8] at h
  obtain⟨h1,h2⟩:=h
  have hp:0<ops.size:=by
   rcases Nat.eq_zero_or_pos ops.size with e | e
   · rw[show ops[ops.size-1]? = none from Ha (by omega)] at h1;cases h1
   · exact e
  exact .inr ⟨by omega,fun j hj=>rE h2 j hj⟩
theorem zL.YU {wr:Oper→Bool} {ops:Array Oper} {m:Nat} {st st':St} {nx pG:Nat} {ds:List gO} (h:zL P E wr ops (ops.toList.take m) st nx ds st' pG) (hm:m≤ops.size) (hu:DE ops.toList) (hn:nx≤st.mem.length) (hfr:lO nx st.mem) :
  TB P E wr ops m st (ds++cf (ops.size-m) ⟨.au [],[],[],fun _ _=>false⟩) st'∧ds.length=m∧st'.mem=mZ st.mem ds∧st'.fix=st.fix:=by
 have get : ∀i,i<m→(ops.toList.take m)[i]? = ops.toList[i]? :=fun i hi=>by rw[db,if_pos hi]
 have PX:DE (ops.toList.take m):=by
  intro i j p q t hij hp hq
  rw[db] at hp hq
  split at hp
  · split at hq
    · exact hu i j p q t hij hp hq
    · cases hq
  · cases hp
 have hlen:(ops.toList.take m).length=m:=by simp;omega
 obtain⟨h1,h2,h3,_,h4⟩:=h.spec PX hn hfr
 rw[hlen] at h1 h2
 have slots : ∀{i:Nat} {T:St},i≤m→dJ (ops.toList.take m) (ds.map (·.v)) st i T→dJ ops.toList ((ds++cf (ops.size-m) (⟨.au [],[],[],fun _ _=>false⟩:gO)).map (·.v)) st i T:=by
  intro i T hi ⟨q1,q2,q3,q4,q5⟩
  refine⟨q1,q2,q3,fun j p v t hj hp hv ht=>q4 j p v t hj (by rw[get j (by omega)];exact hp) ?_ ht,fun t ht=>q5 t fun j p hj hp=>ht j p hj ?_⟩
  · rw[List.map_append,od (by simp;omega)] at hv;exact hv
  · rw[get j (by omega)] at hp;exact hp
 refine⟨⟨by simp;omega,slots (bx _) h2,?_,?_,?_⟩,h1,h3,h2.2.2.1⟩
 · rw[np (by omega),List.take_of_length_le (by omega)];exact h3
 · intro i o ho hi
   obtain⟨d,iP,xp,DJ,q1,q2,q3,q4,q5,q6,q7⟩:=h4 i o (by rw[get i hi];exact ho)
   refine⟨d,iP,xp,DJ,by rw[od (by omega)];exact q1,q2,q3,slots (by omega) q4,?_,q6,q7⟩
   rw[np (by omega)];exact q5
 · intro i e hi he
   rw[H0 (by omega),H4] at he
   split at he
   · cases he;rfl
   · cases he
theorem YL.pad {L:List Nat} {ds:List gO} {n:Nat} (h : ∀(i j:Nat) (d e:gO),j<i→ds[i]? = some d→ds[j]? = some e→bj (L.getD i 0) j=true∨((∀b∈e.w,b∉d.fp)∧((∀b∈d.w,b∉e.fp)∨Qv d e))) :
  YL L (ds++cf n ⟨.au [],[],[],fun _ _=>false⟩):=by
 refine⟨fun i j d e hj hd he=> ?_⟩
 rcases fg i ds.length with q | q
 · exact h i j d e hj (by rw[od q] at hd;exact hd) (by rw[od (by omega)] at he;exact he)
 · rw[H0 q,H4] at hd
   split at hd
   · cases hd
     exact .inr ⟨fun b _=>by simp,.inl fun b hb=>by simp at hb⟩
   · cases hd
theorem Uw {g:Gh} {w:World} {b:Frame} {a:Act} {k:List It} {ops:Array Oper} {f bV:Nat} {O:FuncId→List AV→Mem→Option (AV×Mem)} {st st':St} (hO : ∀g args m v m1,O g args m=some (v,m1)→an P E g args m v m1)
  (hs:cu E g st a w) (h:jW P E f bV O ops st=some (st',true)) :
  ∀cs,∃g' a' w',Steps P (lone (b.atR a (.code (.region bV ops true)::dV k)) cs w) (lone (b.atR a' (dV (iH bV ops k))) cs w')∧a'.defers=a.defers∧cu E g' st' a' w' ∧
   dm g st.mem w g' st'.mem w'∧bJ g g' st.fix∧st'.fix=st.fix ∧ ∀i c,g.bP i=some c→g'.bP i=some c:=by
 intro cs
 unfold jW at h
 split at h
 · rename_i Qp nx ds ok hq
   simp only[c9,iu,c8] at h
   obtain⟨rfl,rfl,LI,Us,hfree,P0,Uo⟩:=h
   have P0:=en P0
   have hrun:=tv hO hq
   obtain⟨hQ,_⟩:=vf.of LI
   obtain⟨acv,acw⟩:=Ce ops
   have hL:YL (masks [] ops.toList) (ds++cf (ops.size-gG ops) ⟨.au [],[],[],fun _ _=>false⟩):=YL.pad fun i j d e hj hd he=>uD (ni:=[]) Us i j d e (abb _) hj hd he
   obtain⟨HB,Yo⟩:=hs.rel.eu (60+ops.size)
   have hs1:cu E g {st with mem:=st.mem++eu (60+ops.size)} a w:=⟨hs.tm,hs.nt,HB,by simp;have:=hs.fix;omega,hs.dg⟩
   have hgd : ∀j,(zt ops.size false).getD j false=false:=by
    intro j
    rw[xr,Hc]
    split<;>rfl
   have hfr:lO st.mem.length (st.mem++eu (60+ops.size)):=by
    intro i hi hl
    rw[H0 hi]
    simp only[eu,List.length_append,List.length_replicate] at hl ⊢
    rw[H4,if_pos (by omega)]
   have hnl:st.mem.length≤(st.mem++eu (60+ops.size)).length:=by simp
   obtain⟨hspec,hdl,hmem,oc⟩:=hrun.YU acv hQ.uniq hnl hfr
   generalize hds:ds++cf (ops.size-gG ops) (⟨.au [],[],[],fun _ _=>false⟩:gO)=ds2 at *
   have hI:nj ops (masks [] ops.toList) (ds2.map (·.v)) {st with mem:=st.mem++eu (60+ops.size)} {st with mem:=st.mem++eu (60+ops.size)} (zt ops.size false):=
    ⟨by simp,rfl,rfl,rfl,fun j _ _ _ hj=>(by rw[hgd] at hj;cases hj),fun _ _=>rfl,fun i _ hi=>(by rw[hgd] at hi;cases hi)⟩
   have hM:j8 ds2 (st.mem++eu (60+ops.size)) (fun j=>(zt ops.size false).getD j false=true) (st.mem++eu (60+ops.size)):=j8.nil fun j q=>by rw[hgd] at q;cases q
   have Ym:=hs1.drew (w.drawn+1)
   obtain⟨g',a',w',r1,r2,r3,r4,r5,r6⟩:=Qx (P:=P) (E:=E) (b:=b) (k:=dV k) cs hQ hL hspec acw ops.size (w.tape w.drawn (.order b.fn bV)) (zt ops.size false) {st with mem:=st.mem++eu (60+ops.size)} a g _ (ei ops.size) hI hM Ym (by simp) (fun i hi _=>QQ.2 hi) (fun i _=>hgd i)
   obtain⟨t1,t2⟩:=r3.rel.trim hfree
   have hlen:Qp.mem.length=st.mem.length+(60+ops.size):=by rw[hmem,mH];simp[eu]
   have oc:Qp.fix=st.fix:=oc
   refine⟨g',a',w',?_,r2,⟨r3.tm,r3.nt,t1,?_,r3.dg⟩,?_,r5,oc,r6⟩
   · refine .head stepR_region_draw ?_
     have LJ:yo (P.follows .mixedOrders) ops (w.tape w.drawn (.order b.fn bV))=abB .any ops ops.size (w.tape w.drawn (.order b.fn bV)) (zt ops.size false) []:=by
      simp only[yo,Uo,if_true,yv]
     rw[LJ]
     unfold iH
     unfold gG at r1
     cases DL:sQ ops with
     |false=>
      rw[DL] at r1
      simp only[cond_false,aam,M2] at r1 ⊢
      exact r1.trans (.one stepR_region_end)
     |true=>
      rw[DL] at r1
      simp only[cond_true] at r1 ⊢
      exact r1
   · have:=hs.fix
     show Qp.fix≤(Qp.mem.take nx).length
     rw[dC,oc]
     omega
   · have hst:dm g (st.mem++eu (60+ops.size)) w g (st.mem++eu (60+ops.size)) {w with drawn:=w.drawn+1}:=⟨bx _,fun _ _ _=>rfl,fun _ _ h=>⟨h,rfl⟩,fun _ _ h=> .inl h,fun _ h=> .inl h,rfl,rfl,rfl⟩
     exact((Yo.trans hst).trans r4).trans t2
 · cases h
def vi (s t:St):Prop:=s.nt=t.nt∧s.fix=t.fix∧s.mem=t.mem ∧ ∀k,look s.tm k=look t.tm k
theorem vi.refl (s:St):vi s s:=⟨rfl,rfl,rfl,fun _=>rfl⟩
theorem Au {a b:vQ} : ∀{l:List Nat},P8 a b l=true → ∀k∈l,look a k=look b k
 |[],_,k,h=>by cases h
 |x::r,h,k,hk=>by
  simp only[P8,c8] at h
  rcases mv.1 hk with rfl | hk
  · exact kO h.1
  · exact Au h.2 k hk
theorem tB : ∀{a:vQ} {k:Nat},k∉a.map (·.1)→look a k = .ah
 |[],_,_=>rfl
 |(j,v)::r,k,h=>by
  simp only[oT,mv,not_or] at h
  simp only[look]
  cases hb:ae j k with
  |true=>exact absurd (ai hb).symm h.1
  |false=>exact tB h.2
theorem Jq {s t:St} (h:T0 s t=true):vi s t:=by
 simp only[T0,c8] at h
 obtain⟨h1,h2,_,h3,h4⟩:=h
 refine⟨ai h1,ai h2,lH h3,fun k=> ?_⟩
 by_cases hk:k∈s.tm.map (·.1)++t.tm.map (·.1)
 · exact Au h4 k hk
 · rw[na,not_or] at hk
   rw[tB hk.1,tB hk.2]
def Has (l:List Pt) (q:Pt):Prop:= ∃p∈l,p.1=q.1∧vi q.2 p.2
theorem Av {q:Pt} : ∀{l:List Pt},C9 q l=true→Has l q
 |[],h=>by cases h
 |p::r,h=>by
  simp only[C9,il] at h
  rcases h with h | h
  · simp only[Yx,c8] at h
    exact⟨p,.head _,(Array.toList_inj.1 (wu h.1)).symm,Jq h.2⟩
  · obtain⟨x,h1,h2⟩:=Av h
    exact⟨x,.tail _ h1,h2⟩
theorem Aw {q:Pt} {l:List Pt}:Has (Db q l) q ∧ ∀x∈l,x∈Db q l:=by
 unfold Db
 cases h:C9 q l with
 |true=>exact⟨Av h,fun _ hx=>hx⟩
 |false=>exact⟨⟨q,.head _,rfl,vi.refl _⟩,fun _ hx=> .tail _ hx⟩
theorem Has.mono {l l':List Pt} {q:Pt} (h:Has l q) (hl : ∀x∈l,x∈l'):Has l' q:=by
 obtain⟨p,h1,h2⟩:=h
 exact⟨p,hl p h1,h2⟩
theorem uG {f:FuncId} {ops:Array Oper} {q:Pt} : ∀{is:List Nat} {l l':List Pt},qO P E f ops q is l=some l' →
  (∀x∈l,x∈l') ∧ ∀i∈is,∃st,Hi P E f ops i q.2=some st∧Has l' (q.1.setIfInBounds i true,st)
 |[],l,l',h=>by
  simp only[qO,c9] at h
  subst h
  exact⟨fun _ hx=>hx,fun i hi=>by cases hi⟩
 |i::r,l,l',h=>by
  simp only[qO] at h
  split at h
  · rename_i st hst
    obtain⟨h1,h2⟩:=uG h
    obtain⟨k1,k2⟩:=Aw (q:=(q.1.setIfInBounds i true,st)) (l:=l)
    refine⟨fun x hx=>h1 x (k2 x hx),fun j hj=> ?_⟩
    rcases mv.1 hj with rfl | hj
    · exact⟨st,hst,k1.mono h1⟩
    · exact h2 j hj
  · cases h
theorem oV {f:FuncId} {ops:Array Oper} : ∀{l acc l':List Pt},level P E f ops l acc=some l' →
  (∀x∈acc,x∈l') ∧ ∀q∈l,(yn .any ops q.1=[]→Has l' q) ∧ ∀i∈yn .any ops q.1,∃st,Hi P E f ops i q.2=some st∧Has l' (q.1.setIfInBounds i true,st)
 |[],acc,l',h=>by
  simp only[level,c9] at h
  subst h
  exact⟨fun _ hx=>hx,fun q hq=>by cases hq⟩
 |q::r,acc,l',h=>by
  simp only[level] at h
  split at h
  · rename_i hr
    obtain⟨h1,h2⟩:=oV h
    obtain⟨k1,k2⟩:=Aw (q:=q) (l:=acc)
    refine⟨fun x hx=>h1 x (k2 x hx),fun p hp=> ?_⟩
    rcases mv.1 hp with rfl | hp
    · exact⟨fun _=>k1.mono h1,fun i hi=>by rw[hr] at hi;cases hi⟩
    · exact h2 p hp
  · rename_i hr
    split at h
    · rename_i l1 hn
      obtain⟨h1,h2⟩:=oV h
      obtain⟨k1,k2⟩:=uG hn
      refine⟨fun x hx=>h1 x (k1 x hx),fun p hp=> ?_⟩
      rcases mv.1 hp with rfl | hp
      · refine⟨fun e=>absurd e hr,fun i hi=> ?_⟩
        obtain⟨st,q1,q2⟩:=k2 i hi
        exact⟨st,q1,q2.mono h1⟩
      · exact h2 p hp
    · cases h
theorem vi.trans {a b c:St} (h:vi a b) (k:vi b c):vi a c:=⟨h.1.trans k.1,h.2.1.trans k.2.1,h.2.2.1.trans k.2.2.1,fun x=>(h.2.2.2 x).trans (k.2.2.2 x)⟩
theorem cu.like {g:Gh} {w:World} {st st':St} {a:Act} (h:cu E g st a w) (q:vi st st'):cu E g st' a w:=h.same q.2.2.1 q.1 q.2.1 q.2.2.2
theorem rF {f:FuncId} {ops:Array Oper} : ∀(n:Nat) {l l':List Pt},levels P E f ops n l=some l' → ∀q∈l,yn .any ops q.1=[]→Has l' q
 |0,l,l',h,q,hq,_=>by
  simp only[levels,c9] at h
  subst h
  exact⟨q,hq,rfl,vi.refl _⟩
 |n+1,l,l',h,q,hq,hr=>by
  simp only[levels] at h
  split at h
  · rename_i l1 hl
    obtain⟨p,h1,h2,h3⟩:=(((oV hl).2 q hq).1 hr)
    obtain⟨x,k1,k2,k3⟩:=rF n h p h1 (by rw[h2];exact hr)
    exact⟨x,k1,k2.trans h2,h3.trans k3⟩
  · cases h
theorem LM {b:Frame} {k:List Item} {f:FuncId} {ops:Array Oper} : ∀(n:Nat) (l l':List Pt),levels P E f ops n l=some l' → ∀(q:Pt),q∈l → ∀(t:Nat) (a:Act) (g:Gh) (w:World),cu E g q.2 a w →
  ∃st'∈l'.map (·.2),∃g' a' w',(∀cs,Steps P (lone (b.atR a (.inRegion ops (abB .any ops n t q.1 [])::k)) cs w) (lone (b.atR a' (.inRegion ops []::k)) cs w'))∧a'.defers=a.defers∧cu E g' st' a' w' ∧
   dm g q.2.mem w g' st'.mem w'∧bJ g g' q.2.fix∧st'.fix=q.2.fix ∧ ∀i c,g.bP i=some c→g'.bP i=some c
 |0,l,l',h,q,hq,t,a,g,w,hs=>by
  simp only[levels,c9] at h
  subst h
  exact⟨q.2,eh.2 ⟨q,hq,rfl⟩,g,a,w,fun cs=>abC _ _,rfl,hs,dm.refl _ _ _,bJ.refl _ _,rfl,fun _ _ q=>q⟩
 |n+1,l,l',h,q,hq,t,a,g,w,hs=>by
  have h0:=h
  simp only[levels] at h
  split at h
  · rename_i l1 hl
    simp only[abB]
    show ∃st'∈l'.map (·.2),∃g' a' w',(∀cs,Steps P (lone (b.atR a (.inRegion ops (match(yn .any ops q.1)[t%(yn .any ops q.1).length]? with
     |some i=>abB .any ops n (t / (yn .any ops q.1).length) (q.1.setIfInBounds i true) [i]
     |none=>[].reverse)::k)) cs w) (lone (b.atR a' (.inRegion ops []::k)) cs w'))∧_
    obtain⟨_,k2⟩:=(oV hl).2 q hq
    cases hr:(yn .any ops q.1)[t%(yn .any ops q.1).length]? with
    |none=>
     have LF:yn .any ops q.1=[]:=by
      cases hz:yn .any ops q.1 with
      |nil=>rfl
      |cons x xs=>
       rw[hz] at hr
       have hlt:t%(x::xs).length<(x::xs).length:=pB _ (by simp)
       rw[cb hlt] at hr;cases hr
     obtain⟨p,p1,p2,p3⟩:=rF (n+1) h0 q hq LF
     exact⟨p.2,eh.2 ⟨p,p1,rfl⟩,g,a,w,fun cs=>abC _ _,rfl,hs.like p3,by rw[←p3.2.2.1];exact dm.refl _ _ _,bJ.refl _ _,p3.2.1.symm,fun _ _ q=>q⟩
    |some i=>
     dsimp only
     rw[linearise_go_acc,H2,H3]
     obtain⟨st,he,p,p1,p2,p3⟩:=k2 i (mb hr)
     have p2:p.1=q.1.setIfInBounds i true:=p2
     have p3:vi st p.2:=p3
     unfold Hi at he
     split at he
     · cases he
     · rename_i o ho
       split at he
       · rename_i hw
         dsimp only at he
         split at he
         · rename_i v us ok hop
           cases hok:(ok&&fits q.2 o.dst) with
           |false=>rw[hok] at he;cases he
           |true=>
            rw[hok] at he
            simp only[cond_true,c9] at he
            subst he
            simp only[c8] at hok
            obtain⟨rfl,hf⟩:=hok
            have iQ:=(oU hs (ops:=ops) (o:=o)).1 hw
            have hres:Rel g (reserve o q.2.mem) w∧dm g q.2.mem w g (reserve o q.2.mem) w:=by
             unfold reserve
             cases makes o with
             |true=>exact hs.rel.reserve
             |false=>exact⟨hs.rel,dm.refl _ _ _⟩
            have hfree:makes o=true→(reserve o q.2.mem)[q.2.mem.length]? = some .free:=by
             intro hm
             simp[reserve,hm]
            obtain⟨cv,w1,g1,k1,k2,k3,k4,k5⟩:=oS hres.1 (gw hs) (fun _=>rfl) hfree hop
            have nX:q.2.fix≤(apply (reserve o q.2.mem) us).length:=by
             rw[eB]
             have:=hs.fix
             unfold reserve
             cases makes o<;>simp<;>omega
            have hs1:=(hs.put hf k2 k4 k3 nX).like p3
            have hm:p.2.mem=apply (reserve o q.2.mem) us:=by rw[←p3.2.2.1,uC]
            have hx:p.2.fix=q.2.fix:=by rw[←p3.2.1];cases o.dst<;>rfl
            obtain⟨st2,r0,g2,a2,w2,r1,r2,r3,r4,r5,r6,r7⟩:=LM (b:=b) (k:=k) n l1 l' h p p1 (t / (yn .any ops q.1).length) _ _ _ hs1
            rw[hm] at r4
            rw[hx] at r5 r6
            rw[p2] at r1
            exact⟨st2,r0,g2,a2,w2,fun cs=> .head (rB ho iQ k1) (r1 cs),r2.trans put_defers,r3,(hres.2.trans k5).trans r4,(bJ.rz k4 _).trans r5,r6,fun i c q=>r7 i c (k4.bP i c q).1⟩
         · cases he
       · cases he
  · cases h
theorem Qz {g:Gh} {w:World} {b:Frame} {a:Act} {k:List Item} {ops:Array Oper} {f bV:Nat} {st:St} {sts:List St} (hs:cu E g st a w) (h:BK P E f ops st=some sts) :
  ∃st'∈sts,∃g' a' w',(∀cs,Steps P (lone (b.atR a (.code (.region bV ops true)::k)) cs w) (lone (b.atR a' k) cs w'))∧a'.defers=a.defers∧cu E g' st' a' w' ∧
   dm g st.mem w g' st'.mem w'∧bJ g g' st.fix∧st'.fix=st.fix ∧ ∀i c,g.bP i=some c→g'.bP i=some c:=by
 unfold BK at h
 cases hc:((K7 ops||K8 P ops)&&(P.follows .mixedOrders || !Region.departs ops)) with
 |false=>rw[hc] at h;cases h
 |true=>
  rw[hc] at h
  simp only[cond_true,Option.map_eq_some_iff] at h
  simp only[c8] at hc
  obtain⟨l',h1,rfl⟩:=h
  obtain⟨st',h2,g',a',w',r1,r2,r3,r4,r5,r6,r7⟩:=LM (b:=b) (k:=k) _ _ _ h1 (zt ops.size false,st) (.head _) (w.tape w.drawn (.order b.fn bV)) a g _ (hs.drew (w.drawn+1))
  refine⟨st',h2,g',a',w',fun cs=> ?_,r2,r3,?_,r5,r6,r7⟩
  · refine .head stepR_region_draw ?_
    have LJ:yo (P.follows .mixedOrders) ops (w.tape w.drawn (.order b.fn bV))=abB .any ops ops.size (w.tape w.drawn (.order b.fn bV)) (zt ops.size false) []:=by
     simp only[yo,hc.2,if_true,yv]
    rw[LJ]
    exact(r1 cs).trans (.one stepR_region_end)
  · have hst:dm g st.mem w g st.mem {w with drawn:=w.drawn+1}:=⟨bx _,fun _ _ _=>rfl,fun _ _ h=>⟨h,rfl⟩,fun _ _ h=> .inl h,fun _ h=> .inl h,rfl,rfl,rfl⟩
    exact hst.trans r4
end
end Go.Am
end
