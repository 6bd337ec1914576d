import Derived.Test.YtncncijedmfpjaaGreatDoorMD
import Derived.Laws.Externs
import Derived.KernelRfl
import Derived.Orders
open Go.Deferred renaming ofValue→xr
open Go.Sem renaming run_bind→kh,run_pure→kl
open Go.Result renaming andThen_ok→km
open Bool renaming and_eq_true→dp,false_eq_true→pn,or_eq_true→j1,not_eq_true'→j2,false_or→pt,not_true→xv
open Go.Region renaming ready→yb,wanted→xo,schedule→ye,binds→yi,linearise→yn
open Go.Frame renaming finish_atR→yo,atR→yr
open Array renaming getD_eq_getD_getElem?→xi,replicate→yv,getElem?_eq_some_iff→zd,getElem?_eq_none→zr,toList_map→ik,toList_append→zt,getElem?_eq_getElem→hZ,getElem?_replicate→Fs,empty_append→Ha
open Option.some renaming injEq→dq
open List renaming range'→xb,getElem?_eq_getElem→de,getElem?_eq_some_iff→ee,mem_append_right→Hb,getElem?_append_left→o6,mem_append_left→Hc,getD_eq_getElem?_getD→di,getElem?_cons_zero→np,map_congr_left→Hd,mem_cons→Hk,getElem?_append_right→Hm,mem_of_getElem?→oi,reverse_singleton→Hn,map_cons→uv,singleton_append→H0,getElem?_take→du,getElem?_cons_succ→nz,getElem?_replicate→H2,mem_range'_1→H3,replicate→df,eq_nil_of_length_eq_zero→H4,take_append_of_le_length→o0,mem_append→oE,mem_map→fi,length_erase_of_mem→H5,range'_zero→If,append_nil→Lk,getElem?_eq_none→ei,mem_erase_of_ne→M2,getElem?_map→fe,map_toArray→ui,mem_toArray→Pl,all_eq_true→ba,length_take→eQ,nil_append→Ps,mem_range→PH,toArray→vd,map_nil→vb,range→fl
open Nat renaming testBit→da,eq_of_beq_eq_true→bx,lt_or_ge→gg,not_lt_zero→tz,le_of_ble_eq_true→ft,le_refl→dd,lt_trichotomy→PQ,beq_refl→tp,sub_self→QP,strongRecOn→QR,mod_lt→rb,add_assoc→gn,add_comm→aag,beq→bj,zero_le→aai
open Prod.mk renaming injEq→kc
open Go.Op renaming operands→aaj
open Go.Region.linearise renaming go→aal
open Go.Steps renaming refl→aan
open Option renaming bind_some→tc,map_some→iv
section
namespace Go.Am
open Go.RowKit
section
variable {P:Program} {E:Env} {g:Gh} {w:World}
theorem eo : ∀(us:nF) (m:Mem),(apply m us).length=m.length
 |[],_=>rfl
 |(i,b)::us,m=>by simp[apply,eo us]
def AI (P:Program) (E:Env) (g:Gh) (c:cg) (fr:Frame) (w:World) (l:List cg):Prop:=
 ∀cs,∃c'∈l,∃g' fr' w',Steps P (lone fr cs w) (lone fr' cs w')∧dA P E g' c' fr' w'∧dm g c.st.mem w g' c'.st.mem w'∧bO g g' c.st.fix∧c'.f=c.f∧c'.st.fix=c.st.fix∧c'.st.bZ=c.st.bZ
def AJ (P:Program) (E:Env) (g:Gh) (c:cg) (fr:Frame) (w:World):Ev→Prop
 |.next c'=>eG P E g c fr w c'
 |.must b c'=>b=true→eG P E g c fr w c'
 |.test b y z=>(b=true→eG P E g c fr w y)∧(b=false→eG P E g c fr w z)
 |.call f args m ord dst c'=>(∀v m1,au P E f args m v m1→eG P E g c fr w {c' with st:=back ord dst c'.st v m1}) ∧ ∀u m1,Kt P E f args m u m1→eG P E g c fr w (mK ord c' u m1)
 |.late f args m ord pv c'=> ∀m1,Kv P E f args m pv m1→eG P E g c fr w {c' with st:=back ord none c'.st (.aK []) m1}
 |.round args m ord dst c'=> ∀v m1,F8 P E args m v m1→eG P E g c fr w {c' with st:=back ord dst c'.st v m1}
 |.range f args m ord L c'=> ∀v m1,au P E f args m v m1 → ∀m2 pd,fS (back ord none c'.st v m1).mem L=some (m2,pd)→eG P E g c fr w (behind c' m2 pd)
 |.draw bY ops c'=> ∀(O:FuncId→List AV→Mem→Option (AV×Mem)) (st':St),(∀g args m v m1,O g args m=some (v,m1)→au P E g args m v m1)→jC P E c'.f bY O ops c'.st=some (st',true) →
    eG P E g c fr w {c' with st:={st' with cJ:=c'.st.cJ,bZ:=c'.st.bZ}}
 |.fork l=>AI P E g c fr w l
 |.done (.ret v m')=>fr.fn=c.f∧m'=c.st.mem ∧ ∃cv w2,Ks P c.st.bZ fr w cv w2∧VA g w2 v cv∧Rel g m' w2∧dm g m' w g m' w2∧c.st.fix≤m'.length
 |.done (.xp v m')=>fr.fn=c.f∧m'=c.st.mem ∧ ∃cv,fr.leaving P w (.panicked [{v:=cv,recovered:=false}])∧VA g w v cv∧Rel g m' w∧c.st.fix≤m'.length
 |.fail=>True
theorem nf {x:It} {k:List It} (hx:It.pl x) (hk : ∀y∈k,It.pl y) : ∀y∈x::k,It.pl y:=by
 intro y hy
 cases hy with
 |head=>exact hx
 |tail _ hy=>exact hk y hy
theorem dA.mk {c:cg} {b:Frame} {a:Act} (hnf : ∀x∈c.todo,It.pl x) (h1:b.fn=c.f) (h2:eA g c.st.bZ b) (h3:Mk g c.st.cJ a.defers) (h4:cA E g c.st a w):dA P E g c (b.atR a (dR c.todo)) w:=by
 unfold dA
 split
 · rename_i hk;exact absurd (hnf _ (by rw[hk];exact .head _)) id
 · rename_i hk;exact absurd (hnf _ (by rw[hk];exact .head _)) id
 · rename_i hk;exact absurd (hnf _ (by rw[hk];exact .head _)) id
 · rename_i hk;exact absurd (hnf _ (by rw[hk];exact .head _)) id
 · exact⟨b,a,rfl,h1,h2,h3,h4,hnf⟩
theorem eG.quiet {c c':cg} {b:Frame} {a:Act} {fr:Frame} (hst : ∀cs,Steps P (lone fr cs w) (lone (b.atR a (dR c'.todo)) cs w))
  (hnf : ∀x∈c'.todo,It.pl x) (h1:b.fn=c.f) (hf:c'.f=c.f) (h2:eA g c'.st.bZ b) (h3:Mk g c'.st.cJ a.defers) (h4:cA E g c'.st a w) (hm:c'.st.mem=c.st.mem) (hx:c'.st.fix=c.st.fix) (hr:c'.st.bZ=c.st.bZ:=by rfl):eG P E g c fr w c':=by
 intro cs
 exact⟨g,_,w,hst cs,dA.mk hnf (h1.trans hf.symm) h2 h3 h4,by rw[hm];exact dm.refl _ _ _,bO.refl _ _,hf,hx,hr⟩
theorem put_defers {a:Act} {d:Option Tmp} {v:Value}:(a.put d v).defers=a.defers:=by cases d<;>rfl
theorem R8 {st:St} {d:Option Tmp} {v:AV}:(Am.put st d v).cJ=st.cJ:=by cases d<;>rfl
theorem jj {st:St} {d:Option Tmp} {v:AV}:(Am.put st d v).bZ=st.bZ:=by cases d<;>rfl
theorem eA.put {g g':Gh} {w w':World} {st st':St} {b:Frame} {d:Option Tmp} {u:AV} (h:eA g st.bZ b) (e:Ext g w g' w') (hm:st'.bZ=st.bZ):eA g' (Am.put st' d u).bZ b:=by
 rw[jj,hm]
 exact h.ext fun i c q=>(e.bL i c q).1
theorem Mk.put {g g':Gh} {w w':World} {st st':St} {a:Act} {d:Option Tmp} {v:Value} {u:AV} (h:Mk g st.cJ a.defers) (e:Ext g w g' w') (hm:st'.cJ=st.cJ):Mk g' (Am.put st' d u).cJ (a.put d v).defers:=by
 rw[put_defers,R8,hm]
 exact h.ext fun i c q=>(e.bL i c q).1
theorem ve {a:Act} {o:Oper} {c:Call} {x:Operand} {f:FuncId} {fa ca:Array Value} (ho:o.op = .call c) (hc:c.callee = .value x) (hx:a.eval x = .func (.func f) fa ca)
  {fn:Func} (hf:P.funcs[f]? = some fn) (hb:fn.body.isSome=true) (hn:(fn.name == "runtime.NumGoroutine")=false) :
  (execOp a.eval o).run P w = .ok (.enter f (fa++c.args.map a.eval++ca)) w:=by
 have WW:fn.body.isNone=false:=by cases hq:fn.body<;>simp_all
 simp only[execOp,ho,resolve,hc,hx,xr,kh,kl,km,invoke,callFunc,run_program,hf,hn,pn,if_false,WW]
theorem EK {b:Frame} {a:Act} {k:List Item} {cs:List Frame} {w':World} {ops:Array Oper} {i:Nat} {rest:List Nat} {o:Oper} {l:Nat} {f:FuncId} {tmps:Array Value} {as bd:Code} (ho:ops[i]? = some o)
  (hw:xo o (yielded ops a.tmps)=true) (hr:(execOp a.eval o).run P w = .ok (.round l f tmps as bd) w') :
  _root_.Go.step P (lone (b.atR a (.inRegion ops (i::rest)::k)) cs w) = .next (lone (Frame.round l f tmps as bd .normal) (b.atR a (.inRegion ops (i::rest)::k)::cs) w'):=by
 have hg:=stepGR_op (P:=P) (b:=b) (k:=k) (cs:=cs) (w:=w) (rest:=rest) ho hw
 exact step_lone_go (by rw[hg,semAt_eq hr fun _ e=>by cases e];simp[stepG.apply,hr,yr])
theorem xS {a:Act} {o:Oper} {c:Call} {x:Operand} {l:Nat} (ho:o.op = .call c) (hc:c.callee = .value x) (hx:a.eval x = .func (.yield l) #[] #[]) {n:Next} {w':World}
  (hy:(Instr.yield l (c.args.map a.eval)).run P w = .ok n w'):(execOp a.eval o).run P w = .ok n w':=by
 simp only[execOp,ho,resolve,hc,hx,xr,kh,kl,km,invoke,callFunc,Ha]
 exact hy
theorem Kw {st:St} {a:Act} {b:Frame} {k:List Item} {ops:Array Oper} {i:Nat} {rest:List Nat} {o:Oper} {args:List AV} {v:AV} {m1:Mem}
  (hs:cA E g st a w) (hd:Mk g st.cJ a.defers) (hb:eA g st.bZ b) (ho:ops[i]? = some o) (hw:xo o (yielded ops a.tmps)=true) (ht:tU (ev E st.tm) o=some args)
  (hf:fits st o.dst=true) (hlt:iJ (close st.mem 0 args) st.mem.length=true)
  (fj:F8 P E (eE (idx (close st.mem 0 args)) args) (pack st.mem (close st.mem 0 args)) v m1) :
  ∀cs,∃g' a' w',Steps P (lone (b.atR a (.inRegion ops (i::rest)::k)) cs w) (lone (b.atR a' (.inRegion ops rest::k)) cs w') ∧
   Mk g' (back (close st.mem 0 args) o.dst st v m1).cJ a'.defers∧eA g' (back (close st.mem 0 args) o.dst st v m1).bZ b∧cA E g' (back (close st.mem 0 args) o.dst st v m1) a' w' ∧
   dm g st.mem w g' (back (close st.mem 0 args) o.dst st v m1).mem w'∧bO g g' st.fix∧(back (close st.mem 0 args) o.dst st v m1).fix=st.fix:=by
 intro cs
 have Em:=fV hs
 unfold tU at ht
 split at ht
 · rename_i call hop
   split at ht
   · rename_i x xT
     split at ht
     · rename_i bl hx
       simp only[dq] at ht
       subst ht
       have xN:=Em x
       rw[hx] at xN
       generalize hcx:a.eval x=cx at xN
       cases xN with
       |vy _ l hl=>
        have hin:bl∈close st.mem 0 (.vy bl::call.args.toList.map (ev E st.tm)):=by
         obtain⟨_,t,h2⟩:=dQ (gY (.vy bl::call.args.toList.map (ev E st.tm))) (upTo 0) (jJ 0)
         obtain⟨_,t',h4⟩:=lP st.mem (st.mem.length+1) (hJ (upTo 0) (gY (.vy bl::call.args.toList.map (ev E st.tm)))) 0 (dQ _ _ (jJ 0)).1
         unfold close
         rw[h4]
         refine Hc _ ?_
         show bl∈hJ [] (bl::gY (call.args.toList.map (ev E st.tm)))
         simp only[hJ,has,cond_false,Ps]
         obtain⟨_,t2,h5⟩:=dQ (gY (call.args.toList.map (ev E st.tm))) [bl] (by simp)
         rw[h5]
         exact Hc _ (by simp)
        have hargs:cY g w (call.args.toList.map (ev E st.tm)) (call.args.map a.eval).toList:=by
         rw[ik];exact gq Em _
        generalize hxs:call.args.toList.map (ev E st.tm)=xs at *
        obtain⟨hnd,_⟩:=eR st.mem 0 (.vy bl::xs)
        generalize close st.mem 0 (.vy bl::xs)=ord at *
        obtain⟨Kq,Kr⟩:=hs.rel.pack hnd
        have lQ:=dn.pack g ord
        obtain⟨j,hj1,hj2⟩:=List.getElem_of_mem hin
        have Wu:ord[j]? = some bl:=by rw[de hj1,hj2]
        have hidx:idx ord bl=some j:=oO hnd Wu
        have hra:eE (idx ord) (.vy bl::xs) = .vy j::eE (idx ord) xs:=by simp only[eE,Am.iI,hidx]
        have hbj:(g.pack ord).bL j=some l:=by simp[Gh.pack,Wu,hl]
        obtain⟨f,tmps,as,bd,w',g',cv,y,q1,q4,q5,q6,q7,q8⟩:=fj (g.pack ord) w j l (eE (idx ord) xs) (call.args.map a.eval) (b.atR a (.inRegion ops (i::rest)::k)) cs hra Kq hbj
         (cY.iI lQ hargs) (hs.dS.mono fun _ _ p=>⟨p,rfl⟩)
        have hlen:(Am.pack st.mem ord).length=ord.length:=by simp[Am.pack]
        rw[hlen] at q7 q8
        obtain⟨r1,r2,r3,r4⟩:=hs.rel.back hnd (fL hlt) q5 q6 q7 q8
        have hstep:=EK (b:=b) (k:=k) (cs:=cs) (rest:=rest) ho hw (xS hop xT hcx y)
        have m4:(b.atR a (.inRegion ops (i::rest)::k)).finish cv=b.atR (a.put o.dst cv) (.inRegion ops rest::k):=by rw[yo,ho];rfl
        rw[m4] at q1
        have m5:st.fix≤(dj (bC ord st.mem.length) ord m1 st.mem).length:=by
         rw[dW _ _ _ _ q8];have:=hs.fix;omega
        refine⟨_,a.put o.dst cv,w',.head hstep q1,hd.put (st':={st with mem:=_}) r2 rfl,hb.put (st':={st with mem:=_}) r2 rfl,hs.put hf (q4.iI r4) r2 r1 m5,?_,bO.qa r2 _,?_⟩
        · have:(back ord o.dst st v m1).mem=dj (bC ord st.mem.length) ord m1 st.mem:=by
           unfold back Am.put;cases o.dst<;>rfl
          rw[this];exact r3
        · unfold back Am.put;cases o.dst<;>rfl
     · cases ht
   · cases ht
 · cases ht
theorem HI {f:FuncId} (h:FU P f=true) (x:Value):(callFunc f #[x]).run P w = .ok (.value x) w:=by
 unfold FU at h
 split at h
 · rename_i fn hf
   simp only[dp] at h
   obtain⟨h1,h2,h3⟩:=h
   have h2:=of_decide_eq_true h2
   have h3:=of_decide_eq_true h3
   have hn:(fn.name == "runtime.NumGoroutine")=false:=by rw[h2];decide
   have q1:Extern.findNext fn=none:=by
    simp only[Extern.findNext,h2,h3]
    kernel_rfl
   have q2:Extern.find fn=some Extern.AbiNoEscape.same:=by
    simp only[Extern.find,h2,h3]
    kernel_rfl
   rw[run_callFunc_extern hf hn h1 q1 q2]
   rfl
 · cases h
theorem Cn {ρ:Operand→AV} {cz:Operand→Value} (hr : ∀x,VA g w (ρ x) (cz x)) {o:Oper} {v:AV} (h:J2 P ρ o=some v) : ∃cv,(execOp cz o).run P w = .ok (.value cv) w∧VA g w v cv:=by
 unfold J2 at h
 split at h
 · rename_i c ho
   split at h
   · rename_i f x hc ha
     have jR:c.args = #[x]:=by have:=congrArg vd ha;simpa using this
     split at h
     · rename_i q hq
       cases he:FU P q with
       |false=>rw[he] at h;cases h
       |true=>
        rw[he] at h
        simp only[cond_true,dq] at h
        subst h
        have hf:=hr f
        rw[hq,VA.fns] at hf
        obtain⟨fa,ca,hcf,q1,q2⟩:=hf
        have e1:fa = #[]:=by cases fa with | mk l=>cases l with | nil=>rfl | cons _ _=>exact q1.elim
        have e2:ca = #[]:=by cases ca with | mk l=>cases l with | nil=>rfl | cons _ _=>exact q2.elim
        subst e1;subst e2
        refine⟨cz x,?_,hr x⟩
        simp only[execOp,ho,resolve,hc,hcf,jR,xr,kh,kl,km,invoke,ui,uv,vb,Array.append_empty,Ha]
        exact HI he _
     · cases h
   · cases h
 · cases h
theorem Co {v:AV} {cv:Value} (h:yz v=true) (hv:VA g w v cv) : ∃t x,cv = .iface t x:=by
 cases hv with
 |mD t v cv h=>exact⟨t,cv,rfl⟩
 |p v cv h'=>cases h' with
  |mD t v cv h=>exact⟨t,cv,rfl⟩
  |_=>cases h
 |_=>cases h
theorem EL {b:Frame} {a:Act} {k:List Item} {cs:List Frame} {ops:Array Oper} {i:Nat} {rest:List Nat} {o:Oper} {v:Value} (ho:ops[i]? = some o) (hw:xo o (yielded ops a.tmps)=true)
  (hr:(o.semAt b.roundOf a.eval).run P w = .halt (.panic v) w) :
  _root_.Go.step P (lone (b.atR a (.inRegion ops (i::rest)::k)) cs w) = .next (lone {b.atR a (.inRegion ops (i::rest)::k) with mode:=cU (some v) false} cs w):=by
 have hg:=stepGR_op (P:=P) (b:=b) (k:=k) (cs:=cs) (w:=w) (rest:=rest) ho hw
 refine step_lone_go ?_
 rw[hg]
 simp[stepG.apply,hr,Frame.raise,yr,cU]
theorem m6 : ∀{l:List AV} {q:List (Nat×Nat)} {cs:List Value},yy l=some q→cY g w l cs→ZO g q cs
 |[],q,[],h,_=>by
  simp only[yy,dq] at h;subst h;trivial
 |.mp b off::l,q,cv::cs,h,hv=>by
  simp only[yy] at h
  split at h
  · rename_i l' hl
    simp only[dq] at h;subst h
    have h1:=hv.1
    cases h1 with
    |mp _ _ c hc=>exact⟨⟨c,hc,rfl⟩,m6 hl hv.2⟩
  · cases h
 |[],_,_::_,_,hv=>hv.elim
 |_::_,_,[],_,hv=>hv.elim
 |.aT::_,_,_::_,h,_ | .p _::_,_,_::_,h,_ | .os .. :: _,_,_::_,h,_ | .ms .. :: _,_,_::_,h,_ | .fn .. :: _,_,_::_,h,_ | .agg _::_,_,_::_,h,_ | .aK _::_,_,_::_,h,_
 |.mD .. :: _,_,_::_,h,_ | .vm _::_,_,_::_,h,_ | .vy _::_,_,_::_,h,_=>by cases h
theorem Kx {c:cg} {b:Frame} {a:Act} {k0:List It} {ops:Array Oper} {i bY:Nat} {o:Oper} (hs:cA E g c.st a w) (vf:b.fn=c.f) (hbk:eA g c.st.bZ b) (hd:Mk g c.st.cJ a.defers)
  (ho:ops[i]? = some o) (hw:xo o (yielded ops a.tmps)=true) (R9 : ∀x∈k0,It.pl x) :
  AJ P E g c (b.atR a (.inRegion ops (i::xb (i+1) (ops.size-(i+1)))::dR k0)) w (J3 E c o (.ops bY ops (i+1) false::k0)):=by
 have Em:=fV hs
 have throw : ∀(x:Operand),yz (ev E c.st.tm x)=true→(∀v,a.eval x=v→(∃t y,v = .iface t y)→(o.semAt b.roundOf a.eval).run P w = .halt (.panic v) w) →
   eG P E g c (b.atR a (.inRegion ops (i::xb (i+1) (ops.size-(i+1)))::dR k0)) w {c with todo:=[.gM (ev E c.st.tm x)]}:=by
  intro x hx hrun cs
  have hr:=hrun _ rfl (Co hx (Em x))
  exact⟨g,_,w,.one (EL ho hw hr),⟨b,a,_,a.eval x,rfl,vf,hbk,hd,hs,Em x⟩,dm.refl _ _ _,bO.refl _ _,rfl,rfl,rfl⟩
 unfold J3
 split
 · rename_i x hop
   cases hx:yz (ev E c.st.tm x) with
   |false=>trivial
   |true=>
    refine throw x hx fun v hv ⟨t,y,e⟩=> ?_
    have Sa:o.semAt b.roundOf a.eval=execOp a.eval o:=by unfold Oper.semAt;rw[hop];cases b.roundOf<;>rfl
    rw[Sa]
    subst hv
    simp only[execOp,hop,e,Instr.panic]
    rfl
 · rename_i d hop
   split
   · rename_i x hc ha
     have jR:d.args = #[x]:=by have:=congrArg vd ha;simpa using this
     cases hx:yz (ev E c.st.tm x) with
     |false=>trivial
     |true=>
      refine throw x hx fun v hv ⟨t,y,e⟩=> ?_
      have Sa:o.semAt b.roundOf a.eval=execOp a.eval o:=by unfold Oper.semAt;rw[hop];cases b.roundOf<;>rfl
      rw[Sa]
      subst hv
      simp only[execOp,hop,resolve,hc,jR,kh,kl,km,invoke,ui,uv,vb,e]
      rfl
   · trivial
 · rename_i d hop
   split
   · trivial
   · rename_i f hmk xT vg
     split
     · rename_i gf first captured hf
       split
       · rename_i l m hl hm
         intro hfit cs
         have hvf:=Em f
         rw[hf,VA.fns] at hvf
         obtain⟨fa,ca,hcf,Sb,hca⟩:=hvf
         have hro:=hbk.AH fun i e=>vg i e
         have hrun:(o.semAt b.roundOf a.eval).run P w = .ok (.defer {target:= .fn (.func gf) ca,args:=fa++d.args.map a.eval}) w:=by
          rw[hro]
          simp only[Oper.semAt,execOp,hop,resolve,xT,hcf,xr,kh,kl,km]
         have hargs:cY g w (first++d.args.toList.map (ev E c.st.tm)) (fa++d.args.map a.eval).toList:=by
          simp only[zt,ik]
          exact Sb.append (gq Em _)
         rw[hmk] at hd
         have hds:a.defers=[]:=by
          cases hq:a.defers with
          |nil=>rfl
          |cons _ _=>rw[hq] at hd;exact hd.elim
         have hstep:_root_.Go.step P (lone (b.atR a (.inRegion ops (i::xb (i+1) (ops.size-(i+1)))::dR k0)) cs w) =
          .next (lone (b.atR ({a with defers:=[{target:= .fn (.func gf) ca,args:=fa++d.args.map a.eval}]}.put o.dst undef) (.inRegion ops (xb (i+1) (ops.size-(i+1)))::dR k0)) cs w):=by
          have hg:=stepGR_op (P:=P) (b:=b) (k:=dR k0) (cs:=cs) (w:=w) (rest:=xb (i+1) (ops.size-(i+1))) ho hw
          have m4:({b.atR a (.inRegion ops (i::xb (i+1) (ops.size-(i+1)))::dR k0) with defers:={target:= .fn (.func gf) ca,args:=fa++d.args.map a.eval}::a.defers}:Frame).finish undef =
           b.atR ({a with defers:=[{target:= .fn (.func gf) ca,args:=fa++d.args.map a.eval}]}.put o.dst undef) (.inRegion ops (xb (i+1) (ops.size-(i+1)))::dR k0):=by
           have:=yo b {a with defers:=[{target:= .fn (.func gf) ca,args:=fa++d.args.map a.eval}]} ops i (xb (i+1) (ops.size-(i+1))) (dR k0) undef
           rw[ho] at this
           rw[hds]
           exact this
          refine step_lone_go ?_
          rw[hg]
          simp only[stepG.apply,Sem.runT_eq,hrun,GStep.bare_after]
          exact congrArg (fun fr=>GStep.go {frame:=fr,callers:=cs,status:= .running,dying:=none} w) m4
         have hs':cA E g {c.st with cJ:=[.late gf l m]} {a with defers:=[{target:= .fn (.func gf) ca,args:=fa++d.args.map a.eval}]} w:=⟨hs.tm,hs.nt,hs.rel,hs.fix,hs.dS⟩
         have hd':Mk g [.late gf l m] [{target:= .fn (.func gf) ca,args:=fa++d.args.map a.eval}]:=⟨⟨_,_,m6 hl hargs,m6 hm hca,rfl⟩,trivial⟩
         refine⟨g,_,w,.one hstep,dA.mk (c:={c with todo:= .ops bY ops (i+1) false::k0,st:=put {c.st with cJ:=[.late gf l m]} o.dst (.aK [])}) (nf trivial R9) vf
          (hbk.put (st:=c.st) (st':={c.st with cJ:=[.late gf l m]}) (Ext.refl g w) rfl)
          (Mk.put (st:={c.st with cJ:=[.late gf l m]}) (st':={c.st with cJ:=[.late gf l m]}) (a:={a with defers:=[{target:= .fn (.func gf) ca,args:=fa++d.args.map a.eval}]}) hd' (Ext.refl g w) rfl)
          (hs'.put (cv:=undef) (v:= .aK []) (m':=c.st.mem) hfit (VA.mA.2 trivial) (Ext.refl g w) hs.rel hs.fix),?_,bO.refl _ _,rfl,?_,jj⟩
         · have:(put {c.st with cJ:=[.late gf l m]} o.dst (.aK [])).mem=c.st.mem:=by unfold Am.put;cases o.dst<;>rfl
           show dm g c.st.mem w g (put {c.st with cJ:=[.late gf l m]} o.dst (.aK [])).mem w
           rw[this];exact dm.refl _ _ _
         · show(put {c.st with cJ:=[.late gf l m]} o.dst (.aK [])).fix=c.st.fix
           unfold Am.put;cases o.dst<;>rfl
       · trivial
     · trivial
   · trivial
 · trivial
theorem F9 {c:cg} {b:Frame} {a:Act} {k0:List It} {ops:Array Oper} {i bY:Nat} {o:Oper} (hs:cA E g c.st a w) (vf:b.fn=c.f) (hbk:eA g c.st.bZ b) (hd:Mk g c.st.cJ a.defers)
  (ho:ops[i]? = some o) (hw:xo o (yielded ops a.tmps)=true) (R9 : ∀x∈k0,It.pl x) :
  AJ P E g c (b.atR a (.inRegion ops (xb i (ops.size-i))::dR k0)) w (J4 P E c bY o (.ops bY ops (i+1) false::k0)):=by
 have hi:i<ops.size:=by
  rcases gg i ops.size with q | q
  · exact q
  · rw[zr q] at ho;cases ho
 rw[m0 hi]
 unfold J4
 have Em:=fV hs
 split
 · rename_i f args ht
   split
   · rename_i v aaf
     intro hok cs
     obtain⟨cv,k1,k2⟩:=Cn Em aaf
     have hstep:=qc (b:=b) (k:=dR k0) (cs:=cs) (rest:=xb (i+1) (ops.size-(i+1))) ho hw (.inl k1)
     refine⟨g,_,w,.one hstep,dA.mk (a:=a.put o.dst cv) (c:={c with todo:= .ops bY ops (i+1) false::k0,st:=put {c.st with mem:=c.st.mem} o.dst v}) (nf trivial R9) vf (hbk.put (st':={c.st with mem:=_}) (Ext.refl g w) rfl) (hd.put (st':={c.st with mem:=_}) (Ext.refl g w) rfl) (hs.put hok k2 (Ext.refl g w) hs.rel hs.fix),?_,bO.refl _ _,rfl,?_,jj⟩
     · have:(put c.st o.dst v).mem=c.st.mem:=(by unfold Am.put;cases o.dst<;>rfl)
       show dm g c.st.mem w g (put c.st o.dst v).mem w
       rw[this];exact dm.refl _ _ _
     · show(put c.st o.dst v).fix=c.st.fix
       unfold Am.put;cases o.dst<;>rfl
   cases hb:(fits c.st o.dst&&iJ (close c.st.mem 0 args) c.st.mem.length) with
   |false=>simp only[hb,cond_false];trivial
   |true=>
    simp only[hb,cond_true]
    simp only[dp] at hb
    unfold target at ht
    split at ht
    · rename_i call hop
      split at ht
      · rename_i x xT
        split at ht
        · rename_i f' first captured hx
          simp only[dq,kc] at ht
          obtain⟨rfl,rfl⟩:=ht
          have xN:=Em x
          rw[hx,VA.fns] at xN
          obtain⟨fa,ca,xN,Sb,hca⟩:=xN
          have hargs:cY g w (first++call.args.toList.map (ev E c.st.tm)++captured) (fa++call.args.map a.eval++ca).toList:=by
           simp only[zt,ik]
           exact(Sb.append (gq Em _)).append hca
          generalize first++call.args.toList.map (ev E c.st.tm)++captured=args at *
          obtain⟨hnd,_⟩:=eR c.st.mem 0 args
          generalize close c.st.mem 0 args=ord at *
          obtain⟨Kq,Kr⟩:=hs.rel.pack hnd
          have lQ:=dn.pack g ord
          have hlen:(Am.pack c.st.mem ord).length=ord.length:=by simp[Am.pack]
          constructor
          · intro v m1 fj cs
            obtain⟨⟨fn,Oh,Oi,Oj⟩,fj⟩:=fj
            have hrun:=ve (P:=P) (w:=w) hop xT xN Oh Oi Oj
            obtain⟨w',g',cv,fr,q1,q2,q3,q4,q5,q6,q7,q8⟩:=fj (g.pack ord) w (fa++call.args.map a.eval++ca) (b.atR a (.inRegion ops (i::xb (i+1) (ops.size-(i+1)))::dR k0)::cs) Kq
             (cY.iI lQ hargs) (hs.dS.mono fun _ _ p=>⟨p,rfl⟩)
            rw[hlen] at q7 q8
            obtain⟨r1,r2,r3,r4⟩:=hs.rel.back hnd (fL hb.2) q5 q6 q7 q8
            have hstep:=oP (b:=b) (k:=dR k0) (cs:=cs) (rest:=xb (i+1) (ops.size-(i+1))) ho hw hrun
            have hleave:=step_leave_returned (P:=P) (c:=b.atR a (.inRegion ops (i::xb (i+1) (ops.size-(i+1)))::dR k0)) (cs:=cs) q2
            have m4:(b.atR a (.inRegion ops (i::xb (i+1) (ops.size-(i+1)))::dR k0)).finish cv=b.atR (a.put o.dst cv) (.inRegion ops (xb (i+1) (ops.size-(i+1)))::dR k0):=by
             rw[yo,ho];rfl
            rw[m4] at hleave
            have m5:c.st.fix≤(dj (bC ord c.st.mem.length) ord m1 c.st.mem).length:=by
             rw[dW _ _ _ _ q8];have:=hs.fix;omega
            refine⟨_,_,w',.head hstep (q1.trans (.one hleave)),dA.mk (a:=a.put o.dst cv) (c:={c with todo:= .ops bY ops (i+1) false::k0,st:=back ord o.dst c.st v m1}) (nf trivial R9) vf (hbk.put (st':={c.st with mem:=_}) r2 rfl) (hd.put (st':={c.st with mem:=_}) r2 rfl) (hs.put hb.1 (q4.iI r4) r2 r1 m5),?_,bO.qa r2 _,rfl,?_,jj⟩
            · have:(back ord o.dst c.st v m1).mem=dj (bC ord c.st.mem.length) ord m1 c.st.mem:=by
               unfold back Am.put;cases o.dst<;>rfl
              show dm g c.st.mem w _ (back ord o.dst c.st v m1).mem w'
              rw[this];exact r3
            · show(back ord o.dst c.st v m1).fix=c.st.fix
              unfold back Am.put;cases o.dst<;>rfl
          · intro u m1 fj cs
            obtain⟨⟨fn,Oh,Oi,Oj⟩,fj⟩:=fj
            have hrun:=ve (P:=P) (w:=w) hop xT xN Oh Oi Oj
            obtain⟨w',g',cv,fr,q1,q2,q3,q4,q5,q6,q7,q8⟩:=fj (g.pack ord) w (fa++call.args.map a.eval++ca) (b.atR a (.inRegion ops (i::xb (i+1) (ops.size-(i+1)))::dR k0)::cs) Kq
             (cY.iI lQ hargs) (hs.dS.mono fun _ _ p=>⟨p,rfl⟩)
            rw[hlen] at q7 q8
            obtain⟨r1,r2,r3,r4⟩:=hs.rel.back hnd (fL hb.2) q5 q6 q7 q8
            have hstep:=oP (b:=b) (k:=dR k0) (cs:=cs) (rest:=xb (i+1) (ops.size-(i+1))) ho hw hrun
            have hleave:=step_leave_panicked (P:=P) (c:=b.atR a (.inRegion ops (i::xb (i+1) (ops.size-(i+1)))::dR k0)) (cs:=cs) q2
            have m5:c.st.fix≤(dj (bC ord c.st.mem.length) ord m1 c.st.mem).length:=by
             rw[dW _ _ _ _ q8];have:=hs.fix;omega
            refine⟨_,_,w',.head hstep (q1.trans (.one hleave)),⟨b,a,_,cv,rfl,vf,hbk.ext fun i c q=>(r2.bL i c q).1,hd.ext fun i c q=>(r2.bL i c q).1,⟨fun k=>(hs.tm k).mono r2,hs.nt,r1,m5,hs.dS.mono r2.pure⟩,q4.iI r4⟩,r3,bO.qa r2 _,rfl,rfl,rfl⟩
        · cases ht
      · cases ht
    · cases ht
 · dsimp only
   split
   · rename_i args ht
     cases hb:(fits c.st o.dst&&iJ (close c.st.mem 0 args) c.st.mem.length) with
     |false=>trivial
     |true=>
      simp only[cond_true]
      simp only[dp] at hb
      intro v m1 fj cs
      obtain⟨g',a',w',r1,r2,r3,r4,r5,r6,r7⟩:=Kw (P:=P) (k:=dR k0) (rest:=xb (i+1) (ops.size-(i+1))) hs hd hbk ho hw ht hb.1 hb.2 fj cs
      exact⟨g',_,w',r1,dA.mk (a:=a') (c:={c with todo:= .ops bY ops (i+1) false::k0,st:=back (close c.st.mem 0 args) o.dst c.st v m1}) (nf trivial R9) vf r3 r2 r4,r5,r6,rfl,r7,jj⟩
   · split
     · rename_i v us ok he
       intro hok cs
       simp only[dp] at hok
       obtain⟨rfl,hfit⟩:=hok
       have hres:Rel g (reserve o c.st.mem) w∧dm g c.st.mem w g (reserve o c.st.mem) w:=by
        unfold reserve
        cases makes o with
        |true=>exact hs.rel.reserve
        |false=>exact⟨hs.rel,dm.refl _ _ _⟩
       have hfree:makes o=true→(reserve o c.st.mem)[c.st.mem.length]? = some .free:=by
        intro hm
        simp[reserve,hm]
       obtain⟨cv,w',g',k1,k2,k3,k4,k5⟩:=nO hres.1 Em (fun _=>rfl) hfree he
       have hstep:=qc (b:=b) (k:=dR k0) (cs:=cs) (rest:=xb (i+1) (ops.size-(i+1))) ho hw k1
       have m5:c.st.fix≤(apply (reserve o c.st.mem) us).length:=by
        rw[eo]
        have:=hs.fix
        unfold reserve
        cases makes o<;>simp<;>omega
       refine⟨g',_,w',.one hstep,dA.mk (a:=a.put o.dst cv) (c:={c with todo:= .ops bY ops (i+1) false::k0,st:=put {c.st with mem:=apply (reserve o c.st.mem) us} o.dst v}) (nf trivial R9) vf (hbk.put (st':={c.st with mem:=_}) k4 rfl) (hd.put (st':={c.st with mem:=_}) k4 rfl) (hs.put hfit k2 k4 k3 m5),?_,bO.qa k4 _,rfl,?_,jj⟩
       · have:(put {c.st with mem:=apply (reserve o c.st.mem) us} o.dst v).mem=apply (reserve o c.st.mem) us:=by unfold Am.put;cases o.dst<;>rfl
         show dm g c.st.mem w _ (put {c.st with mem:=apply (reserve o c.st.mem) us} o.dst v).mem w'
         rw[this];exact hres.2.trans k5
       · show(put {c.st with mem:=apply (reserve o c.st.mem) us} o.dst v).fix=c.st.fix
         unfold Am.put;cases o.dst<;>rfl
     · exact Kx hs vf hbk hd ho hw R9
end
end Go.Am
end
section
namespace Go.Am
section
variable {P:Program} {E:Env}
theorem sG {ρ ρ':Operand→AV} : ∀{l:List Operand},(∀x∈l,ρ x=ρ' x)→sq ρ l=sq ρ' l
 |[],_=>rfl
 |x::r,h=>by simp only[sq,h x (.head _),sG fun y hy=>h y (.tail _ hy)]
theorem m7 {ρ ρ':Operand→AV} {x:Option Operand} (h : ∀y∈x,ρ y=ρ' y) (d:Nat):bound ρ x d=bound ρ' x d:=by
 cases x with
 |none=>rfl
 |some x=>simp only[bound,h x (by simp)]
theorem yR {rd:Nat→aN} {wr:Bool} {aV:Nat} {ρ ρ':Operand→AV} {o:Oper} (hq:gd o=true) (h : ∀x∈o.op.operands,ρ x=ρ' x):sv P rd wr aV ρ o=sv P rd wr aV ρ' o:=by
 have hsel : ∀cs b,o.op ≠ .select cs b:=by
  intro cs b e
  simp[gd,e] at hq
 have hsc:scalar P ρ o=scalar P ρ' o:=by
  unfold scalar
  rw[sG (ρ:=ρ) (ρ':=ρ') fun x hx=>h x (by simpa using hx),
   execOp_congr (ρ:=fun x=>(JA (ρ x)).getD undef) (ρ':=fun x=>(JA (ρ' x)).getD undef) o hsel fun x hx=>by rw[h x hx]]
 obtain⟨dst,op,type,pos,after,guard⟩:=o
 cases op<;>simp only[gd,pn] at hq<;>simp only[aaj] at h<;>simp only[sv]
 case move x=>rw[h x (by simp)]
 case assign x=>rw[h x (by simp)]
 case pick c a b=>rw[h c (by simp),h a (by simp),h b (by simp)]
 case build t ps=>
  have:ps.toList.map (fun q=>(q.1,ρ q.2))=ps.toList.map fun q=>(q.1,ρ' q.2):=
   Hd fun q hq=>by rw[h q.2 (by simp only[Pl,fi];exact⟨q,hq,rfl⟩)]
  rw[this]
 case load t a=>rw[h a (by simp)]
 case nilCheck x=>rw[h x (by simp)];simp only[jx,hsc]
 case binOp op t x y r=>rw[h x (by simp),h y (by simp)];simp only[pI,hsc]
 case unOp op t x=>rw[h x (by simp)];simp only[uq,hsc]
 case convert s d x=>rw[h x (by simp)];simp only[convertOp,hsc]
 case makeInterface t x=>rw[h x (by simp)]
 case makeFunc f first captured=>
  rw[Hd (l:=first.toList) fun x hx=>h x (by simp_all),Hd (l:=captured.toList) fun x hx=>h x (by simp_all)]
 case slice t x lo hi mx=>
  rw[h x (by simp)]
  have h1:=m7 (ρ:=ρ) (ρ':=ρ') (x:=lo) fun y hy=>h y (by simp_all)
  have h2:=m7 (ρ:=ρ) (ρ':=ρ') (x:=hi) fun y hy=>h y (by simp_all)
  have h3:=m7 (ρ:=ρ) (ρ':=ρ') (x:=mx) fun y hy=>h y (by simp_all)
  cases mx with
  |none=>
   simp only[nG,h1,h2]
   repeat' first | rfl | split
   all_goals simp_all
  |some m=>
   simp only[nG,h1,h2]
   repeat' first | rfl | split
   all_goals simp_all
 case fieldAddr t x f=>rw[h x (by simp)]
 case field t x f=>rw[h x (by simp)]
 case indexAddr t x i=>rw[h x (by simp),h i (by simp)]
 case index t x i=>rw[h x (by simp),h i (by simp)]
 case extract x i=>rw[h x (by simp)]
 case call c=>
  obtain⟨callee,args,tys⟩:=c
  cases callee with
  |value _=>simp at hq
  |invoke _ _=>simp at hq
  |builtin b=>
   simp only[Call.operands] at h
   obtain⟨args⟩:=args
   have hmm : ∀mn,jz P ρ ⟨dst,.call ⟨.builtin b,⟨args⟩,tys⟩,type,pos,after,guard⟩ mn args=jz P ρ' ⟨dst,.call ⟨.builtin b,⟨args⟩,tys⟩,type,pos,after,guard⟩ mn args:=by
    intro mn
    unfold jz
    rw[hsc,Hd (l:=args) fun x hx=>h x (by simp_all)]
   cases b<;>simp only[pn] at hq<;>simp only[hmm]
   cases args with
   |nil=>rfl
   |cons x r=>cases r with
    |nil=>simp only[h x (by simp)]
    |cons _ _=>rfl
theorem qd (st:St) (dst:Option Tmp) (v:AV) (t:Nat):look (put st dst v).tm t=if dst=some t then v else look st.tm t:=by
 cases dst with
 |none=>simp[put]
 |some d=>simp only[put,jt,dq]
theorem AK (st:St) (dst:Option Tmp) (v:AV):(put st dst v).mem=st.mem∧(put st dst v).nt=st.nt∧(put st dst v).fix=st.fix:=by
 cases dst<;>exact⟨rfl,rfl,rfl⟩
theorem lR {a b:List Nat} (h:meet a b=false) {i:Nat} (ha:i∈a) (hb:i∈b):False:=by
 simp only[meet,List.any_eq_false] at h
 have:=h i ha
 simp only[List.any_eq_true,not_exists,not_and] at this
 exact this i hb (tp i)
theorem Cp : ∀(l:List Oper) (acc:List Nat),∃M,masks acc l=acc++M∧M.length=l.length ∧ ∀i o,l[i]? = some o→M[i]? = some (oI (acc++M.take i) o)
 |[],acc=>⟨[],by simp[masks]⟩
 |o::r,acc=>by
  obtain⟨M,h1,h2,h3⟩:=Cp r (acc++[oI acc o])
  refine⟨oI acc o::M,by simp[masks,h1],by simp[h2],?_⟩
  intro i p hp
  cases i with
  |zero=>simp only[np,dq] at hp;subst hp;simp
  |succ i=>
   simp only[nz] at hp
   have:=h3 i p hp
   simpa using this
theorem EM {acc:List Nat} {o:Oper} {j:Nat} (h:da (oI acc o) j=true) : ∃e∈o.after,yi .any e=true∧(e.on=j∨da (acc.getD e.on 0) j=true):=by
 unfold oI at h
 have key : ∀(l:List Edge) (s:Nat),da (l.foldl (fun s e=>cond (yi .any e) (s|||(2 ^ e.on|||acc.getD e.on 0)) s) s) j=true →
   da s j=true ∨ ∃e∈l,yi .any e=true∧(e.on=j∨da (acc.getD e.on 0) j=true):=by
  intro l
  induction l with
  |nil=>intro s h;exact .inl h
  |cons e r ih=>
   intro s h
   simp only[List.foldl_cons] at h
   rcases ih _ h with h | ⟨e',he',q⟩
   · cases hb:yi .any e with
     |false=>rw[hb] at h;exact .inl h
     |true=>
      rw[hb] at h
      simp only[cond_true,Nat.testBit_or,j1] at h
      rcases h with h | h | h
      · exact .inl h
      · refine .inr ⟨e,.head _,hb,.inl ?_⟩
        rw[Nat.testBit_two_pow] at h
        exact of_decide_eq_true h
      · exact .inr ⟨e,.head _,hb,.inr h⟩
   · exact .inr ⟨e',.tail _ he',q⟩
 rcases key _ _ h with h | ⟨e,he,q⟩
 · simp at h
 · exact⟨e,by simpa using he,q⟩
theorem oq {q:Oper→Bool} {ops:Array Oper} {L:List Nat} : ∀{r mz:List Oper},jA q ops L mz.length mz r=true →
  ∀i o,(mz++r)[i]? = some o→mz.length≤i →
   q o=true∧(∀e∈o.after,yi .any e=true→e.on<i) ∧ ∀j p,j<i→(mz++r)[j]? = some p→oJ ops L i o j p=true
 |[],mz,_,i,o,ho,hi=>by
  simp only[Lk] at ho
  rw[ei hi] at ho;cases ho
 |q0::r,mz,h,i,o,ho,hi=>by
  simp only[jA,dp] at h
  obtain⟨⟨⟨h1,h2⟩,h3⟩,h4⟩:=h
  by_cases hc:i=mz.length
  · subst hc
    have:o=q0:=by simpa using ho.symm
    subst this
    refine⟨h1,?_,?_⟩
    · intro e he hb
      have:=ba.1 h2 e (by simpa using he)
      simp only[hb,xv,pt] at this
      rwa [Nat.blt_eq] at this
    · intro j p hj hp
      have key : ∀(l:List Oper) (k:Nat),tW ops L mz.length o k l=true → ∀m p,l[m]? = some p→oJ ops L mz.length o (k+m) p=true:=by
       intro l
       induction l with
       |nil=>intro k _ m p hp;simp at hp
       |cons x l ih=>
        intro k hk m p hp
        simp only[tW,dp] at hk
        cases m with
        |zero=>simp only[np,dq] at hp;subst hp;exact hk.1
        |succ m=>
         simp only[nz] at hp
         have:=ih (k+1) hk.2 m p hp
         rwa [gn,aag 1 m] at this
      have hp':mz[j]? = some p:=by rwa [o6 hj] at hp
      simpa using key mz 0 h3 j p hp'
  · have h4':jA q ops L (mz++[q0]).length (mz++[q0]) r=true:=by simpa using h4
    have:=oq h4' i o (by simpa using ho) (by simp;omega)
    simpa using this
def Rp (P:Program) (E:Env) (rd:Nat→aN) (wr:Bool) (aV:Nat) (ops:Array Oper) (st:St) (o:Oper) (v:AV):Prop:=
 ((ec ops st.tm o = .yes ∨ ∃d b want,ec ops st.tm o = .ask d b want∧(b==want)=true)∧sv P rd wr aV (ev E st.tm) o=some (v,[],true)) ∨
 ((ec ops st.tm o = .no ∨ ∃d b want,ec ops st.tm o = .ask d b want∧(b==want)=false)∧v = .aK [])
inductive AL (P:Program) (E:Env) (rd:Nat→aN) (wr:Bool) (aV:Nat) (ops:Array Oper):List Oper→St→List AV→St→Prop
 |nil (st:St):AL P E rd wr aV ops [] st [] st
 |cons (o:Oper) (r:List Oper) (st:St) (v:AV) (vs:List AV) (st':St) (hf:fits st o.dst=true) (h:Rp P E rd wr aV ops st o v)
   (hr:AL P E rd wr aV ops r (put st o.dst v) vs st'):AL P E rd wr aV ops (o::r) st (v::vs) st'
theorem m8 {rd:Nat→aN} {wr:Bool} {aV:Nat} {ops:Array Oper} : ∀{l:List Oper} {st st':St},j7 P E rd wr aV ops l st=some (st',true) → ∃vs,AL P E rd wr aV ops l st vs st'
 |[],st,st',h=>by
  simp only[j7,dq,kc,and_true] at h
  subst h
  exact⟨[],.nil st⟩
 |o::r,st,st',h=>by
  have skip:(match j7 P E rd wr aV ops r (put st o.dst (.aK [])) with
   |some (st',ok)=>some (st',fits st o.dst&&ok)
   |none=>none)=some (st',true)→fits st o.dst=true ∧ ∃vs,AL P E rd wr aV ops r (put st o.dst (.aK [])) vs st':=by
   intro h
   split at h
   · rename_i Ol ok hq
     simp only[dq,kc,dp] at h
     obtain⟨rfl,h1,rfl⟩:=h
     exact⟨h1,m8 hq⟩
   · cases h
  have pJ:(match sv P rd wr aV (ev E st.tm) o with
   |some (v,[],ok)=>match j7 P E rd wr aV ops r (put st o.dst v) with
    |some (st',ok')=>some (st',ok&&(fits st o.dst&&ok'))
    |none=>none
   |_=>none)=some (st',true) → ∃v,sv P rd wr aV (ev E st.tm) o=some (v,[],true)∧fits st o.dst=true ∧ ∃vs,AL P E rd wr aV ops r (put st o.dst v) vs st':=by
   intro h
   split at h
   · rename_i v ok hop
     split at h
     · rename_i Ol ok' hq
       simp only[dq,kc,dp] at h
       obtain⟨rfl,rfl,h1,rfl⟩:=h
       exact⟨v,hop,h1,m8 hq⟩
     · cases h
   · cases h
  unfold j7 at h
  dsimp only at h
  cases hw:ec ops st.tm o with
  |yes=>
   rw[hw] at h
   obtain⟨v,h1,h2,vs,h3⟩:=pJ h
   exact⟨v::vs,.cons o r st v vs st' h2 (.inl ⟨.inl hw,h1⟩) h3⟩
  |no=>
   rw[hw] at h
   obtain⟨h2,vs,h3⟩:=skip h
   exact⟨.aK []::vs,.cons o r st _ vs st' h2 (.inr ⟨.inl hw,rfl⟩) h3⟩
  |lost=>rw[hw] at h;cases h
  |ask d b want=>
   rw[hw] at h
   dsimp only at h
   cases hb:b==want with
   |true=>
    rw[hb] at h
    obtain⟨v,h1,h2,vs,h3⟩:=pJ h
    exact⟨v::vs,.cons o r st v vs st' h2 (.inl ⟨.inr ⟨d,b,want,hw,hb⟩,h1⟩) h3⟩
   |false=>
    rw[hb] at h
    obtain⟨h2,vs,h3⟩:=skip h
    exact⟨.aK []::vs,.cons o r st _ vs st' h2 (.inr ⟨.inr ⟨d,b,want,hw,hb⟩,rfl⟩) h3⟩
def Cq (l:List Oper):Prop:= ∀(i j:Nat) (p q:Oper) (t:Tmp),i<j→l[i]? = some p→l[j]? = some q→p.dst=some t→q.dst≠some t
def dI (l:List Oper) (vs:List AV) (st:St) (i:Nat) (iC:St):Prop:=
 iC.mem=st.mem∧iC.nt=st.nt∧iC.fix=st.fix∧(∀j p v t,j<i→l[j]? = some p→vs[j]? = some v→p.dst=some t→look iC.tm t=v) ∧
 (∀t,(∀j p,j<i→l[j]? = some p→p.dst≠some t)→look iC.tm t=look st.tm t)
theorem dI.cons {o:Oper} {r:List Oper} {v:AV} {vs:List AV} {st iC:St} {i:Nat} (hu:Cq (o::r)) (h:dI r vs (put st o.dst v) i iC):dI (o::r) (v::vs) st (i+1) iC:=by
 obtain⟨h1,h2,h3,h4,h5⟩:=h
 obtain⟨q1,q2,q3⟩:=AK st o.dst v
 refine⟨h1.trans q1,h2.trans q2,h3.trans q3,?_,?_⟩
 · intro j p w t hj hp hw ht
   cases j with
   |zero=>
    simp only[np,dq] at hp hw
    subst hp;subst hw
    rw[h5 t fun j p _ hp=>hu 0 (j+1) o p t (by omega) rfl (by simpa using hp) ht,qd,if_pos ht]
   |succ j=>exact h4 j p w t (by omega) (by simpa using hp) (by simpa using hw) ht
 · intro t ht
   rw[h5 t fun j p hj hp=>ht (j+1) p (by omega) (by simpa using hp),qd,if_neg (ht 0 o (by omega) rfl)]
theorem AL.spec {rd:Nat→aN} {wr:Bool} {aV:Nat} {ops:Array Oper} {l:List Oper} {st st':St} {vs:List AV} (h:AL P E rd wr aV ops l st vs st') (hu:Cq l) :
  vs.length=l.length∧dI l vs st l.length st' ∧ ∀i o,l[i]? = some o → ∃v iC,vs[i]? = some v∧Rp P E rd wr aV ops iC o v∧fits iC o.dst=true∧dI l vs st i iC:=by
 induction h with
 |nil st=>exact⟨rfl,⟨rfl,rfl,rfl,fun j _ _ _ hj=>absurd hj (tz _),fun _ _=>rfl⟩,fun i o ho=>by simp at ho⟩
 |cons o r st v vs st' hf hk hr ih=>
  have NQ:Cq r:=fun i j p q t hij hp hq=>hu (i+1) (j+1) p q t (by omega) (by simpa using hp) (by simpa using hq)
  obtain⟨h1,h2,h3⟩:=ih NQ
  refine⟨by simp[h1],h2.cons hu,?_⟩
  intro i p hp
  cases i with
  |zero=>
   simp only[np,dq] at hp
   subst hp
   exact⟨v,st,rfl,hk,hf,rfl,rfl,rfl,fun j _ _ _ hj=>absurd hj (tz _),fun _ _=>rfl⟩
  |succ i=>
   obtain⟨w,iC,q1,q2,q3,q4⟩:=h3 i p (by simpa using hp)
   exact⟨w,iC,by simpa using q1,q2,q3,q4.cons hu⟩
structure mB (ops:Array Oper) (L:List Nat) (vs:List AV) (gi eu:St) (S:Array Bool):Prop where
 size:S.size=ops.size
 mem:eu.mem=gi.mem
 nt:eu.nt=gi.nt
 fix:eu.fix=gi.fix
 a : ∀(j:Nat) (p:Oper) (v:AV) (t:Tmp),S.getD j false=true→ops.toList[j]? = some p→vs[j]? = some v→p.dst=some t→look eu.tm t=v
 b : ∀t:Tmp,(∀(j:Nat) (p:Oper),S.getD j false=true→ops.toList[j]? = some p→p.dst≠some t)→look eu.tm t=look gi.tm t
 cl : ∀i j:Nat,S.getD i false=true→da (L.getD i 0) j=true→S.getD j false=true
structure tG (ops:Array Oper) (L:List Nat):Prop where
 mask : ∀i o,ops.toList[i]? = some o→L[i]? = some (oI (L.take i) o)
 low : ∀(i:Nat) o,ops.toList[i]? = some o → ∀e∈o.after,yi .any e=true→e.on<i
 pair : ∀(i:Nat) o,ops.toList[i]? = some o → ∀j p,j<i→ops.toList[j]? = some p→oJ ops L i o j p=true
theorem tG.of {q:Oper→Bool} {ops:Array Oper} (h:jA q ops (masks [] ops.toList) 0 [] ops.toList=true):tG ops (masks [] ops.toList) ∧ ∀(i:Nat) o,ops.toList[i]? = some o→q o=true:=by
 obtain⟨M,h1,_,h3⟩:=Cp ops.toList []
 simp only[Ps] at h1 h3
 rw[h1] at h ⊢
 have hs:=fun i o ho=>oq (mz:=[]) h i o ho (aai _)
 exact⟨⟨h3,fun i o ho=>(hs i o ho).2.1,fun i o ho=>(hs i o ho).2.2⟩,fun i o ho=>(hs i o ho).1⟩
theorem tG.uniq {ops:Array Oper} {L:List Nat} (h:tG ops L):Cq ops.toList:=by
 intro i j p q t hij hp hq ht ht'
 have:=h.pair j q hq i p hij hp
 simp only[oJ,dp,j2] at this
 exact lR this.1 (i:=t) (by simp[ht']) (by simp[ht])
theorem kR {S:Array Bool} {j:Nat} (h:j<S.size) (d d':Bool):S.getD j d=S.getD j d':=by
 simp[xi,hZ h]
theorem Om {S:Array Bool} {j:Nat} (h:S.getD j false=true):j<S.size:=by
 rcases gg j S.size with q | q
 · exact q
 · rw[xi,zr q] at h;cases h
section
variable {ops:Array Oper} {L:List Nat} {vs:List AV} {gi eu iC:St} {S:Array Bool}
theorem mB.ahead (hI:mB ops L vs gi eu S) (hO:tG ops L) {i:Nat} (hi:i∈yb .any ops S) {j:Nat} (hb:da (L.getD i 0) j=true):S.getD j false=true:=by
 obtain⟨_,o,ho,hr⟩:=mem_ready.1 hi
 have ho':ops.toList[i]? = some o:=by simpa using ho
 have hm:=hO.mask i o ho'
 rw[di,hm,Option.getD_some] at hb
 obtain⟨e,he,xu,h⟩:=EM hb
 rcases h with h | h
 · exact h▸hr e he xu
 · have hlt:=hO.low i o ho' e he xu
   refine hI.cl e.on j (hr e he xu) ?_
   rw[di,du,if_pos hlt,←di] at h
   exact h
theorem mB.slots (hI:mB ops L vs gi eu S) (hO:tG ops L) {i:Nat} {o:Oper} (ho:ops.toList[i]? = some o) (hi:i∈yb .any ops S) (hl:vs.length=ops.toList.length) (EO:dI ops.toList vs gi i iC)
  {t:Tmp} (ht:t∈Am.slots ops o):look eu.tm t=look iC.tm t:=by
 obtain⟨_,_,_,hA,hB⟩:=EO
 have hu:=hO.uniq
 have hni:S.getD i false=false:=by
  obtain⟨h,_⟩:=mem_ready.1 hi
  cases hq:S.getD i false with
  |false=>rfl
  |true=>rw[kR (Om hq) false true,h] at hq;cases hq
 by_cases hw : ∃(j:Nat) (p:Oper),ops.toList[j]? = some p∧p.dst=some t
 · obtain⟨j,p,hp,hd⟩:=hw
   have only : ∀(k:Nat) (q:Oper),ops.toList[k]? = some q→q.dst=some t→k=j:=by
    intro k q hq NR
    rcases PQ k j with h | h | h
    · exact absurd hd (hu k j q p t h hq hp NR)
    · exact h
    · exact absurd NR (hu j k p q t h hp hq hd)
   rcases PQ j i with h | h | h
   · have Cr:=hO.pair i o ho j p h hp
     simp only[oJ,dp,j1,j2] at Cr
     have Sd:da (L.getD i 0) j=true:=by
      rcases Cr.2 with q | q
      · exact q
      · exact(lR q.1 (i:=t) (by simp[hd]) ht).elim
     have hS:=hI.ahead hO hi Sd
     have Ke : ∃v,vs[j]? = some v:=by
      have:j<vs.length:=by rw[hl];exact(ee.1 hp).1
      exact⟨vs[j],de this⟩
     obtain⟨v,hv⟩:=Ke
     rw[hI.a j p v t hS hp hv hd,hA j p v t h hp hv hd]
   · subst h
     rw[hI.b t,hB t]
     · intro k q hk hq NR
       have:=only k q hq NR
       omega
     · intro k q hk hq NR
       have:=only k q hq NR
       subst this
       rw[hni] at hk;cases hk
   · have Cr:=hO.pair j p hp i o h ho
     simp only[oJ,dp,j1,j2] at Cr
     have Sd:da (L.getD j 0) i=true:=by
      rcases Cr.2 with q | q
      · exact q
      · exact(lR q.2 (i:=t) (by simp[hd]) ht).elim
     rw[hI.b t,hB t]
     · intro k q hk hq NR
       have:=only k q hq NR
       omega
     · intro k q hk hq NR
       have:=only k q hq NR
       subst this
       have:=hI.cl k i hk Sd
       rw[hni] at this;cases this
 · have hno : ∀(k:Nat) (q:Oper),ops.toList[k]? = some q→q.dst≠some t:=fun k q hq hd=>hw ⟨k,q,hq,hd⟩
   rw[hI.b t fun k q _ hq=>hno k q hq,hB t fun k q _ hq=>hno k q hq]
theorem mB.step (hI:mB ops L vs gi eu S) (hO:tG ops L) {i:Nat} {o:Oper} {v:AV} (ho:ops.toList[i]? = some o) (hv:vs[i]? = some v) (hi:i∈yb .any ops S) :
  mB ops L vs gi (put eu o.dst v) (S.setIfInBounds i true):=by
 obtain⟨q1,q2,q3⟩:=AK eu o.dst v
 have hu:=hO.uniq
 have xH : ∀j,(S.setIfInBounds i true).getD j false=true→j=i∨S.getD j false=true:=by
  intro j hj
  by_cases h:i=j
  · exact .inl h.symm
  · rw[getD_set_ne false h] at hj;exact .inr hj
 have ZP : ∀j,S.getD j false=true→(S.setIfInBounds i true).getD j false=true:=fun j hj=>getD_set_true hj
 refine⟨by simp[hI.size],q1.trans hI.mem,q2.trans hI.nt,q3.trans hI.fix,?_,?_,?_⟩
 · intro j p w t hj hp hw hd
   rw[qd]
   by_cases hji:j=i
   · subst hji
     rw[ho] at hp;cases hp
     rw[hv] at hw;cases hw
     rw[if_pos hd]
   · have hne:o.dst≠some t:=by
      rcases Nat.lt_or_gt_of_ne hji with h | h
      · exact hu j i p o t h hp ho hd
      · exact fun hod=>hu i j o p t h ho hp hod hd
     rw[if_neg hne]
     rcases xH j hj with h | h
     · exact absurd h hji
     · exact hI.a j p w t h hp hw hd
 · intro t ht
   have uF:i<S.size:=by rw[hI.size];have:=(ee.1 ho).1;simpa using this
   have hne:o.dst≠some t:=ht i o (by simp[xi,uF]) ho
   rw[qd,if_neg hne]
   exact hI.b t fun j p hj hp=>ht j p (ZP j hj) hp
 · intro k j hk hb
   rcases xH k hk with h | h
   · subst h;exact ZP j (hI.ahead hO hi hb)
   · exact ZP j (hI.cl k j h hb)
theorem mB.all (hI:mB ops L vs gi eu S) (hO:tG ops L) (hr:yb .any ops S=[]) : ∀i,i<ops.size→S.getD i false=true:=by
 intro i
 induction i using QR with
 |ind i ih=>
  intro hi
  have ho:ops[i]? = some ops[i]:=hZ hi
  have ho':ops.toList[i]? = some ops[i]:=by simp[hi]
  cases hq:S.getD i false with
  |true=>rfl
  |false=>
   have:i∈yb .any ops S:=mem_ready.2 ⟨by rw[kR (by rw[hI.size];exact hi) true false];exact hq,ops[i],ho,fun e he hb=>ih e.on (hO.low i _ ho' e he hb) (by have:=hO.low i _ ho' e he hb;omega)⟩
   rw[hr] at this;cases this
theorem mB.ends (hI:mB ops L vs gi eu S) (hl:vs.length=ops.toList.length) {st':St} (hst:dI ops.toList vs gi ops.toList.length st') (hall : ∀i,i<ops.size→S.getD i false=true) :
  eu.mem=st'.mem∧eu.nt=st'.nt∧eu.fix=st'.fix ∧ ∀t,look eu.tm t=look st'.tm t:=by
 obtain⟨h1,h2,h3,hA,hB⟩:=hst
 refine⟨hI.mem.trans h1.symm,hI.nt.trans h2.symm,hI.fix.trans h3.symm,fun t=> ?_⟩
 by_cases hw : ∃(j:Nat) (p:Oper),ops.toList[j]? = some p∧p.dst=some t
 · obtain⟨j,p,hp,hd⟩:=hw
   have hjl:=(ee.1 hp).1
   have Ke:vs[j]? = some vs[j]:=de (by rw[hl];exact hjl)
   rw[hI.a j p _ t (hall j (by simpa using hjl)) hp Ke hd,hA j p _ t hjl hp Ke hd]
 · rw[hI.b t fun k q _ hq hd=>hw ⟨k,q,hq,hd⟩,hB t fun k q _ hq hd=>hw ⟨k,q,hq,hd⟩]
end
theorem cA.same {g:Gh} {w:World} {st st':St} {a:Act} (h:cA E g st a w) (h1:st.mem=st'.mem) (h2:st.nt=st'.nt) (h3:st.fix=st'.fix) (h4 : ∀t,look st.tm t=look st'.tm t):cA E g st' a w:=
 ⟨fun k=>h4 k▸h.tm k,h2▸h.nt,h1▸h.rel,by rw[←h1,←h3];exact h.fix,h.dS⟩
theorem sH {ops:Array Oper} {tm WX:qK} {o:Oper} (h : ∀t∈slots ops o,look tm t=look WX t):ec ops tm o=ec ops WX o:=by
 unfold ec
 unfold slots at h
 cases hg:o.guard with
 |none=>rfl
 |some q=>
  obtain⟨j,want⟩:=q
  simp only[hg] at h
  dsimp only
  cases hj:ops[j]? with
  |none=>rfl
  |some oj=>
   simp only[hj] at h
   dsimp only
   cases hd:oj.dst with
   |none=>rfl
   |some d=>simp only[h d (by simp[hd])]
theorem Cs {tm WX:qK} {ops:Array Oper} {o:Oper} (h : ∀t∈slots ops o,look tm t=look WX t) : ∀x∈o.op.operands,ev E tm x=ev E WX x:=by
 intro x hx
 cases x with
 |tmp t=>exact h t (Hb _ (List.mem_filterMap.2 ⟨.tmp t,by simpa using hx,rfl⟩))
 |_=>rfl
theorem HJ {b:Frame} {k:List Item} {ops:Array Oper} {L:List Nat} {vs:List AV} {gi st':St} {wr:Bool} {aV:Nat} (hO:tG ops L) (hQ : ∀(i:Nat) o,ops.toList[i]? = some o→gd o=true) (hn:gi.mem[aV]? = some .free)
  (hrun:AL P E (fun i=>gi.mem.getD i .dead) wr aV ops ops.toList gi vs st') : ∀(fuel t:Nat) (S:Array Bool) (eu:St) (a:Act) (g:Gh) (w:World) (u:List Nat),
    mB ops L vs gi eu S→cA E g eu a w→u.length=fuel→(∀i,i<ops.size→S.getD i false=false→i∈u) →
    ∃g' a' w',(∀cs,Steps P (lone (b.atR a (.inRegion ops (aal .any ops fuel t S [])::k)) cs w) (lone (b.atR a' (.inRegion ops []::k)) cs w'))∧a'.defers=a.defers∧cA E g' st' a' w' ∧
     dm g gi.mem w g' gi.mem w'∧bO g g' gi.fix ∧ ∀i c,g.bL i=some c→g'.bL i=some c:=by
 obtain⟨hl,hend,hspec⟩:=hrun.spec hO.uniq
 intro fuel
 induction fuel with
 |zero=>
  intro t S eu a g w u hI hs Se hu
  have hall : ∀i,i<ops.size→S.getD i false=true:=by
   intro i hi
   cases hq:S.getD i false with
   |true=>rfl
   |false=>
    have:=hu i hi hq
    rw[H4 Se] at this;cases this
  obtain⟨e1,e2,e3,e4⟩:=hI.ends hl hend hall
  exact⟨g,a,w,fun cs=>aan _ _,rfl,hs.same e1 e2 e3 e4,dm.refl _ _ _,bO.refl _ _,fun _ _ h=>h⟩
 |succ fuel ih=>
  intro t S eu a g w u hI hs Se hu
  simp only[aal]
  show ∃g' a' w',(∀cs,Steps P (lone (b.atR a (.inRegion ops (match(yb .any ops S)[t%(yb .any ops S).length]? with
   |some i=>aal .any ops fuel (t / (yb .any ops S).length) (S.setIfInBounds i true) [i]
   |none=>[].reverse)::k)) cs w) (lone (b.atR a' (.inRegion ops []::k)) cs w'))∧_
  cases hi:(yb .any ops S)[t%(yb .any ops S).length]? with
  |none=>
   have Ky:yb .any ops S=[]:=by
    cases hr:yb .any ops S with
    |nil=>rfl
    |cons x xs=>
     rw[hr] at hi
     have hlt:t%(x::xs).length<(x::xs).length:=rb _ (by simp)
     rw[de hlt] at hi;cases hi
   obtain⟨e1,e2,e3,e4⟩:=hI.ends hl hend (hI.all hO Ky)
   exact⟨g,a,w,fun cs=>aan _ _,rfl,hs.same e1 e2 e3 e4,dm.refl _ _ _,bO.refl _ _,fun _ _ h=>h⟩
  |some i=>
   have On:=oi hi
   obtain⟨hSi,o,ho,_⟩:=mem_ready.1 On
   have ho':ops.toList[i]? = some o:=by simpa using ho
   obtain⟨v,iC,hv,hk,hf,EO⟩:=hspec i o ho'
   have vh : ∀t∈slots ops o,look eu.tm t=look iC.tm t:=fun t ht=>hI.slots hO ho' On hl EO ht
   have hilt:i<ops.size:=(zd.1 ho).1
   have Kz:i∈u:=hu i hilt (by rw[kR (by rw[hI.size];exact hilt) false true];exact hSi)
   have NQ : ∀j,j<ops.size→(S.setIfInBounds i true).getD j false=false→j∈u.erase i:=by
    intro j hj hq
    have hne:j≠i:=by
     intro e
     subst e
     rw[show(S.setIfInBounds j true).getD j false=true by simp[xi,hI.size,hj]] at hq
     cases hq
    rw[getD_set_ne false (fun e=>hne e.symm)] at hq
    exact(M2 hne).2 (hu j hj hq)
   have Oo:(u.erase i).length=fuel:=by rw[H5 Kz,Se];rfl
   have ZQ:=hI.step hO ho' hv On
   have ZR:fits eu o.dst=true:=by
    have:fits eu o.dst=fits iC o.dst:=by unfold fits;rw[hI.nt,EO.2.1]
    rw[this];exact hf
   dsimp only
   rw[linearise_go_acc,Hn,H0]
   have Ei:=sH vh
   obtain⟨w1,w2,w3⟩:=nP hs (ops:=ops) (o:=o)
   rcases hk with⟨hw,hop⟩ | ⟨hw,rfl⟩
   · have iD:xo o (yielded ops a.tmps)=true:=by
      rcases hw with hw | ⟨d,b',want,hw,hb⟩
      · exact w1 (Ei.trans hw)
      · rw[(w3 d b' want (Ei.trans hw)).1];exact hb
     have aah:sv P (fun i=>eu.mem.getD i .dead) wr aV (ev E eu.tm) o=some (v,[],true):=by
      rw[hI.mem,yR (hQ i o ho') (Cs vh)];exact hop
     obtain⟨cv,w',g',k1,k2,k3,k4,k5⟩:=nO hs.rel (fV hs) (fun _=>rfl) (fun _=>by rw[hI.mem];exact hn) aah
     have hs':=hs.put ZR k2 k4 k3 hs.fix
     obtain⟨g2,a2,w2',r1,r2,r3,r4,r5,r6⟩:=ih (t / (yb .any ops S).length) _ _ _ _ _ _ ZQ hs' Oo NQ
     refine⟨g2,a2,w2',fun cs=> .head (qc ho iD k1) (r1 cs),r2.trans put_defers,r3,?_,(bO.qa k4 _).trans r5,fun i c q=>r6 i c (k4.bL i c q).1⟩
     have k5':dm g gi.mem w g' gi.mem w':=by rw[←hI.mem];exact k5
     exact k5'.trans r4
   · have iD:xo o (yielded ops a.tmps)=false:=by
      rcases hw with hw | ⟨d,b',want,hw,hb⟩
      · exact w2 (Ei.trans hw)
      · rw[(w3 d b' want (Ei.trans hw)).1];exact hb
     have hs':=hs.put (v:= .aK []) (cv:=undef) ZR (VA.mA.2 trivial) (Ext.refl g w) hs.rel hs.fix
     obtain⟨g2,a2,w2',r1,r2,r3,r4,r5,r6⟩:=ih (t / (yb .any ops S).length) _ _ _ _ _ _ ZQ hs' Oo NQ
     refine⟨g2,a2,w2',fun cs=> .head ?_ (r1 cs),r2.trans put_defers,r3,r4,r5,r6⟩
     have hst:=stepR_op_skip (P:=P) (b:=b) (a:=a) (k:=k) (cs:=cs) (w:=w) (ops:=ops) (i:=i) (rest:=aal .any ops fuel (t / (yb .any ops S).length) (S.setIfInBounds i true) []) (by simp[ho,iD])
     simpa only[ho,tc] using hst
theorem cA.drew {g:Gh} {w:World} {st:St} {a:Act} (h:cA E g st a w) (n:Nat):cA E g st a {w with drawn:=n}:=by
 have he:Ext g w g {w with drawn:=n}:=⟨fun _ _ e=>⟨e,rfl,rfl⟩,fun _ _ e=>⟨e,rfl⟩⟩
 refine⟨fun k=>(h.tm k).mono he,h.nt,(h.rel.jD (w':={w with drawn:=n}) rfl rfl rfl rfl).1,h.fix,h.dS.mono he.pure⟩
theorem Oq {g:Gh} {w:World} {b:Frame} {a:Act} {k:List Item} {ops:Array Oper} {f bY:Nat} {st st':St} (hs:cA E g st a w) (h:uz P E f bY ops st=some (st',true)) :
  ∃g' a' w',(∀cs,Steps P (lone (b.atR a (.code (.region bY ops true)::k)) cs w) (lone (b.atR a' k) cs w'))∧a'.defers=a.defers∧cA E g' st' a' w' ∧
   dm g st.mem w g' st'.mem w'∧bO g g' st.fix∧st'.fix=st.fix ∧ ∀i c,g.bL i=some c→g'.bL i=some c:=by
 unfold uz at h
 dsimp only at h
 split at h
 · rename_i Ol ok hq
   cases KA:(ops.toList.all gd&&J5 E f ops) with
   |false=>rw[KA] at hq;cases hq
   |true=>
   rw[KA] at hq
   simp only[cond_true] at hq
   have hall:ops.toList.all gd=true:=(dp _ _▸KA).1
   simp only[dq,kc,dp] at h
   obtain⟨rfl,rfl,KB,Sf⟩:=h
   obtain⟨vs,hrun⟩:=m8 hq
   obtain⟨hO,hQ⟩:=tG.of KB
   obtain⟨Sg,Wv⟩:=hs.rel.reserve
   have hs1:cA E g {st with mem:=st.mem++[.free]} a w:=⟨hs.tm,hs.nt,Sg,by simp;have:=hs.fix;omega,hs.dS⟩
   have hgd : ∀j,(yv ops.size false).getD j false=false:=by
    intro j
    rw[xi,Fs]
    split<;>rfl
   have hI:mB ops (masks [] ops.toList) vs {st with mem:=st.mem++[.free]} {st with mem:=st.mem++[.free]} (yv ops.size false):=
    ⟨by simp,rfl,rfl,rfl,fun j _ _ _ hj=>(by rw[hgd] at hj;cases hj),fun _ _=>rfl,fun i _ hi=>(by rw[hgd] at hi;cases hi)⟩
   have hs2:=hs1.drew (w.drawn+1)
   obtain⟨g',a',w',r1,r2,r3,r4,r5,r6⟩:=HJ (P:=P) (E:=E) (b:=b) (k:=k) hO hQ (by simp) hrun ops.size (w.tape w.drawn (.order b.fn bY)) _ _ a g _ (fl ops.size) hI hs2 (by simp) (fun i hi _=>PH.2 hi)
   have hend:=(hrun.spec hO.uniq).2.1
   refine⟨g',a',w',fun cs=> ?_,r2,r3,?_,r5,hend.2.2.1,r6⟩
   · refine .head stepR_region_draw ?_
     have KC:ye (P.follows .mixedOrders) ops (w.tape w.drawn (.order b.fn bY))=aal .any ops ops.size (w.tape w.drawn (.order b.fn bY)) (yv ops.size false) []:=by
      simp only[ye,Sf,if_true,yn]
     rw[KC]
     exact(r1 cs).trans (.one stepR_region_end)
   · rw[hend.1]
     have hst:dm g (st.mem++[.free]) w g (st.mem++[.free]) {w with drawn:=w.drawn+1}:=⟨dd _,fun _ _ _=>rfl,fun _ _ h=>⟨h,rfl⟩,fun _ _ h=> .inl h,fun _ h=> .inl h,rfl,rfl,rfl⟩
     exact(Wv.trans hst).trans r4
 · cases h
end
end Go.Am
end
section
set_option linter.unusedSimpArgs false
namespace Go.Am
open Go.RowKit
section
variable {P:Program} {E:Env}
theorem ot {rd rd':Nat→aN} {a:AV} (h : ∀b∈refs a,rd b=rd' b) (n:Nat):lB rd a n=lB rd' a n:=by
 cases a with
 |mp b off=>simp only[lB,h b (by simp[refs])]
 |p v=>cases v<;>rfl
 |_=>rfl
theorem fD {rd rd':Nat→aN} {a:AV} (h : ∀b∈refs a,rd b=rd' b) (sz:Nat):contents rd sz a=contents rd' sz a:=by
 cases a with
 |ms b off len s c=>
  cases c with
  |none=>simp only[contents,h b (by simp[refs])]
  |some c=>simp only[contents,h b (by simp[refs])]
 |p v=>
  cases v with
  |sc v=>cases v<;>rfl
  |_=>rfl
 |_=>rfl
theorem tH {rd rd':Nat→aN} {a:AV} (h : ∀b∈refs a,rd b=rd' b) (sz:Nat):cN rd sz a=cN rd' sz a:=by
 have hc:=fD h sz
 unfold cN
 rw[hc]
 cases contents rd' sz a with
 |some r=>rfl
 |none=>
  cases a with
  |ms b off len s c=>
   cases c with
   |none=>rfl
   |some c=>simp only[h b (by simp[refs])]
  |_=>rfl
theorem oQ {rd rd':Nat→aN} {x n:AV} (h : ∀b∈refs x,rd b=rd' b) {ts:List TypeId}:eD P rd ts x n=eD P rd' ts x n:=by
 have hg:RN rd x=RN rd' x:=by
  cases x with
  |mp b off=>cases off with
   |zero=>simp only[RN,h b (by simp[refs])]
   |succ _=>rfl
  |_=>rfl
 unfold eD
 simp only[hg]
theorem xU {rd rd':Nat→aN} {a:AV} (h : ∀b∈refs a,rd b=rd' b) {aV:Nat} {ρ:Operand→AV} {o:Oper} {s d:TypeId}:convertOp P rd aV ρ o s d a=convertOp P rd' aV ρ o s d a:=by
 have hc:=fun sz=>fD (a:=a) h sz
 unfold convertOp
 split<;>first
  |rfl
  |(rename_i b off len sz cap hd;have hb:=h b (by simp[refs]);simp only[hb];done)
  |(rename_i b off hd;have hb:=h b (by simp[refs]);simp only[hb];done)
  |(rename_i u b hd;have hb:=h b (by simp[refs]);simp only[hb];done)
  |simp only[hc]
theorem append_congr {rd rd':Nat→aN} {s x:AV} (h : ∀b∈refs s++refs x,rd b=rd' b) {aV:Nat} {ts:Array TypeId}:iH P rd aV ts s x=iH P rd' aV ts s x:=by
 have hc:=fun sz=>fD (a:=x) (fun b hb=>h b (Hb _ hb)) sz
 have ht : ∀tok len sz cs,s = .os tok len sz cs→nH rd aV tok=nH rd' aV tok:=by
  rintro tok len sz cs rfl
  cases tok with
  |none=>rfl
  |some t=>simp only[nH,h t (by simp[refs])]
 unfold iH
 simp only[hc]
 repeat' first | rfl | split
 all_goals first
  |rfl
  |(rw[ht _ _ _ _ rfl])
  |simp_all
theorem vi {rd rd':Nat→aN} {s x:AV} (h : ∀b∈refs s++refs x,rd b=rd' b) {aV:Nat} {ts:Array TypeId}:fo P rd aV ts s x=fo P rd' aV ts s x:=by
 have hc:=fun sz=>tH (a:=x) (fun b hb=>h b (Hb _ hb)) sz
 have hp : ∀sz,jw rd sz x=jw rd' sz x:=fun sz=>by unfold jw;rw[fD (a:=x) (fun b hb=>h b (Hb _ hb)) sz]
 cases s with
 |ms b off len sz cap=>
  have hb:=h b (by simp[refs])
  unfold fo
  simp only[hc,hp]
  cases off with
  |zero=>cases cap<;>simp only[hb]
  |succ off=>rfl
 |os tok len sz cells=>
  cases tok with
  |none=>
   unfold fo
   simp only[hc,hp]
  |some t=>
   unfold fo
   simp only[hc]
 |_=>
  unfold fo
  simp only[hc]
theorem rD {rd rd':Nat→aN} {wr:Bool} {s x:AV} (h : ∀b∈refs s++refs x,rd b=rd' b) {aV:Nat} {ts:Array TypeId} :
  (match RM s||wr with | true=>fo P rd aV ts (mG s) x | false=>iH P rd aV ts (mG s) x)=(match RM s||wr with | true=>fo P rd' aV ts (mG s) x | false=>iH P rd' aV ts (mG s) x):=by
 have hs : ∀b∈refs (mG s),b∈refs s:=by
  intro b hb
  unfold mG at hb
  split at hb
  · simp[refs] at hb
  · exact hb
 have h' : ∀b∈refs (mG s)++refs x,rd b=rd' b:=fun b hb=>h b ((oE.1 hb).elim (fun q=>Hc _ (hs b q)) fun q=>Hb _ q)
 rw[vi h',append_congr h']
theorem EP {rd rd':Nat→aN} {d s:AV} (h : ∀b∈refs d++refs s,rd b=rd' b) {ts:Array TypeId}:qX P rd ts d s=qX P rd' ts d s:=by
 have hc:=fun sz=>fD (a:=s) (fun b hb=>h b (Hb _ hb)) sz
 have ht : ∀b off len sz cap,d = .ms b off len sz cap→rd b=rd' b:=by
  rintro b off len sz cap rfl
  exact h b (by simp[refs])
 unfold qX
 simp only[hc]
 repeat' first | rfl | split
 all_goals first
  |rfl
  |(rename_i h1 h2;rw[ht _ _ _ _ _ rfl] at h1;simp_all)
  |(rename_i h1;rw[ht _ _ _ _ _ rfl] at h1;simp_all)
  |simp_all
theorem Ot {rd rd':Nat→aN} {wr:Bool} {aV:Nat} {ρ ρ':Operand→AV} {o:Oper} (hq:yG o=true) (h : ∀x∈o.op.operands,ρ x=ρ' x) (hrd : ∀b∈HA ρ o,rd b=rd' b):sv P rd wr aV ρ o=sv P rd' wr aV ρ' o:=by
 have h1:sv P rd wr aV ρ o=sv P rd' wr aV ρ o:=by
  obtain⟨dst,op,type,pos,after,guard⟩:=o
  cases op<;>try rfl
  case load t a=>simp only[sv,kq,ot (a:=ρ a) hrd]
  case store t a v=>
   simp only[sv,pH]
   have hrd : ∀b∈refs (ρ a),rd b=rd' b:=hrd
   generalize ρ a=x at hrd ⊢
   cases x with
   |mp b off=>
    cases fK P t with
    |none=>rfl
    |some n=>simp only[hrd b (by simp[refs])]
   |_=>rfl
  case convert s d x=>exact xU hrd
  case next=>simp[yG,gd] at hq
  case call c=>
   obtain⟨callee,args,tys⟩:=c
   cases callee with
   |value _=>rfl
   |invoke _ _=>rfl
   |builtin b=>cases b<;>first
    |rfl
    |(obtain⟨args⟩:=args;rcases args with _ | ⟨x,_ | ⟨y,r⟩⟩<;>rfl)
    |(obtain⟨args⟩:=args;rcases args with _ | ⟨x,_ | ⟨y,_ | ⟨z,r⟩⟩⟩<;>first | rfl | exact rD fun b hb=>hrd b (by simpa[HA,gY] using hb) | exact EP fun b hb=>hrd b (by simpa[HA,gY] using hb) | exact oQ fun b hb=>hrd b (by simp[HA,gY,hb]))
    |simp[yG,gd] at hq
  case makeMap t r=>cases r<;>rfl
 rw[h1]
 cases hqq:gd o with
 |true=>exact yR hqq h
 |false=>
  simp only[yG,hqq,pt] at hq
  obtain⟨dst,op,type,pos,after,guard⟩:=o
  cases op<;>simp only[pn] at hq<;>simp only[aaj] at h<;>simp only[sv]
  case box t v=>rw[h v (by simp)]
  case buildSlice t n ps=>
   have:ps.toList.map (fun q=>(q.1,ρ q.2))=ps.toList.map fun q=>(q.1,ρ' q.2):=
    Hd fun q hq=>by rw[h q.2 (by simp only[Pl,fi];exact⟨q,hq,rfl⟩)]
   rw[this]
  case makeSlice t l c=>rw[h l (by simp),h c (by simp)]
  case store t a v=>rw[h a (by simp),h v (by simp)]
  case makeMap t r=>cases r<;>rfl
  case lookup t x i ok=>rw[h x (by simp),h i (by simp)]
  case mapUpdate t x k v=>rw[h x (by simp),h k (by simp),h v (by simp)]
  case insert t x k v=>rw[h x (by simp),h k (by simp),h v (by simp)]
  case call c=>
   obtain⟨callee,args,tys⟩:=c
   cases callee with
   |value _=>simp at hq
   |invoke _ _=>simp at hq
   |builtin b=>
    simp only[Call.operands] at h
    obtain⟨args⟩:=args
    cases b<;>simp only[pn] at hq
    all_goals
     rcases args with _ | ⟨x,_ | ⟨y,_ | ⟨z,r⟩⟩⟩<;>first | rfl | simp only[h x (by simp),h y (by simp)] | simp only[h x (by simp)]
theorem AM {ρ ρ':Operand→AV} {o:Oper} (h : ∀x∈o.op.operands,ρ x=ρ' x):target ρ o=target ρ' o:=by
 obtain⟨dst,op,type,pos,after,guard⟩:=o
 cases op<;>try rfl
 case call c=>
  obtain⟨callee,args,tys⟩:=c
  cases callee with
  |value f=>
   simp only[aaj,Call.operands] at h
   have h1:ρ f=ρ' f:=h f (by simp)
   have h2:args.toList.map ρ=args.toList.map ρ':=Hd fun x hx=>h x (by simp_all)
   simp only[target,h1,h2]
  |_=>rfl
theorem ij : ∀(us:nF) (m:Mem) (b:Nat),b∉us.map (·.1)→(apply m us)[b]? = m[b]?
 |[],_,_,_=>rfl
 |(i,x)::us,m,b,h=>by
  simp only[uv,Hk,not_or] at h
  simp only[apply]
  rw[ij us _ b h.2,List.getElem?_set_ne (fun e=>h.1 e.symm)]
theorem Ct : ∀(us:nF) (m m':Mem) (b:Nat),m.length=m'.length→b∈us.map (·.1)→(apply m us)[b]? = (apply m' us)[b]?
 |(i,x)::us,m,m',b,hl,h=>by
  simp only[apply]
  by_cases hb:b∈us.map (·.1)
  · exact Ct us _ _ b (by simp[hl]) hb
  · rw[ij us _ b hb,ij us _ b hb]
    simp only[uv,Hk] at h
    have:b=i:=h.resolve_right hb
    subst this
    simp only[List.getElem?_set,hl,if_true]
abbrev gz.w (d:gz):List Nat:=d.us.map (·.1)
structure jK (ds:List gz) (base:Mem) (S:Nat→Prop) (M:Mem):Prop where
 len:M.length=base.length
 out : ∀b,(∀j d,S j→ds[j]? = some d→b∉d.w)→M[b]? = base[b]?
 last : ∀j d b,S j→ds[j]? = some d→b∈d.w→(∀k e,S k→j<k→ds[k]? = some e→b∉e.w)→M[b]? = (apply base d.us)[b]?
theorem jK.nil {ds:List gz} {base:Mem} {S:Nat→Prop} (h : ∀j,¬S j):jK ds base S base:=⟨rfl,fun _ _=>rfl,fun j _ _ hj=>absurd hj (h j)⟩
theorem jK.step {ds:List gz} {base M:Mem} {S S':Nat→Prop} {i:Nat} {d:gz} (h:jK ds base S M) (hd:ds[i]? = some d) (hS : ∀j,S' j↔S j∨j=i) (hi : ¬S i)
  (aak : ∀j e,S j→i<j→ds[j]? = some e → ∀b∈d.w,b∉e.w):jK ds base S' (apply M d.us):=by
 refine⟨by rw[eo];exact h.len,fun b hb=> ?_,fun j e b hj he xu hl=> ?_⟩
 · rw[ij _ _ _ (hb i d ((hS i).2 (.inr rfl)) hd)]
   exact h.out b fun j e hj he=>hb j e ((hS j).2 (.inl hj)) he
 · rcases(hS j).1 hj with hj' | rfl
   · have hbd:b∉d.w:=by
      intro q
      rcases PQ j i with hlt | heq | hgt
      · exact hl i d ((hS i).2 (.inr rfl)) hlt hd q
      · subst heq;exact hi hj'
      · exact aak j e hj' hgt he b q xu
     rw[ij _ _ _ hbd]
     exact h.last j e b hj' he xu fun k x hk NS hx=>hl k x ((hS k).2 (.inl hk)) NS hx
   · rw[hd] at he;cases he
     exact Ct _ _ _ _ h.len xu
theorem Ga {p:Nat→Prop} {n:Nat} (hb : ∀k,p k→k<n) : ∀(r j:Nat),n-j=r→p j → ∃j,p j ∧ ∀k,p k → ¬j<k:=by
 intro r
 induction r using QR with
 |ind r ih=>
  intro j hr hj
  by_cases h : ∃k,p k∧j<k
  · obtain⟨k,hk,NS⟩:=h
    have:=hb k hk
    exact ih (n-k) (by omega) k rfl hk
  · exact⟨j,hj,fun k hk NS=>h ⟨k,hk,NS⟩⟩
theorem jK.agree {ds:List gz} {base M M':Mem} {S T:Nat→Prop} (h:jK ds base S M) (h':jK ds base T M') {b:Nat} (hST : ∀j d,ds[j]? = some d→b∈d.w→(S j↔T j)):M[b]? = M'[b]? :=by
 by_cases hw : ∃j d,S j∧ds[j]? = some d∧b∈d.w
 · obtain⟨j0,d0,q1,q2,q3⟩:=hw
   obtain⟨j,⟨hj,d,hd,hbd⟩,hl⟩:=Ga (p:=fun j=>S j ∧ ∃d,ds[j]? = some d∧b∈d.w) (n:=ds.length) (fun k ⟨_,d,hd,_⟩=>(ee.1 hd).1) _ j0 rfl ⟨q1,d0,q2,q3⟩
   rw[h.last j d b hj hd hbd fun k e hk NS he xu=>hl k ⟨hk,e,he,xu⟩ NS,
    h'.last j d b ((hST j d hd hbd).1 hj) hd hbd fun k e hk NS he xu=>hl k ⟨(hST k e he xu).2 hk,e,he,xu⟩ NS]
 · rw[h.out b fun j d hj hd hbd=>hw ⟨j,d,hj,hd,hbd⟩,h'.out b fun j d hj hd hbd=>hw ⟨j,d,(hST j d hd hbd).2 hj,hd,hbd⟩]
def mj (m:Mem):List gz→Mem
 |[]=>m
 |d::r=>mj (apply m d.us) r
theorem qe (m:Mem) : ∀(ds es:List gz),mj m (ds++es)=mj (mj m ds) es
 |[],_=>rfl
 |d::ds,es=>qe (apply m d.us) ds es
theorem vk (ds:List gz) (base:Mem) : ∀i,i≤ds.length→jK ds base (· < i) (mj base (ds.take i))
 |0,_=>jK.nil fun _ h=>absurd h (tz _)
 |i+1,h=>by
  have hi:i<ds.length:=h
  rw[List.take_succ_eq_append_getElem hi,qe]
  exact(vk ds base i (by omega)).step (d:=ds[i]) (de hi) (fun j=>by omega) (by omega) fun j e hj hij=>absurd hj (by omega)
def kS (nx:Nat) (m:Mem):Prop:= ∀i,nx≤i→i<m.length→m[i]? = some .free
def ZS (P:Program) (E:Env) (wr:Oper→Bool) (st:St) (nx:Nat) (o:Oper) (d:gz) (jB:Nat):Prop:=
 (∃g args v m1,target (ev E st.tm) o=some (g,args)∧au P E g (eE (idx (close st.mem 0 args)) args) (pack st.mem (close st.mem 0 args)) v m1∧(close st.mem 0 args).length≤m1.length ∧
   (∀i∈close st.mem 0 args,i<nx)∧jB=nx+(m1.length-(close st.mem 0 args).length)∧jB≤st.mem.length∧d=nK st.mem.length nx (close st.mem 0 args) v m1) ∨
 (target (ev E st.tm) o=none∧yG o=true∧sv P (fun i=>st.mem.getD i .dead) (wr o) nx (ev E st.tm) o=some (d.v,d.us,true)∧d.fp=d.w++(HA (ev E st.tm) o++cond (makes o) [nx] []) ∧
   (∀b∈d.w,b<jB)∧jB=cond (makes o) (nx+1) nx∧jB≤st.mem.length∧d.ld=RP P (ev E st.tm) o d.v)
def Cu (P:Program) (E:Env) (wr:Oper→Bool) (ops:Array Oper) (st:St) (nx:Nat) (o:Oper) (d:gz) (jB:Nat):Prop:=
 ((ec ops st.tm o = .yes ∨ ∃s b want,ec ops st.tm o = .ask s b want∧(b==want)=true)∧ZS P E wr st nx o d jB) ∨
 ((ec ops st.tm o = .no ∨ ∃s b want,ec ops st.tm o = .ask s b want∧(b==want)=false)∧d=⟨.aK [],[],[],fun _ _=>false⟩∧jB=nx)
inductive xV (P:Program) (E:Env) (wr:Oper→Bool) (ops:Array Oper):List Oper→St→Nat→List gz→St→Nat→Prop
 |nil (st:St) (nx:Nat):xV P E wr ops [] st nx [] st nx
 |cons (o:Oper) (r:List Oper) (st:St) (nx:Nat) (d:gz) (jB:Nat) (ds:List gz) (st':St) (oh:Nat) (hf:fits st o.dst=true) (h:Cu P E wr ops st nx o d jB)
   (hr:xV P E wr ops r (put {st with mem:=apply st.mem d.us} o.dst d.v) jB ds st' oh):xV P E wr ops (o::r) st nx (d::ds) st' oh
theorem ER {t:Option AV} {r:Option (gz×Nat×Bool)} {d:gz} {nx:Nat} (h:FX t r=some (d,nx,true)):r=some (d,nx,true):=by
 unfold FX at h
 split at h
 · exact h
 · split at h
   · rename_i v d0 n0 ok
     simp only[dq,kc,dp] at h
     obtain⟨rfl,rfl,h1,h2⟩:=h
     have e:=lI h2
     subst h1
     obtain⟨v0,us,fp,ld⟩:=d0
     simp only at e
     subst e
     rfl
   · cases h
theorem HK {f bY:Nat} {O:FuncId→List AV→Mem→Option (AV×Mem)} (hO : ∀g args m v m1,O g args m=some (v,m1)→au P E g args m v m1) {nx jB:Nat} {o:Oper} {st:St} {d:gz}
  (h:iV P E f bY O nx o st=some (d,jB,true)):ZS P E (fun o=>E.wr f (o.dst.getD 0)) st nx o d jB:=by
 have h:=ER h
 unfold nL at h
 split at h
 · rename_i g args ht
   dsimp only at h
   split at h
   · rename_i v m1 ho
     simp only[dq,kc,dp] at h
     obtain⟨rfl,rfl,h1,h2,h3⟩:=h
     exact .inl ⟨g,args,v,m1,ht,hO _ _ _ _ _ ho,ft h1,fL h2,rfl,ft h3,rfl⟩
   · cases h
 · rename_i ht
   split at h
   · rename_i v us ok hop
     simp only[dq,kc,dp] at h
     obtain⟨rfl,rfl,rfl,h1,h2,h3⟩:=h
     exact .inr ⟨ht,h1,hop,rfl,fL h2,rfl,ft h3,rfl⟩
   · cases h
theorem rE {f bY:Nat} {O:FuncId→List AV→Mem→Option (AV×Mem)} (hO : ∀g args m v m1,O g args m=some (v,m1)→au P E g args m v m1) {ops:Array Oper} : ∀{l:List Oper} {nx oh:Nat} {st st':St} {ds:List gz},
  gZ P E f bY O ops l nx st=some (st',oh,ds,true)→xV P E (fun o=>E.wr f (o.dst.getD 0)) ops l st nx ds st' oh
 |[],nx,oh,st,st',ds,h=>by
  simp only[gZ,dq,kc,and_true] at h
  obtain⟨rfl,rfl,rfl⟩:=h
  exact .nil st nx
 |o::r,nx,oh,st,st',ds,h=>by
  have skip:(match gZ P E f bY O ops r nx (put st o.dst (.aK [])) with
   |some (st',oh,ds,ok)=>some (st',oh,(⟨.aK [],[],[],fun _ _=>false⟩:gz)::ds,fits st o.dst&&ok)
   |none=>none)=some (st',oh,ds,true)→(ec ops st.tm o = .no ∨ ∃s b want,ec ops st.tm o = .ask s b want∧(b==want)=false)→xV P E (fun o=>E.wr f (o.dst.getD 0)) ops (o::r) st nx ds st' oh:=by
   intro h hw
   split at h
   · rename_i Ol jB Z0 ok hq
     simp only[dq,kc,dp] at h
     obtain⟨rfl,rfl,rfl,h1,rfl⟩:=h
     exact .cons o r st nx _ nx _ _ _ h1 (.inr ⟨hw,rfl,rfl⟩) (rE hO hq)
   · cases h
  have pJ:(match iV P E f bY O nx o st with
   |some (d,jB,ok)=>match gZ P E f bY O ops r jB (put {st with mem:=apply st.mem d.us} o.dst d.v) with
    |some (st',oh,ds,ok')=>some (st',oh,d::ds,ok&&(fits st o.dst&&ok'))
    |none=>none
   |none=>none)=some (st',oh,ds,true)→(ec ops st.tm o = .yes ∨ ∃s b want,ec ops st.tm o = .ask s b want∧(b==want)=true)→xV P E (fun o=>E.wr f (o.dst.getD 0)) ops (o::r) st nx ds st' oh:=by
   intro h hw
   split at h
   · rename_i d jB ok hop
     split at h
     · rename_i Ol nx2 Z0 ok' hq
       simp only[dq,kc,dp] at h
       obtain⟨rfl,rfl,rfl,rfl,h1,rfl⟩:=h
       exact .cons o r st nx d jB _ _ _ h1 (.inl ⟨hw,HK hO hop⟩) (rE hO hq)
     · cases h
   · cases h
  unfold gZ at h
  dsimp only at h
  cases hw:ec ops st.tm o with
  |yes=>rw[hw] at h;exact pJ h (.inl hw)
  |no=>rw[hw] at h;exact skip h (.inl hw)
  |lost=>rw[hw] at h;cases h
  |ask s b want=>
   rw[hw] at h
   dsimp only at h
   cases hb:b==want with
   |true=>rw[hb] at h;exact pJ h (.inr ⟨s,b,want,hw,hb⟩)
   |false=>rw[hb] at h;exact skip h (.inr ⟨s,b,want,hw,hb⟩)
theorem yS {N nx:Nat} {ord:List Nat} {v:AV} {m1:Mem} {b:Nat} (h:b∈(nK N nx ord v m1).w):b∈(nK N nx ord v m1).fp:=by
 simp only[nK,gz.w,fi] at h ⊢
 obtain⟨q,hq,rfl⟩:=h
 exact(List.of_mem_zip hq).1
theorem ZS.facts {wr:Oper→Bool} {st:St} {nx jB:Nat} {o:Oper} {d:gz} (h:ZS P E wr st nx o d jB):nx≤jB∧jB≤st.mem.length∧(∀b∈d.w,b<jB) ∧ ∀b∈d.w,b∈d.fp:=by
 rcases h with⟨g,args,v,m1,_,_,h1,h2,rfl,h3,rfl⟩ | ⟨_,_,_,h1,h2,rfl,h3,_⟩
 · refine⟨by omega,h3,fun b hb=> ?_,fun b hb=>yS hb⟩
   have:=yS hb
   simp only[nK,oE,H3] at this
   rcases this with q | q
   · have:=h2 b q;omega
   · omega
 · refine⟨by cases makes o<;>simp,h3,h2,fun b hb=> ?_⟩
   rw[h1]
   exact Hc _ hb
theorem Cu.facts {wr:Oper→Bool} {ops:Array Oper} {st:St} {nx jB:Nat} {o:Oper} {d:gz} (h:Cu P E wr ops st nx o d jB) (hn:nx≤st.mem.length):nx≤jB∧jB≤st.mem.length∧(∀b∈d.w,b<jB) ∧ ∀b∈d.w,b∈d.fp:=by
 rcases h with⟨_,h⟩ | ⟨_,rfl,rfl⟩
 · exact h.facts
 · exact⟨dd _,hn,by simp,by simp⟩
theorem dI.vl {l:List Oper} {vs:List AV} {S S' T T':St} {i:Nat} (h:dI l vs S i T) (h1:S'.tm=S.tm) (h2:S'.nt=S.nt) (h3:S'.fix=S.fix) (h4:T'.tm=T.tm) (h5:T'.nt=T.nt) (h6:T'.fix=T.fix) (h7:T'.mem=S'.mem):dI l vs S' i T':=by
 obtain⟨_,q2,q3,q4,q5⟩:=h
 refine⟨h7,by rw[h5,h2];exact q2,by rw[h6,h3];exact q3,?_,?_⟩
 · intro j p v t a b c d;rw[h4];exact q4 j p v t a b c d
 · intro t ht;rw[h4,h1];exact q5 t ht
theorem sJ (st:St) (m:Mem) (dst:Option Tmp) (v:AV):put {st with mem:=m} dst v={put st dst v with mem:=m}:=by cases dst<;>rfl
theorem xV.spec {wr:Oper→Bool} {ops:Array Oper} {l:List Oper} {st st':St} {nx oh:Nat} {ds:List gz} (h:xV P E wr ops l st nx ds st' oh) (hu:Cq l) (hn:nx≤st.mem.length) (hfr:kS nx st.mem) :
  ds.length=l.length∧dI l (ds.map (·.v)) st l.length {st' with mem:=st.mem}∧st'.mem=mj st.mem ds∧st'.cJ=st.cJ ∧
    ∀(i:Nat) (o:Oper),l[i]? = some o → ∃d iC vn Cv,ds[i]? = some d∧Cu P E wr ops iC vn o d Cv∧fits iC o.dst=true∧dI l (ds.map (·.v)) st i {iC with mem:=st.mem}∧iC.mem=mj st.mem (ds.take i)∧kS vn iC.mem∧vn≤iC.mem.length:=by
 induction h with
 |nil st nx=>exact⟨rfl,⟨rfl,rfl,rfl,fun j _ _ _ hj=>absurd hj (tz _),fun _ _=>rfl⟩,rfl,rfl,fun i o ho=>by simp at ho⟩
 |cons o r st nx d jB ds st' oh hf hk hr ih=>
  have NQ:Cq r:=fun i j p q t hij hp hq=>hu (i+1) (j+1) p q t (by omega) (by simpa using hp) (by simpa using hq)
  obtain⟨f1,f2,f3,f4⟩:=hk.facts hn
  have hm:(put {st with mem:=apply st.mem d.us} o.dst d.v).mem=apply st.mem d.us:=by rw[sJ]
  have aam:kS jB (apply st.mem d.us):=by
   intro i hi hl
   rw[eo] at hl
   rw[ij _ _ _ fun q=>by have:=f3 i q;omega]
   exact hfr i (by omega) hl
  obtain⟨h1,h2,h3,h5,h4⟩:=ih NQ (by rw[hm,eo];exact f2) (by rw[hm];exact aam)
  have shift : ∀{i:Nat} {T:St},dI r (ds.map (·.v)) (put {st with mem:=apply st.mem d.us} o.dst d.v) i {T with mem:=(put {st with mem:=apply st.mem d.us} o.dst d.v).mem} →
    dI (o::r) ((d::ds).map (·.v)) st (i+1) {T with mem:=st.mem}:=by
   intro i T hs
   refine dI.cons (vs:=ds.map (·.v)) (v:=d.v) hu (hs.vl (S':=put st o.dst d.v) (T':={T with mem:=st.mem}) ?_ ?_ ?_ rfl rfl rfl ?_)
   · cases o.dst<;>rfl
   · cases o.dst<;>rfl
   · cases o.dst<;>rfl
   · exact(AK st o.dst d.v).1.symm
  refine⟨by simp[h1],shift h2,by rw[h3,hm];rfl,h5.trans (by cases o.dst<;>rfl),?_⟩
  intro i p hp
  cases i with
  |zero=>
   simp only[np,dq] at hp
   subst hp
   exact⟨d,st,nx,jB,rfl,hk,hf,⟨rfl,rfl,rfl,fun j _ _ _ hj=>absurd hj (tz _),fun _ _=>rfl⟩,rfl,hfr,hn⟩
  |succ i=>
   obtain⟨e,iC,vn,Cv,q1,q2,q3,q4,q5,q6,q7⟩:=h4 i p (by simpa using hp)
   refine⟨e,iC,vn,Cv,by simpa using q1,q2,q3,shift q4,?_,q6,q7⟩
   rw[q5,hm];rfl
def Ou (d e:gz):Prop:=e.us=[] ∧ ∀b∈d.w,b∈e.fp → ∃x,uA d.us b=some x∧e.ld b x=true
theorem vo : ∀{l:List Nat} {i:Nat},i∈l→has l i=true
 |j::r,i,h=>by
  simp only[has]
  cases hb:bj j i with
  |true=>rfl
  |false=>
   rcases Hk.1 h with e | h
   · subst e;rw[tp] at hb;cases hb
   · exact vo h
theorem ES {d e:gz} (h:Ao d e=true):Ou d e:=by
 simp only[Ao,dp,ba] at h
 refine⟨?_,fun b hb hf=> ?_⟩
 · have h1:=h.1
   cases hu:e.us with
   |nil=>rfl
   |cons _ _=>rw[hu] at h1;cases h1
 · have:=h.2 b hb
   rw[vo hf,xv,pt] at this
   split at this
   · rename_i x hx
     exact⟨x,hx,this⟩
   · cases this
theorem vp : ∀{us:nF} {b:Nat},uA us b=none→b∉us.map (·.1)
 |[],_,_=>by simp
 |(i,x)::r,b,h=>by
  simp only[uA] at h
  split at h
  · cases h
  · rename_i hr
    cases hb:bj i b with
    |true=>rw[hb] at h;cases h
    |false=>
     simp only[uv,Hk,not_or]
     exact⟨fun e=>(by subst e;rw[tp] at hb;cases hb),vp hr⟩
theorem vq : ∀{us:nF} {m:Mem} {b:Nat} {x:aN},uA us b=some x→b<m.length→(apply m us)[b]? = some x
 |(i,y)::r,m,b,x,h,hb=>by
  simp only[uA] at h
  simp only[apply]
  split at h
  · rename_i z hz
    simp only[dq] at h
    subst h
    exact vq hz (by simpa using hb)
  · rename_i hr
    cases hib:bj i b with
    |false=>rw[hib] at h;cases h
    |true=>
     rw[hib] at h
     simp only[cond_true,dq] at h
     subst h
     have:=bx hib
     subst this
     rw[ij r _ _ (vp hr),List.getElem?_set_self hb]
structure WY (L:List Nat) (ds:List gz):Prop where
 pair : ∀(i j:Nat) (d e:gz),j<i→ds[i]? = some d→ds[j]? = some e→da (L.getD i 0) j=true∨((∀b∈e.w,b∉d.fp)∧((∀b∈d.w,b∉e.fp)∨Ou d e))
theorem rF {a b:List Nat} (h:meet a b=false) : ∀i∈a,i∉b:=fun _ ha hb=>lR h ha hb
theorem sK {L:List Nat} : ∀{r mz:List gz},uB L mz.length mz r=true → ∀(i j:Nat) (d e:gz),mz.length≤i→j<i→(mz++r)[i]? = some d→(mz++r)[j]? = some e →
  da (L.getD i 0) j=true∨((∀b∈e.w,b∉d.fp)∧((∀b∈d.w,b∉e.fp)∨Ou d e))
 |[],mz,_,i,j,d,e,hi,_,hd,_=>by
  simp only[Lk] at hd
  rw[ei hi] at hd;cases hd
 |d0::r,mz,h,i,j,d,e,hi,hj,hd,he=>by
  simp only[uB,dp] at h
  by_cases hc:i=mz.length
  · subst hc
    have:d=d0:=by simpa using hd.symm
    subst this
    have key : ∀(l:List gz) (k:Nat),pM L mz.length d k l=true → ∀m x,l[m]? = some x→Ap L mz.length d (k+m) x=true:=by
     intro l
     induction l with
     |nil=>intro k _ m x hx;simp at hx
     |cons y l ih=>
      intro k hk m x hx
      simp only[pM,dp] at hk
      cases m with
      |zero=>simp only[np,dq] at hx;subst hx;exact hk.1
      |succ m=>
       simp only[nz] at hx
       have:=ih (k+1) hk.2 m x hx
       rwa [gn,aag 1 m] at this
    have he':mz[j]? = some e:=by rwa [o6 hj] at he
    have:=key mz 0 h.1 j e he'
    simp only[Ap,Nat.zero_add,j1,dp,j2] at this
    rcases this with q | ⟨q1,q2 | q2⟩
    · exact .inl q
    · exact .inr ⟨rF q1,.inl (rF q2)⟩
    · exact .inr ⟨rF q1,.inr (ES q2)⟩
  · have h':uB L (mz++[d0]).length (mz++[d0]) r=true:=by simpa using h.2
    exact sK h' i j d e (by simp;omega) hj (by simpa using hd) (by simpa using he)
theorem sL {m m':Mem} : ∀(f:Nat) (ord:List Nat) (k:Nat),ord.Nodup→(∀i∈reach m f ord k,m.getD i .dead=m'.getD i .dead)→reach m' f ord k=reach m f ord k
 |0,_,_,_,_=>rfl
 |f+1,ord,k,hnd,h=>by
  simp only[reach] at h ⊢
  cases hk:ord[k]? with
  |none=>rfl
  |some i=>
   simp only[hk] at h
   dsimp only
   have EI:=(dQ (yx (m.getD i .dead)) ord hnd).1
   obtain⟨t1,h1⟩:=(dQ (yx (m.getD i .dead)) ord hnd).2
   obtain⟨t2,h2⟩:=(lP m f _ (k+1) EI).2
   have hi:m.getD i .dead=m'.getD i .dead:=h i (by rw[h2,h1];exact Hc _ (Hc _ (oi hk)))
   rw[←hi]
   exact sL f _ (k+1) EI h
theorem Cw {m m':Mem} {args:List AV} (hl:m.length=m'.length) (h : ∀i∈close m 0 args,m.getD i .dead=m'.getD i .dead):close m' 0 args=close m 0 args:=by
 unfold close at h ⊢
 rw[←hl]
 exact sL _ _ _ (dQ _ _ (jJ 0)).1 h
theorem ET {m m':Mem} {ord:List Nat} (h : ∀i∈ord,m.getD i .dead=m'.getD i .dead):pack m' ord=pack m ord:=by
 unfold pack
 exact Hd fun i hi=>by rw[h i hi]
theorem ou (ρ:Nat→Option Nat) : ∀(ord:List Nat) (m1 m:Mem),ord.length=m1.length→dj ρ ord m1 m=apply m (ord.zip (m1.map (fq ρ)))
 |[],[],m,_=>by simp[dj,apply]
 |i::ord,b::m1,m,h=>by
  simp only[dj,uv,List.zip_cons_cons,apply]
  exact ou ρ ord m1 _ (by simpa using h)
 |[],_::_,_,h=>by simp at h
 |_::_,[],_,h=>by simp at h
theorem Rel.Sh {g g1:Gh} {m m1:Mem} {w w':World} (h:Rel g m w) {ord R:List Nat} (hnd:(ord++R).Nodup) (hlt : ∀i∈ord++R,i<m.length) (hR : ∀i∈R,m[i]? = some .free)
  (h1:Rel g1 m1 w') (hs:dm (g.pack ord) (Am.pack m ord) w g1 m1 w') (hf:bO (g.pack ord) g1 ord.length) (hl:(ord++R).length=m1.length) :
  ∃g',Rel g' (apply m ((ord++R).zip (m1.map (fq (bC (ord++R) m.length))))) w'∧Ext g w g' w'∧dm g m w g' (apply m ((ord++R).zip (m1.map (fq (bC (ord++R) m.length))))) w'∧dn (bC (ord++R) m.length) g1 g':=by
 have own : ∀c,fP (g.pack ord) (Am.pack m ord) c→fP (g.pack (ord++R)) (Am.pack m (ord++R)) c:=by
  rintro c ⟨k,b,hk,ho,hc⟩
  obtain⟨i,hi,rfl⟩:=jI hk
  have hi':(ord++R)[k]? = some i:=by rw[o6 (bG hi)];exact hi
  refine⟨k,fq (idx (ord++R)) (m.getD i .dead),?_,by rw[kQ] at ho ⊢;exact ho,?_⟩
  · simp only[Am.pack,fe,hi',iv]
  · simpa[Gh.pack,hi,hi'] using hc
 have hs':dm (g.pack (ord++R)) (Am.pack m (ord++R)) w g1 m1 w':=
  ⟨hs.size,fun c hc hn=>hs.keep c hc fun q=>hn (own c q),hs.pure,fun c o p=>(hs.fresh c o p).imp id fun q=>q.imp (own c) id,fun c ho=>(hs.owned c ho).imp (own c) id,hs.os,hs.tape,hs.output⟩
 have hf':bO (g.pack (ord++R)) g1 (ord++R).length:=by
  intro k c hk hc
  rcases gg k ord.length with q | q
  · have e:(ord++R)[k]? = ord[k]? :=o6 q
    have:=hf k c q (by simpa[Gh.pack,e] using hc)
    simpa[Gh.pack,e] using this
  · have e:(ord++R)[k]? = R[k-ord.length]? :=Hm q
    simp only[Gh.pack,e] at hc
    cases hr:R[k-ord.length]? with
    |none=>rw[hr] at hc;cases hc
    |some i=>
     rw[hr] at hc
     simp only[tc] at hc
     rw[h.free i (hR i (oi hr))] at hc;cases hc
 obtain⟨r1,r2,r3,r4⟩:=h.back hnd hlt h1 hs' hf' (by omega)
 rw[ou _ _ _ _ hl] at r1 r3
 exact⟨_,r1,r2,r3,r4⟩
theorem vr {m m':Mem} {i:Nat} (h:m[i]? = m'[i]?):m.getD i .dead=m'.getD i .dead:=by
 rw[di,di,h]
end
end Go.Am
end
section
namespace Go.Am
open Go.RowKit
section
variable {P:Program} {E:Env}
theorem lS : ∀(ds:List gz) (m:Mem),(mj m ds).length=m.length
 |[],_=>rfl
 |d::ds,m=>by rw[mj,lS ds,eo]
structure Rq (P:Program) (E:Env) (wr:Oper→Bool) (ops:Array Oper) (m:Nat) (gi:St) (ds:List gz) (st':St):Prop where
 len:ds.length=ops.toList.length
 ends:dI ops.toList (ds.map (·.v)) gi m {st' with mem:=gi.mem}
 mem:st'.mem=mj gi.mem (ds.take m)
 each : ∀(i:Nat) (o:Oper),ops.toList[i]? = some o→i<m → ∃d iC vn Cv,ds[i]? = some d∧Cu P E wr ops iC vn o d Cv∧fits iC o.dst=true∧dI ops.toList (ds.map (·.v)) gi i {iC with mem:=gi.mem}∧iC.mem=mj gi.mem (ds.take i)∧kS vn iC.mem∧vn≤iC.mem.length
 dum : ∀(i:Nat) (e:gz),m≤i→ds[i]? = some e→e.us=[]
theorem mB.WZ {ops:Array Oper} {L:List Nat} {vs:List AV} {gi eu:St} {S:Array Bool} (hI:mB ops L vs gi eu S) (hl:vs.length=ops.toList.length) {st':St} {m:Nat} (hst:dI ops.toList vs gi m st') (hall : ∀i,i<m→S.getD i false=true) (hnot : ∀i,m≤i→S.getD i false=false) :
  eu.mem=st'.mem∧eu.nt=st'.nt∧eu.fix=st'.fix ∧ ∀t,look eu.tm t=look st'.tm t:=by
 obtain⟨h1,h2,h3,hA,hB⟩:=hst
 have lt : ∀j,S.getD j false=true→j<m:=fun j hj=>by
  rcases gg j m with q | q
  · exact q
  · rw[hnot j q] at hj;cases hj
 refine⟨hI.mem.trans h1.symm,hI.nt.trans h2.symm,hI.fix.trans h3.symm,fun t=> ?_⟩
 by_cases hw : ∃(j:Nat) (p:Oper),j<m∧ops.toList[j]? = some p∧p.dst=some t
 · obtain⟨j,p,hj,hp,hd⟩:=hw
   have hjl:=(ee.1 hp).1
   have Ke:vs[j]? = some vs[j]:=de (by rw[hl];exact hjl)
   rw[hI.a j p _ t (hall j hj) hp Ke hd,hA j p _ t hj hp Ke hd]
 · rw[hI.b t fun k q hk hq hd=>hw ⟨k,q,lt k hk,hq,hd⟩,hB t fun k q hk hq hd=>hw ⟨k,q,hk,hq,hd⟩]
theorem Ov {ops:Array Oper} {S:Array Bool} (h : ∀i,i<ops.size→S.getD i false=true) (hs:S.size=ops.size) (fuel t:Nat):aal .any ops fuel t S []=[]:=by
 cases fuel with
 |zero=>rfl
 |succ fuel=>
  have hr:yb .any ops S=[]:=by
   cases hr:yb .any ops S with
   |nil=>rfl
   |cons x xs=>
    have hx:x∈yb .any ops S:=by rw[hr];exact .head _
    obtain⟨h1,o,ho,_⟩:=mem_ready.1 hx
    have hlt:=(zd.1 ho).1
    have:=h x hlt
    rw[kR (by omega) false true,h1] at this
    cases this
  simp only[aal]
  show(match(yb .any ops S)[t%(yb .any ops S).length]? with
   |some i=>aal .any ops fuel (t / (yb .any ops S).length) (S.setIfInBounds i true) [i]
   |none=>[].reverse)=[]
  rw[hr]
  rfl
theorem Ow {b:Frame} {k:List Item} (cs:List Frame) {ops:Array Oper} {L:List Nat} {ds:List gz} {gi st':St} {m:Nat} {wr:Oper→Bool} (hO:tG ops L) (hL:WY L ds) (hrun:Rq P E wr ops m gi ds st')
  (hm:m=ops.size∨(m+1=ops.size ∧ ∀j,j<m→da (L.getD m 0) j=true)) : ∀(fuel t:Nat) (S:Array Bool) (eu:St) (a:Act) (g:Gh) (w:World) (u:List Nat),
    mB ops L (ds.map (·.v)) gi {eu with mem:=gi.mem} S→jK ds gi.mem (fun j=>S.getD j false=true) eu.mem→cA E g eu a w→u.length=fuel→(∀i,i<ops.size→S.getD i false=false→i∈u)→(∀i,m≤i→S.getD i false=false) →
    ∃g' a' w',Steps P (lone (b.atR a (.inRegion ops (aal .any ops fuel t S [])::k)) cs w) (lone (b.atR a' (.inRegion ops (xb m (ops.size-m))::k)) cs w')∧a'.defers=a.defers∧cA E g' st' a' w' ∧
     dm g eu.mem w g' st'.mem w'∧bO g g' gi.fix ∧ ∀i c,g.bL i=some c→g'.bL i=some c:=by
 obtain⟨hdl,hend,hmem,hspec,W0⟩:=hrun
 have hl:(ds.map (·.v)).length=ops.toList.length:=by simpa using hdl
 have adw:ds.length=ops.size:=by simpa using hdl
 have RW:m≤ops.size:=by omega
 have fin : ∀(S:Array Bool) (eu:St) (a:Act) (g:Gh) (w:World),mB ops L (ds.map (·.v)) gi {eu with mem:=gi.mem} S→jK ds gi.mem (fun j=>S.getD j false=true) eu.mem→cA E g eu a w →
   (∀i,i<m→S.getD i false=true)→(∀i,m≤i→S.getD i false=false)→cA E g st' a w∧eu.mem=st'.mem:=by
  intro S eu a g w hI hM hs hall hnot
  obtain⟨_,e2,e3,e4⟩:=hI.WZ hl hend hall hnot
  have hm:eu.mem=st'.mem:=by
   apply List.ext_getElem?
   intro i
   rw[hmem]
   have h2:=vk ds gi.mem m (by omega)
   refine hM.agree h2 fun j d hd _=> ?_
   refine⟨fun hS=> ?_,fun hj=>hall j hj⟩
   rcases gg j m with q | q
   · exact q
   · rw[hnot j q] at hS;cases hS
  exact⟨hs.same hm e2 e3 e4,hm⟩
 have full : ∀(S:Array Bool),(∀i,i<ops.size→S.getD i false=true)→(∀i,m≤i→S.getD i false=false)→m=ops.size:=by
  intro S h1 h2
  rcases hm with q | ⟨q,_⟩
  · exact q
  · have:=h1 m (by omega);rw[h2 m (dd _)] at this;cases this
 intro fuel
 induction fuel with
 |zero=>
  intro t S eu a g w u hI hM hs Se hu hnot
  have hall : ∀i,i<ops.size→S.getD i false=true:=by
   intro i hi
   cases hq:S.getD i false with
   |true=>rfl
   |false=>
    have:=hu i hi hq
    rw[H4 Se] at this;cases this
  have WE:=full S hall hnot
  obtain⟨h1,h2⟩:=fin S eu a g w hI hM hs (fun i hi=>hall i (by omega)) hnot
  refine⟨g,a,w,?_,rfl,h1,by rw[h2];exact dm.refl _ _ _,bO.refl _ _,fun _ _ h=>h⟩
  rw[WE,QP,If]
  exact aan _ _
 |succ fuel ih=>
  intro t S eu a g w u hI hM hs Se hu hnot
  simp only[aal]
  show ∃g' a' w',Steps P (lone (b.atR a (.inRegion ops (match(yb .any ops S)[t%(yb .any ops S).length]? with
   |some i=>aal .any ops fuel (t / (yb .any ops S).length) (S.setIfInBounds i true) [i]
   |none=>[].reverse)::k)) cs w) (lone (b.atR a' (.inRegion ops (xb m (ops.size-m))::k)) cs w')∧_
  cases hi:(yb .any ops S)[t%(yb .any ops S).length]? with
  |none=>
   have Ky:yb .any ops S=[]:=by
    cases hr:yb .any ops S with
    |nil=>rfl
    |cons x xs=>
     rw[hr] at hi
     have hlt:t%(x::xs).length<(x::xs).length:=rb _ (by simp)
     rw[de hlt] at hi;cases hi
   have hall:=hI.all hO Ky
   have WE:=full S hall hnot
   obtain⟨h1,h2⟩:=fin S eu a g w hI hM hs (fun i hi=>hall i (by omega)) hnot
   refine⟨g,a,w,?_,rfl,h1,by rw[h2];exact dm.refl _ _ _,bO.refl _ _,fun _ _ h=>h⟩
   rw[WE,QP,If]
   exact aan _ _
  |some i=>
   have On:=oi hi
   obtain⟨hSi,o,ho,_⟩:=mem_ready.1 On
   have ho':ops.toList[i]? = some o:=by simpa using ho
   have hilt:i<ops.size:=(zd.1 ho).1
   by_cases him:i<m
   case neg=>
    have hme:i=m∧m+1=ops.size ∧ ∀j,j<m→da (L.getD m 0) j=true:=by
     rcases hm with q | ⟨q1,q2⟩
     · omega
     · exact⟨by omega,q1,q2⟩
    obtain⟨rfl,hsz,W1⟩:=hme
    have hall : ∀j,j<i→S.getD j false=true:=fun j hj=>hI.ahead hO On (W1 j hj)
    obtain⟨h1,h2⟩:=fin S eu a g w hI hM hs hall hnot
    dsimp only
    rw[linearise_go_acc,Hn,H0,Ov (fun j hj=>by
     by_cases e:i=j
     · subst e;simp[xi,hI.size,hj]
     · rw[getD_set_ne false e];exact hall j (by omega)) (by simp[hI.size])]
    refine⟨g,a,w,?_,rfl,h1,by rw[h2];exact dm.refl _ _ _,bO.refl _ _,fun _ _ h=>h⟩
    rw[show ops.size-i=1 by omega,List.range'_one]
    exact aan _ _
   obtain⟨d,iC,vn,Cv,hd,hk,hf,EO,hmi,W2,aap⟩:=hspec i o ho' him
   have hv:(ds.map (·.v))[i]? = some d.v:=by rw[fe,hd];rfl
   have vh : ∀t∈slots ops o,look eu.tm t=look iC.tm t:=fun t ht=>hI.slots hO ho' On hl EO ht
   have hid:i<ds.length:=(ee.1 hd).1
   have hni:S.getD i false=false:=by rw[kR (by rw[hI.size];exact hilt) false true];exact hSi
   have Kz:i∈u:=hu i hilt hni
   have NQ : ∀j,j<ops.size→(S.setIfInBounds i true).getD j false=false→j∈u.erase i:=by
    intro j hj hq
    have hne:j≠i:=by
     intro e
     subst e
     rw[show(S.setIfInBounds j true).getD j false=true by simp[xi,hI.size,hj]] at hq
     cases hq
    rw[getD_set_ne false (fun e=>hne e.symm)] at hq
    exact(M2 hne).2 (hu j hj hq)
   have W3 : ∀j,m≤j→(S.setIfInBounds i true).getD j false=false:=by
    intro j hj
    rw[getD_set_ne false (by omega)]
    exact hnot j hj
   have Oo:(u.erase i).length=fuel:=by rw[H5 Kz,Se];rfl
   have xH : ∀j,(S.setIfInBounds i true).getD j false=true↔S.getD j false=true∨j=i:=by
    intro j
    by_cases h:i=j
    · subst h
      simp[xi,hI.size,hilt]
    · rw[getD_set_ne false h]
      exact⟨.inl,fun q=>q.resolve_right fun e=>h e.symm⟩
   have hwf : ∀b∈d.w,b∈d.fp:=(hk.facts aap).2.2.2
   have wfp : ∀(j:Nat) (e:gz),ds[j]? = some e → ∀b∈e.w,b∈e.fp:=by
    intro j e he
    have hj:=(ee.1 he).1
    have Wu:ops.toList[j]? = some ops.toList[j]:=de (by omega)
    by_cases hjm:j<m
    case neg=>
     intro b hb
     rw[gz.w,W0 j e (by omega) he] at hb
     cases hb
    obtain⟨e',stj,nxj,aar,q1,q2,_,_,_,_,q3⟩:=hspec j _ Wu hjm
    rw[he] at q1;cases q1
    exact(q2.facts q3).2.2.2
   have ZJ:=vk ds gi.mem i (by omega)
   rw[←hmi] at ZJ
   have wlt : ∀(j:Nat) (e:gz),ds[j]? = some e → ∀b∈e.w,b<gi.mem.length:=by
    intro j e he b hb
    have hj:=(ee.1 he).1
    have Wu:ops.toList[j]? = some ops.toList[j]:=de (by omega)
    by_cases hjm:j<m
    case neg=>
     rw[gz.w,W0 j e (by omega) he] at hb
     cases hb
    obtain⟨e',stj,nxj,aar,q1,q2,_,_,q4,_,q3⟩:=hspec j _ Wu hjm
    rw[he] at q1;cases q1
    have h1:=(q2.facts q3).2.2.1 b hb
    have h2:=(q2.facts q3).2.1
    have h3:=lS (ds.take j) gi.mem
    rw[q4,h3] at h2
    omega
   have hag : ∀b∈d.fp,eu.mem[b]? = iC.mem[b]? ∨ (d.us=[] ∧ ∃x,eu.mem[b]? = some x∧d.ld b x=true):=by
    intro b hb
    by_cases hw : ∃j e,S.getD j false=true∧i<j∧ds[j]? = some e∧b∈e.w
    · obtain⟨j0,e0,q1,q2,q3,q4⟩:=hw
      obtain⟨j,⟨hj,e,he,xu⟩,hl⟩:=Ga (p:=fun j=>S.getD j false=true ∧ ∃d,ds[j]? = some d∧b∈d.w) (n:=ds.length) (fun k ⟨_,d,hd,_⟩=>(ee.1 hd).1) _ j0 rfl ⟨q1,e0,q3,q4⟩
      have hij:i<j:=by
       rcases gg i j with q | q
       · exact q
       · exact absurd (show j<j0 by omega) (hl j0 ⟨q1,e0,q3,q4⟩)
      have Cx:=hM.last j e b hj he xu fun k x hk NS hx hbx=>hl k ⟨hk,x,hx,hbx⟩ NS
      rcases hL.pair j i e d hij he hd with q | ⟨_,q | q⟩
      · have:=hI.cl j i hj q;rw[hni] at this;cases this
      · exact absurd hb (q b xu)
      · obtain⟨x,hx,hld⟩:=q.2 b xu hb
        rw[vq hx (wlt j e he b xu)] at Cx
        exact .inr ⟨q.1,x,Cx,hld⟩
    · refine .inl (hM.agree ZJ fun j e he xu=> ?_)
      rcases PQ j i with hlt | heq | hgt
      · rcases hL.pair i j d e hlt hd he with q | ⟨q,_⟩
        · exact⟨fun _=>hlt,fun _=>hI.ahead hO On q⟩
        · exact absurd hb (q b xu)
      · subst heq
        exact⟨fun q=>(by rw[hni] at q;cases q),fun q=>absurd q (Nat.lt_irrefl _)⟩
      · exact⟨fun q=>absurd ⟨j,e,q,hgt,he,xu⟩ hw,fun q=>by omega⟩
   have KD:eu.mem.length=iC.mem.length:=hM.len.trans ZJ.len.symm
   have hM':jK ds gi.mem (fun j=>(S.setIfInBounds i true).getD j false=true) (apply eu.mem d.us):=by
    refine hM.step hd xH (by rw[hni];exact fun q=>by cases q) fun j e hS hij he b hb xu=> ?_
    rcases hL.pair j i e d hij he hd with q | ⟨q,_⟩
    · have:=hI.cl j i hS q;rw[hni] at this;cases this
    · exact q b hb (wfp j e he b xu)
   have ZQ:=hI.step hO ho' hv On
   have ZR:fits eu o.dst=true:=by
    have:fits eu o.dst=fits iC o.dst:=by unfold fits;rw[show eu.nt=gi.nt from hI.nt,show iC.nt=gi.nt from EO.2.1]
    rw[this];exact hf
   have acJ:eu.fix=gi.fix:=hI.fix
   have hput : ∀m:Mem,put {eu with mem:=gi.mem} o.dst d.v={put {eu with mem:=m} o.dst d.v with mem:=gi.mem}:=by
    intro m;cases o.dst<;>rfl
   have Rr : ∀m:Mem,(put {eu with mem:=m} o.dst d.v).mem=m:=by intro m;cases o.dst<;>rfl
   have W4:eu.fix≤(apply eu.mem d.us).length:=by rw[eo];exact hs.fix
   dsimp only
   rw[linearise_go_acc,Hn,H0]
   have Ei:=sH vh
   have Em:=Cs (E:=E) vh
   obtain⟨w1,w2,w3⟩:=nP hs (ops:=ops) (o:=o)
   have go : ∀(g2:Gh) (cv:Value) (w':World),VA g2 w' d.v cv→Rel g2 (apply eu.mem d.us) w'→Ext g w g2 w'→dm g eu.mem w g2 (apply eu.mem d.us) w' →
     Steps P (lone (b.atR a (.inRegion ops (i::aal .any ops fuel (t / (yb .any ops S).length) (S.setIfInBounds i true) [])::k)) cs w)
      (lone (b.atR (a.put o.dst cv) (.inRegion ops (aal .any ops fuel (t / (yb .any ops S).length) (S.setIfInBounds i true) [])::k)) cs w') →
     ∃g' a' w',Steps P (lone (b.atR a (.inRegion ops (i::aal .any ops fuel (t / (yb .any ops S).length) (S.setIfInBounds i true) [])::k)) cs w) (lone (b.atR a' (.inRegion ops (xb m (ops.size-m))::k)) cs w')∧a'.defers=a.defers∧cA E g' st' a' w' ∧
      dm g eu.mem w g' st'.mem w'∧bO g g' gi.fix ∧ ∀i c,g.bL i=some c→g'.bL i=some c:=by
    intro g2 cv w' k2 k3 k4 k5 kst
    have hs':=hs.put ZR k2 k4 k3 W4
    obtain⟨g3,a3,w3',r1,r2,r3,r4,r5,r6⟩:=ih (t / (yb .any ops S).length) (S.setIfInBounds i true) _ _ _ _ (u.erase i) (by rw[←hput];exact ZQ) (by rw[Rr];exact hM') hs' Oo NQ W3
    rw[Rr] at r4
    refine⟨g3,a3,w3',kst.trans r1,r2.trans put_defers,r3,k5.trans r4,(bO.qa k4 _).trans r5,fun j c q=>r6 j c (k4.bL j c q).1⟩
   rcases hk with⟨hw,Si⟩ | ⟨hw,rfl,rfl⟩
   · have iD:xo o (yielded ops a.tmps)=true:=by
      rcases hw with hw | ⟨s',b',want,hw,hb⟩
      · exact w1 (Ei.trans hw)
      · rw[(w3 s' b' want (Ei.trans hw)).1];exact hb
     rcases Si with⟨gf,args,v,m1,ht,fj,h1,h2,h3,h4,h5⟩ | ⟨ht,Sj,hop,hfp,adG,h3,h4,hld⟩
     · have rG : ∀b∈d.fp,eu.mem[b]? = iC.mem[b]? :=fun b hb=>(hag b hb).resolve_right fun⟨_,x,_,q⟩=>by rw[h5] at q;cases q
       have Ox:target (ev E eu.tm) o=some (gf,args):=(AM Em).trans ht
       have Sk:d.fp=close iC.mem 0 args++xb vn (m1.length-(close iC.mem 0 args).length):=by rw[h5];rfl
       have aat:close eu.mem 0 args=close iC.mem 0 args:=Cw KD.symm fun j hj=>(vr (rG j (by rw[Sk];exact Hc _ hj))).symm
       have W5:pack eu.mem (close iC.mem 0 args)=pack iC.mem (close iC.mem 0 args):=ET fun j hj=>(vr (rG j (by rw[Sk];exact Hc _ hj))).symm
       obtain⟨hnd,_⟩:=eR iC.mem 0 args
       generalize close iC.mem 0 args=ord at *
       rw[←W5] at fj
       have hR : ∀j∈xb vn (m1.length-ord.length),eu.mem[j]? = some .free:=by
        intro j hj
        rw[rG j (by rw[Sk];exact Hb _ hj)]
        rw[H3] at hj
        exact W2 j hj.1 (by omega)
       have aau:(ord++xb vn (m1.length-ord.length)).Nodup:=List.nodup_append.2 ⟨hnd,List.nodup_range',fun x hx y hy e=>by
        subst e
        rw[H3] at hy
        have:=h2 x hx;omega⟩
       have RR : ∀j∈ord++xb vn (m1.length-ord.length),j<eu.mem.length:=by
        intro j hj
        rcases oE.1 hj with q | q
        · have:=h2 j q;omega
        · rw[H3] at q;omega
       obtain⟨⟨fn,Oh,Oi,Oj⟩,fj⟩:=fj
       unfold target at Ox
       split at Ox
       · rename_i call aav
         split at Ox
         · rename_i x xT
           split at Ox
           · rename_i f' first captured hx
             simp only[dq,kc] at Ox
             obtain⟨rfl,Sl⟩:=Ox
             have xN:=fV hs x
             rw[hx,VA.fns] at xN
             obtain⟨fa,ca,xN,Sb,hca⟩:=xN
             have W6:=ve (P:=P) (w:=w) aav xT xN Oh Oi Oj
             have hargs:cY g w args (fa++call.args.map a.eval++ca).toList:=by
              rw[←Sl]
              simp only[zt,ik]
              exact(Sb.append (gq (fV hs) _)).append hca
             obtain⟨Kq,Kr⟩:=hs.rel.pack hnd
             have lQ:=dn.pack g ord
             obtain⟨w',g',cv,fr,q1,q2,q3,q4,q5,q6,q7,q8⟩:=fj (g.pack ord) w (fa++call.args.map a.eval++ca) (b.atR a (.inRegion ops (i::aal .any ops fuel (t / (yb .any ops S).length) (S.setIfInBounds i true) [])::k)::cs) Kq
              (cY.iI lQ hargs) (hs.dS.mono fun _ _ p=>⟨p,rfl⟩)
             have hlen:(Am.pack eu.mem ord).length=ord.length:=by simp[Am.pack]
             rw[hlen] at q7 q8
             obtain⟨g2,r1,r2,r3,r4⟩:=hs.rel.Sh aau RR hR q5 q6 q7 (by simp;omega)
             have AD:d.us=(ord++xb vn (m1.length-ord.length)).zip (m1.map (fq (bC (ord++xb vn (m1.length-ord.length)) eu.mem.length))):=by rw[h5,KD];rfl
             have hdv:d.v=iI (bC (ord++xb vn (m1.length-ord.length)) eu.mem.length) v:=by rw[h5,KD];rfl
             rw[←AD] at r1 r3
             have hstep:=oP (b:=b) (k:=k) (cs:=cs) (rest:=aal .any ops fuel (t / (yb .any ops S).length) (S.setIfInBounds i true) []) ho iD W6
             have hleave:=step_leave_returned (P:=P) (c:=b.atR a (.inRegion ops (i::aal .any ops fuel (t / (yb .any ops S).length) (S.setIfInBounds i true) [])::k)) (cs:=cs) q2
             rw[yo,ho] at hleave
             exact go g2 cv w' (by rw[hdv];exact q4.iI r4) r1 r2 r3 (.head hstep (q1.trans (.one hleave)))
           · cases Ox
         · cases Ox
       · cases Ox
     · have both:(sv P (fun j=>eu.mem.getD j .dead) (wr o) vn (ev E eu.tm) o=some (d.v,d.us,true))∧(makes o=true→eu.mem[vn]? = some .free):=by
        by_cases hsp : ∃b x,d.us=[]∧eu.mem[b]? = some x∧d.ld b x=true
        · obtain⟨b,x,AD,hx,Cy⟩:=hsp
          rw[hld] at Cy
          unfold RP at Cy
          split at Cy
          · rename_i t a Sm
            split at Cy
            · rename_i c off aaw
              simp only[dp] at Cy
              obtain⟨hcb,Oe⟩:=Cy
              have hcb:=bx hcb
              subst hcb
              split at Oe
              · rename_i v' ok hlo
                simp only[dp] at Oe
                obtain⟨rfl,hv'⟩:=Oe
                have hv':=lI hv'
                subst hv'
                have hrd:(fun j=>eu.mem.getD j aN.dead) c=x:=by
                 show eu.mem.getD c .dead=x
                 rw[di,hx];rfl
                have jH:kq P (fun j=>eu.mem.getD j .dead) t (.mp c off)=kq P (fun _=>x) t (.mp c off):=by
                 simp only[kq,ot (rd:=fun j=>eu.mem.getD j aN.dead) (rd':=fun _=>x) (a:= .mp c off) (fun b hb=>by
                  have:b=c:=by simpa[refs] using hb
                  subst this;exact hrd)]
                refine⟨?_,fun hm=> ?_⟩
                · have e1:ev E eu.tm a = .mp c off:=by rw[Em a (by rw[Sm];simp[aaj]),aaw]
                  simp only[sv,Sm,e1,jH,hlo,gL,iv,AD]
                · simp[makes,Sm] at hm
              · cases Oe
            · cases Cy
          · cases Cy
        · have rG : ∀b∈d.fp,eu.mem[b]? = iC.mem[b]? :=fun b hb=>(hag b hb).resolve_right fun⟨q0,x,q1,q2⟩=>hsp ⟨b,x,q0,q1,q2⟩
          refine⟨?_,fun hm=> ?_⟩
          · rw[←hop]
            refine(Ot Sj (fun x hx=>(Em x hx).symm) fun j hj=> ?_).symm
            exact(vr (rG j (by rw[hfp];exact Hb _ (Hc _ hj)))).symm
          · rw[rG vn (by rw[hfp,hm];exact Hb _ (Hb _ (by simp)))]
            rw[hm] at h3
            simp only[cond_true] at h3
            exact W2 vn (dd _) (by omega)
       obtain⟨aay,hfree⟩:=both
       obtain⟨cv,w',g',k1,k2,k3,k4,k5⟩:=nO hs.rel (fV hs) (fun _=>rfl) hfree aay
       exact go g' cv w' k2 k3 k4 k5 (.one (qc ho iD k1))
   · have iD:xo o (yielded ops a.tmps)=false:=by
      rcases hw with hw | ⟨s',b',want,hw,hb⟩
      · exact w2 (Ei.trans hw)
      · rw[(w3 s' b' want (Ei.trans hw)).1];exact hb
     refine go g undef w (VA.mA.2 trivial) hs.rel (Ext.refl g w) (dm.refl _ _ _) (.one ?_)
     have hst:=stepR_op_skip (P:=P) (b:=b) (a:=a) (k:=k) (cs:=cs) (w:=w) (ops:=ops) (i:=i) (rest:=aal .any ops fuel (t / (yb .any ops S).length) (S.setIfInBounds i true) []) (by simp[ho,iD])
     simpa only[ho,tc] using hst
theorem sM : ∀{m:Mem},tY m=true → ∀(i:Nat) (b:aN),m[i]? = some b→b = .free
 |[],_,i,b,h=>by simp at h
 |x::r,h,i,b,hb=>by
  cases x with
  |free=>
   cases i with
   |zero=>simpa using hb.symm
   |succ i=>exact sM (m:=r) h i b (by simpa using hb)
  |_=>cases h
theorem Rel.trim {g:Gh} {m:Mem} {w:World} (h:Rel g m w) {n:Nat} (hf:tY (m.drop n)=true):Rel g (m.take n) w∧dm g m w g (m.take n) w:=by
 have get : ∀i b,(m.take n)[i]? = some b→m[i]? = some b:=fun i b hb=>by
  rw[du] at hb
  split at hb
  · exact hb
  · cases hb
 refine⟨⟨fun i hi=> ?_,fun i hi=>h.free i (get i _ hi),fun i b l hi hb=>h.cells i b l (get i b hi) hb,fun i c hi hc=>h.tok i c (get i _ hi) hc,
  fun i j b b' c hi hj ho ho' hc eB=>h.inj i j b b' c (get i b hi) (get j b' hj) ho ho' hc eB,h.there,fun i k l hi=>h.obs i k l (get i _ hi)⟩,dm.less fun c ⟨i,b,hi,ho,hc⟩=>⟨i,b,get i b hi,ho,hc⟩⟩
 rcases gg i m.length with q | q
 · rw[eQ] at hi
   have hb:(m.drop n)[i-n]? = some m[i]:=by
    rw[List.getElem?_drop,show n+(i-n)=i by omega]
    exact de q
   have:=sM hf _ _ hb
   exact h.free i (by rw[de q,this])
 · exact h.sw i q
theorem Rel.cO {g:Gh} {w:World} : ∀(n:Nat) {m:Mem},Rel g m w→Rel g (m++cO n) w∧dm g m w g (m++cO n) w
 |0,m,h=>by
  simp only[Am.cO,List.replicate_zero,Lk]
  exact⟨h,dm.refl _ _ _⟩
 |n+1,m,h=>by
  obtain⟨h1,h2⟩:=h.reserve
  obtain⟨h3,h4⟩:=Rel.cO n h1
  have e:m++Am.cO (n+1)=(m++[.free])++Am.cO n:=by simp[Am.cO,List.replicate_succ]
  rw[e]
  exact⟨h3,h2.trans h4⟩
theorem qg {x:Nat} : ∀{n:Nat},tV x n=true → ∀j,j<n→da x j=true
 |0,_,j,h=>absurd h (tz _)
 |n+1,h,j,hj=>by
  simp only[tV,dp] at h
  rcases gg j n with q | q
  · exact qg h.2 j q
  · have:j=n:=by omega
    subst this;exact h.1
theorem AN (ops:Array Oper):gh ops≤ops.size∧(gh ops=ops.size∨(gh ops+1=ops.size ∧ ∀j,j<gh ops→da ((masks [] ops.toList).getD (gh ops) 0) j=true)):=by
 unfold gh
 cases h:qY ops with
 |false=>exact⟨dd _,.inl rfl⟩
 |true=>
  simp only[cond_true]
  refine⟨by omega,?_⟩
  unfold qY at h
  simp only[dp] at h
  obtain⟨h1,h2⟩:=h
  have hp:0<ops.size:=by
   rcases Nat.eq_zero_or_pos ops.size with e | e
   · rw[show ops[ops.size-1]? = none from zr (by omega)] at h1;cases h1
   · exact e
  exact .inr ⟨by omega,fun j hj=>qg h2 j hj⟩
theorem xV.W7 {wr:Oper→Bool} {ops:Array Oper} {m:Nat} {st st':St} {nx oh:Nat} {ds:List gz} (h:xV P E wr ops (ops.toList.take m) st nx ds st' oh) (hm:m≤ops.size) (hu:Cq ops.toList) (hn:nx≤st.mem.length) (hfr:kS nx st.mem) :
  Rq P E wr ops m st (ds++df (ops.size-m) ⟨.aK [],[],[],fun _ _=>false⟩) st'∧ds.length=m∧st'.mem=mj st.mem ds∧st'.fix=st.fix:=by
 have get : ∀i,i<m→(ops.toList.take m)[i]? = ops.toList[i]? :=fun i hi=>by rw[du,if_pos hi]
 have NQ:Cq (ops.toList.take m):=by
  intro i j p q t hij hp hq
  rw[du] at hp hq
  split at hp
  · split at hq
    · exact hu i j p q t hij hp hq
    · cases hq
  · cases hp
 have hlen:(ops.toList.take m).length=m:=by simp;omega
 obtain⟨h1,h2,h3,_,h4⟩:=h.spec NQ hn hfr
 rw[hlen] at h1 h2
 have slots : ∀{i:Nat} {T:St},i≤m→dI (ops.toList.take m) (ds.map (·.v)) st i T→dI ops.toList ((ds++df (ops.size-m) (⟨.aK [],[],[],fun _ _=>false⟩:gz)).map (·.v)) st i T:=by
  intro i T hi ⟨q1,q2,q3,q4,q5⟩
  refine⟨q1,q2,q3,fun j p v t hj hp hv ht=>q4 j p v t hj (by rw[get j (by omega)];exact hp) ?_ ht,fun t ht=>q5 t fun j p hj hp=>ht j p hj ?_⟩
  · rw[List.map_append,o6 (by simp;omega)] at hv;exact hv
  · rw[get j (by omega)] at hp;exact hp
 refine⟨⟨by simp;omega,slots (dd _) h2,?_,?_,?_⟩,h1,h3,h2.2.2.1⟩
 · rw[o0 (by omega),List.take_of_length_le (by omega)];exact h3
 · intro i o ho hi
   obtain⟨d,iC,vn,Cv,q1,q2,q3,q4,q5,q6,q7⟩:=h4 i o (by rw[get i hi];exact ho)
   refine⟨d,iC,vn,Cv,by rw[o6 (by omega)];exact q1,q2,q3,slots (by omega) q4,?_,q6,q7⟩
   rw[o0 (by omega)];exact q5
 · intro i e hi he
   rw[Hm (by omega),H2] at he
   split at he
   · cases he;rfl
   · cases he
theorem WY.pad {L:List Nat} {ds:List gz} {n:Nat} (h : ∀(i j:Nat) (d e:gz),j<i→ds[i]? = some d→ds[j]? = some e→da (L.getD i 0) j=true∨((∀b∈e.w,b∉d.fp)∧((∀b∈d.w,b∉e.fp)∨Ou d e))) :
  WY L (ds++df n ⟨.aK [],[],[],fun _ _=>false⟩):=by
 refine⟨fun i j d e hj hd he=> ?_⟩
 rcases gg i ds.length with q | q
 · exact h i j d e hj (by rw[o6 q] at hd;exact hd) (by rw[o6 (by omega)] at he;exact he)
 · rw[Hm q,H2] at hd
   split at hd
   · cases hd
     exact .inr ⟨fun b _=>by simp,.inl fun b hb=>by simp at hb⟩
   · cases hd
theorem Sn {g:Gh} {w:World} {b:Frame} {a:Act} {k:List It} {ops:Array Oper} {f bY:Nat} {O:FuncId→List AV→Mem→Option (AV×Mem)} {st st':St} (hO : ∀g args m v m1,O g args m=some (v,m1)→au P E g args m v m1)
  (hs:cA E g st a w) (h:jC P E f bY O ops st=some (st',true)) :
  ∀cs,∃g' a' w',Steps P (lone (b.atR a (.code (.region bY ops true)::dR k)) cs w) (lone (b.atR a' (dR (ia bY ops k))) cs w')∧a'.defers=a.defers∧cA E g' st' a' w' ∧
   dm g st.mem w g' st'.mem w'∧bO g g' st.fix∧st'.fix=st.fix ∧ ∀i c,g.bL i=some c→g'.bL i=some c:=by
 intro cs
 unfold jC at h
 split at h
 · rename_i Ol nx ds ok hq
   simp only[dq,kc,dp] at h
   obtain⟨rfl,rfl,KB,Sj,hfree,hnx,Sf⟩:=h
   have hnx:=ft hnx
   have hrun:=rE hO hq
   obtain⟨hQ,_⟩:=tG.of KB
   obtain⟨aaA,aaB⟩:=AN ops
   have hL:WY (masks [] ops.toList) (ds++df (ops.size-gh ops) ⟨.aK [],[],[],fun _ _=>false⟩):=WY.pad fun i j d e hj hd he=>sK (mz:=[]) Sj i j d e (aai _) hj hd he
   obtain⟨Sg,Wv⟩:=hs.rel.cO (60+ops.size)
   have hs1:cA E g {st with mem:=st.mem++cO (60+ops.size)} a w:=⟨hs.tm,hs.nt,Sg,by simp;have:=hs.fix;omega,hs.dS⟩
   have hgd : ∀j,(yv ops.size false).getD j false=false:=by
    intro j
    rw[xi,Fs]
    split<;>rfl
   have hfr:kS st.mem.length (st.mem++cO (60+ops.size)):=by
    intro i hi hl
    rw[Hm hi]
    simp only[cO,List.length_append,List.length_replicate] at hl ⊢
    rw[H2,if_pos (by omega)]
   have ZM:st.mem.length≤(st.mem++cO (60+ops.size)).length:=by simp
   obtain⟨hspec,hdl,hmem,m9⟩:=hrun.W7 aaA hQ.uniq ZM hfr
   generalize hds:ds++df (ops.size-gh ops) (⟨.aK [],[],[],fun _ _=>false⟩:gz)=ds2 at *
   have hI:mB ops (masks [] ops.toList) (ds2.map (·.v)) {st with mem:=st.mem++cO (60+ops.size)} {st with mem:=st.mem++cO (60+ops.size)} (yv ops.size false):=
    ⟨by simp,rfl,rfl,rfl,fun j _ _ _ hj=>(by rw[hgd] at hj;cases hj),fun _ _=>rfl,fun i _ hi=>(by rw[hgd] at hi;cases hi)⟩
   have hM:jK ds2 (st.mem++cO (60+ops.size)) (fun j=>(yv ops.size false).getD j false=true) (st.mem++cO (60+ops.size)):=jK.nil fun j q=>by rw[hgd] at q;cases q
   have hs2:=hs1.drew (w.drawn+1)
   obtain⟨g',a',w',r1,r2,r3,r4,r5,r6⟩:=Ow (P:=P) (E:=E) (b:=b) (k:=dR k) cs hQ hL hspec aaB ops.size (w.tape w.drawn (.order b.fn bY)) (yv ops.size false) {st with mem:=st.mem++cO (60+ops.size)} a g _ (fl ops.size) hI hM hs2 (by simp) (fun i hi _=>PH.2 hi) (fun i _=>hgd i)
   obtain⟨t1,t2⟩:=r3.rel.trim hfree
   have hlen:Ol.mem.length=st.mem.length+(60+ops.size):=by rw[hmem,lS];simp[cO]
   have m9:Ol.fix=st.fix:=m9
   refine⟨g',a',w',?_,r2,⟨r3.tm,r3.nt,t1,?_,r3.dS⟩,?_,r5,m9,r6⟩
   · refine .head stepR_region_draw ?_
     have KC:ye (P.follows .mixedOrders) ops (w.tape w.drawn (.order b.fn bY))=aal .any ops ops.size (w.tape w.drawn (.order b.fn bY)) (yv ops.size false) []:=by
      simp only[ye,Sf,if_true,yn]
     rw[KC]
     unfold ia
     unfold gh at r1
     cases Cx:qY ops with
     |false=>
      rw[Cx] at r1
      simp only[cond_false,QP,If] at r1 ⊢
      exact r1.trans (.one stepR_region_end)
     |true=>
      rw[Cx] at r1
      simp only[cond_true] at r1 ⊢
      exact r1
   · have:=hs.fix
     show Ol.fix≤(Ol.mem.take nx).length
     rw[eQ,m9]
     omega
   · have hst:dm g (st.mem++cO (60+ops.size)) w g (st.mem++cO (60+ops.size)) {w with drawn:=w.drawn+1}:=⟨dd _,fun _ _ _=>rfl,fun _ _ h=>⟨h,rfl⟩,fun _ _ h=> .inl h,fun _ h=> .inl h,rfl,rfl,rfl⟩
     exact((Wv.trans hst).trans r4).trans t2
 · cases h
def tJ (s t:St):Prop:=s.nt=t.nt∧s.fix=t.fix∧s.mem=t.mem ∧ ∀k,look s.tm k=look t.tm k
theorem tJ.refl (s:St):tJ s s:=⟨rfl,rfl,rfl,fun _=>rfl⟩
theorem yT {a b:qK} : ∀{l:List Nat},N4 a b l=true → ∀k∈l,look a k=look b k
 |[],_,k,h=>by cases h
 |x::r,h,k,hk=>by
  simp only[N4,dp] at h
  rcases Hk.1 hk with rfl | hk
  · exact lI h.1
  · exact yT h.2 k hk
theorem rH : ∀{a:qK} {k:Nat},k∉a.map (·.1)→look a k = .aT
 |[],_,_=>rfl
 |(j,v)::r,k,h=>by
  simp only[uv,Hk,not_or] at h
  simp only[look]
  cases hb:bj j k with
  |true=>exact absurd (bx hb).symm h.1
  |false=>exact rH h.2
theorem HL {s t:St} (h:RO s t=true):tJ s t:=by
 simp only[RO,dp] at h
 obtain⟨h1,h2,_,h3,h4⟩:=h
 refine⟨bx h1,bx h2,mM h3,fun k=> ?_⟩
 by_cases hk:k∈s.tm.map (·.1)++t.tm.map (·.1)
 · exact yT h4 k hk
 · rw[oE,not_or] at hk
   rw[rH hk.1,rH hk.2]
def Has (l:List Pt) (q:Pt):Prop:= ∃p∈l,p.1=q.1∧tJ q.2 p.2
theorem yU {q:Pt} : ∀{l:List Pt},BY q l=true→Has l q
 |[],h=>by cases h
 |p::r,h=>by
  simp only[BY,j1] at h
  rcases h with h | h
  · simp only[WI,dp] at h
    exact⟨p,.head _,(Array.toList_inj.1 (uE h.1)).symm,HL h.2⟩
  · obtain⟨x,h1,h2⟩:=yU h
    exact⟨x,.tail _ h1,h2⟩
theorem yV {q:Pt} {l:List Pt}:Has (BZ q l) q ∧ ∀x∈l,x∈BZ q l:=by
 unfold BZ
 cases h:BY q l with
 |true=>exact⟨yU h,fun _ hx=>hx⟩
 |false=>exact⟨⟨q,.head _,rfl,tJ.refl _⟩,fun _ hx=> .tail _ hx⟩
theorem Has.mono {l l':List Pt} {q:Pt} (h:Has l q) (hl : ∀x∈l,x∈l'):Has l' q:=by
 obtain⟨p,h1,h2⟩:=h
 exact⟨p,hl p h1,h2⟩
theorem sN {f:FuncId} {ops:Array Oper} {q:Pt} : ∀{is:List Nat} {l l':List Pt},pK P E f ops q is l=some l' →
  (∀x∈l,x∈l') ∧ ∀i∈is,∃st,FW P E f ops i q.2=some st∧Has l' (q.1.setIfInBounds i true,st)
 |[],l,l',h=>by
  simp only[pK,dq] at h
  subst h
  exact⟨fun _ hx=>hx,fun i hi=>by cases hi⟩
 |i::r,l,l',h=>by
  simp only[pK] at h
  split at h
  · rename_i st hst
    obtain⟨h1,h2⟩:=sN h
    obtain⟨k1,k2⟩:=yV (q:=(q.1.setIfInBounds i true,st)) (l:=l)
    refine⟨fun x hx=>h1 x (k2 x hx),fun j hj=> ?_⟩
    rcases Hk.1 hj with rfl | hj
    · exact⟨st,hst,k1.mono h1⟩
    · exact h2 j hj
  · cases h
theorem nQ {f:FuncId} {ops:Array Oper} : ∀{l acc l':List Pt},level P E f ops l acc=some l' →
  (∀x∈acc,x∈l') ∧ ∀q∈l,(yb .any ops q.1=[]→Has l' q) ∧ ∀i∈yb .any ops q.1,∃st,FW P E f ops i q.2=some st∧Has l' (q.1.setIfInBounds i true,st)
 |[],acc,l',h=>by
  simp only[level,dq] at h
  subst h
  exact⟨fun _ hx=>hx,fun q hq=>by cases hq⟩
 |q::r,acc,l',h=>by
  simp only[level] at h
  split at h
  · rename_i hr
    obtain⟨h1,h2⟩:=nQ h
    obtain⟨k1,k2⟩:=yV (q:=q) (l:=acc)
    refine⟨fun x hx=>h1 x (k2 x hx),fun p hp=> ?_⟩
    rcases Hk.1 hp with rfl | hp
    · exact⟨fun _=>k1.mono h1,fun i hi=>by rw[hr] at hi;cases hi⟩
    · exact h2 p hp
  · rename_i hr
    split at h
    · rename_i l1 hn
      obtain⟨h1,h2⟩:=nQ h
      obtain⟨k1,k2⟩:=sN hn
      refine⟨fun x hx=>h1 x (k1 x hx),fun p hp=> ?_⟩
      rcases Hk.1 hp with rfl | hp
      · refine⟨fun e=>absurd e hr,fun i hi=> ?_⟩
        obtain⟨st,q1,q2⟩:=k2 i hi
        exact⟨st,q1,q2.mono h1⟩
      · exact h2 p hp
    · cases h
theorem tJ.trans {a b c:St} (h:tJ a b) (k:tJ b c):tJ a c:=⟨h.1.trans k.1,h.2.1.trans k.2.1,h.2.2.1.trans k.2.2.1,fun x=>(h.2.2.2 x).trans (k.2.2.2 x)⟩
theorem cA.like {g:Gh} {w:World} {st st':St} {a:Act} (h:cA E g st a w) (q:tJ st st'):cA E g st' a w:=h.same q.2.2.1 q.1 q.2.1 q.2.2.2
theorem qh {f:FuncId} {ops:Array Oper} : ∀(n:Nat) {l l':List Pt},levels P E f ops n l=some l' → ∀q∈l,yb .any ops q.1=[]→Has l' q
 |0,l,l',h,q,hq,_=>by
  simp only[levels,dq] at h
  subst h
  exact⟨q,hq,rfl,tJ.refl _⟩
 |n+1,l,l',h,q,hq,hr=>by
  simp only[levels] at h
  split at h
  · rename_i l1 hl
    obtain⟨p,h1,h2,h3⟩:=(((nQ hl).2 q hq).1 hr)
    obtain⟨x,k1,k2,k3⟩:=qh n h p h1 (by rw[h2];exact hr)
    exact⟨x,k1,k2.trans h2,h3.trans k3⟩
  · cases h
theorem KE {b:Frame} {k:List Item} {f:FuncId} {ops:Array Oper} : ∀(n:Nat) (l l':List Pt),levels P E f ops n l=some l' → ∀(q:Pt),q∈l → ∀(t:Nat) (a:Act) (g:Gh) (w:World),cA E g q.2 a w →
  ∃st'∈l'.map (·.2),∃g' a' w',(∀cs,Steps P (lone (b.atR a (.inRegion ops (aal .any ops n t q.1 [])::k)) cs w) (lone (b.atR a' (.inRegion ops []::k)) cs w'))∧a'.defers=a.defers∧cA E g' st' a' w' ∧
   dm g q.2.mem w g' st'.mem w'∧bO g g' q.2.fix∧st'.fix=q.2.fix ∧ ∀i c,g.bL i=some c→g'.bL i=some c
 |0,l,l',h,q,hq,t,a,g,w,hs=>by
  simp only[levels,dq] at h
  subst h
  exact⟨q.2,fi.2 ⟨q,hq,rfl⟩,g,a,w,fun cs=>aan _ _,rfl,hs,dm.refl _ _ _,bO.refl _ _,rfl,fun _ _ q=>q⟩
 |n+1,l,l',h,q,hq,t,a,g,w,hs=>by
  have h0:=h
  simp only[levels] at h
  split at h
  · rename_i l1 hl
    simp only[aal]
    show ∃st'∈l'.map (·.2),∃g' a' w',(∀cs,Steps P (lone (b.atR a (.inRegion ops (match(yb .any ops q.1)[t%(yb .any ops q.1).length]? with
     |some i=>aal .any ops n (t / (yb .any ops q.1).length) (q.1.setIfInBounds i true) [i]
     |none=>[].reverse)::k)) cs w) (lone (b.atR a' (.inRegion ops []::k)) cs w'))∧_
    obtain⟨_,k2⟩:=(nQ hl).2 q hq
    cases hr:(yb .any ops q.1)[t%(yb .any ops q.1).length]? with
    |none=>
     have Ky:yb .any ops q.1=[]:=by
      cases hz:yb .any ops q.1 with
      |nil=>rfl
      |cons x xs=>
       rw[hz] at hr
       have hlt:t%(x::xs).length<(x::xs).length:=rb _ (by simp)
       rw[de hlt] at hr;cases hr
     obtain⟨p,p1,p2,p3⟩:=qh (n+1) h0 q hq Ky
     exact⟨p.2,fi.2 ⟨p,p1,rfl⟩,g,a,w,fun cs=>aan _ _,rfl,hs.like p3,by rw[←p3.2.2.1];exact dm.refl _ _ _,bO.refl _ _,p3.2.1.symm,fun _ _ q=>q⟩
    |some i=>
     dsimp only
     rw[linearise_go_acc,Hn,H0]
     obtain⟨st,he,p,p1,p2,p3⟩:=k2 i (oi hr)
     have p2:p.1=q.1.setIfInBounds i true:=p2
     have p3:tJ st p.2:=p3
     unfold FW at he
     split at he
     · cases he
     · rename_i o ho
       split at he
       · rename_i hw
         dsimp only at he
         split at he
         · rename_i v us ok hop
           cases hok:(ok&&fits q.2 o.dst) with
           |false=>rw[hok] at he;cases he
           |true=>
            rw[hok] at he
            simp only[cond_true,dq] at he
            subst he
            simp only[dp] at hok
            obtain⟨rfl,hf⟩:=hok
            have iD:=(nP hs (ops:=ops) (o:=o)).1 hw
            have hres:Rel g (reserve o q.2.mem) w∧dm g q.2.mem w g (reserve o q.2.mem) w:=by
             unfold reserve
             cases makes o with
             |true=>exact hs.rel.reserve
             |false=>exact⟨hs.rel,dm.refl _ _ _⟩
            have hfree:makes o=true→(reserve o q.2.mem)[q.2.mem.length]? = some .free:=by
             intro hm
             simp[reserve,hm]
            obtain⟨cv,w1,g1,k1,k2,k3,k4,k5⟩:=nO hres.1 (fV hs) (fun _=>rfl) hfree hop
            have m5:q.2.fix≤(apply (reserve o q.2.mem) us).length:=by
             rw[eo]
             have:=hs.fix
             unfold reserve
             cases makes o<;>simp<;>omega
            have hs1:=(hs.put hf k2 k4 k3 m5).like p3
            have hm:p.2.mem=apply (reserve o q.2.mem) us:=by rw[←p3.2.2.1,sJ]
            have hx:p.2.fix=q.2.fix:=by rw[←p3.2.1];cases o.dst<;>rfl
            obtain⟨st2,r0,g2,a2,w2,r1,r2,r3,r4,r5,r6,r7⟩:=KE (b:=b) (k:=k) n l1 l' h p p1 (t / (yb .any ops q.1).length) _ _ _ hs1
            rw[hm] at r4
            rw[hx] at r5 r6
            rw[p2] at r1
            exact⟨st2,r0,g2,a2,w2,fun cs=> .head (qc ho iD k1) (r1 cs),r2.trans put_defers,r3,(hres.2.trans k5).trans r4,(bO.qa k4 _).trans r5,r6,fun i c q=>r7 i c (k4.bL i c q).1⟩
         · cases he
       · cases he
  · cases h
theorem Oy {g:Gh} {w:World} {b:Frame} {a:Act} {k:List Item} {ops:Array Oper} {f bY:Nat} {st:St} {sts:List St} (hs:cA E g st a w) (h:An P E f ops st=some sts) :
  ∃st'∈sts,∃g' a' w',(∀cs,Steps P (lone (b.atR a (.code (.region bY ops true)::k)) cs w) (lone (b.atR a' k) cs w'))∧a'.defers=a.defers∧cA E g' st' a' w' ∧
   dm g st.mem w g' st'.mem w'∧bO g g' st.fix∧st'.fix=st.fix ∧ ∀i c,g.bL i=some c→g'.bL i=some c:=by
 unfold An at h
 cases hc:((J7 ops||J8 P ops)&&(P.follows .mixedOrders || !Region.departs ops)) with
 |false=>rw[hc] at h;cases h
 |true=>
  rw[hc] at h
  simp only[cond_true,Option.map_eq_some_iff] at h
  simp only[dp] at hc
  obtain⟨l',h1,rfl⟩:=h
  obtain⟨st',h2,g',a',w',r1,r2,r3,r4,r5,r6,r7⟩:=KE (b:=b) (k:=k) _ _ _ h1 (yv ops.size false,st) (.head _) (w.tape w.drawn (.order b.fn bY)) a g _ (hs.drew (w.drawn+1))
  refine⟨st',h2,g',a',w',fun cs=> ?_,r2,r3,?_,r5,r6,r7⟩
  · refine .head stepR_region_draw ?_
    have KC:ye (P.follows .mixedOrders) ops (w.tape w.drawn (.order b.fn bY))=aal .any ops ops.size (w.tape w.drawn (.order b.fn bY)) (yv ops.size false) []:=by
     simp only[ye,hc.2,if_true,yn]
    rw[KC]
    exact(r1 cs).trans (.one stepR_region_end)
  · have hst:dm g st.mem w g st.mem {w with drawn:=w.drawn+1}:=⟨dd _,fun _ _ _=>rfl,fun _ _ h=>⟨h,rfl⟩,fun _ _ h=> .inl h,fun _ h=> .inl h,rfl,rfl,rfl⟩
    exact hst.trans r4
end
end Go.Am
end
