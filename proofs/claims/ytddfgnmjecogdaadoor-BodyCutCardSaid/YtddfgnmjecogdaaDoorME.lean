import Derived.Test.YtddfgnmjecogdaaDoorMD
import Derived.Laws.Externs
import Derived.KernelRfl
import Derived.Orders
open Go.Deferred renaming ofValue→M2
open Go.Sem renaming run_bind→km,run_pure→kp
open Go.Result renaming andThen_ok→kv
open Bool renaming and_eq_true→di,false_eq_true→pC,or_eq_true→kd,not_eq_true'→kh,false_or→qs,not_true→Pl
open Go.Region renaming ready→Ps,wanted→Lk,schedule→PH,binds→PQ,linearise→QP
open Go.Frame renaming finish_atR→QR,atR→SA
open Array renaming getD_eq_getD_getElem?→H5,replicate→SB,getElem?_eq_some_iff→SC,getElem?_eq_none→SD,toList_map→iv,toList_append→SE,getElem?_eq_getElem→ie,getElem?_replicate→SF,empty_append→SG
open Option.some renaming injEq→dk
open List renaming range'→H2,getElem?_eq_getElem→da,getElem?_eq_some_iff→dT,mem_append_right→SH,getElem?_append_left→pf,mem_append_left→SI,getD_eq_getElem?_getD→dd,getElem?_cons_zero→np,map_congr_left→SJ,mem_cons→oT,getElem?_append_right→SK,mem_of_getElem?→oe,reverse_singleton→SL,map_cons→pj,singleton_append→SM,getElem?_take→dq,getElem?_cons_succ→nz,getElem?_replicate→SN,mem_range'_1→SO,replicate→db,eq_nil_of_length_eq_zero→SP,take_append_of_le_length→pb,mem_append→o0,mem_map→fi,length_erase_of_mem→SQ,range'_zero→SR,append_nil→SS,getElem?_eq_none→ee,mem_erase_of_ne→SU,getElem?_map→fe,map_toArray→Ha,mem_toArray→SV,all_eq_true→SW,length_take→eQ,nil_append→SX,mem_range→SY,toArray→Hc,map_nil→Hb,range→fl
open Nat renaming testBit→bx,eq_of_beq_eq_true→a8,lt_or_ge→gg,not_lt_zero→zt,le_of_ble_eq_true→ft,le_refl→ch,lt_trichotomy→SZ,beq_refl→zr,sub_self→S0,strongRecOn→S1,mod_lt→rp,add_assoc→gv,add_comm→S2,beq→a6,zero_le→S3
open Prod.mk renaming injEq→kl
open Go.Op renaming operands→S4
open Go.Region.linearise renaming go→S5
open Go.Steps renaming refl→S6
open Option renaming bind_some→yv,map_some→jn
section
namespace Go.Am
open Go.RowKit
section
variable {P:Program} {E:Env} {g:Gh} {w:World}
theorem dI : ∀(us:lY) (m:Mem),(apply m us).length=m.length
 |[],_=>rfl
 |(i,b)::us,m=>by simp[apply,dI us]
def tK (P:Program) (E:Env) (g:Gh) (c:bA) (fr:Frame) (w:World) (l:List bA):Prop:=
 ∀cs,∃c'∈l,∃g' fr' w',Steps P (lone fr cs w) (lone fr' cs w')∧bZ P E g' c' fr' w'∧b7 g c.st.mem w g' c'.st.mem w'∧bf g g' c.st.fix∧c'.f=c.f∧c'.st.fix=c.st.fix∧c'.st.bI=c.st.bI
def y8 (P:Program) (E:Env) (g:Gh) (c:bA) (fr:Frame) (w:World):Ev→Prop
 |.next c'=>dQ P E g c fr w c'
 |.must b c'=>b=true→dQ P E g c fr w c'
 |.test b y z=>(b=true→dQ P E g c fr w y)∧(b=false→dQ P E g c fr w z)
 |.call f args m ord dst c'=>(∀v m1,aO P E f args m v m1→dQ P E g c fr w {c' with st:=back ord dst c'.st v m1}) ∧ ∀u m1,Fh P E f args m u m1→dQ P E g c fr w (l9 ord c' u m1)
 |.late f args m ord pv c'=> ∀m1,Fj P E f args m pv m1→dQ P E g c fr w {c' with st:=back ord none c'.st (.bn []) m1}
 |.round args m ord dst c'=> ∀v m1,CW P E args m v m1→dQ P E g c fr w {c' with st:=back ord dst c'.st v m1}
 |.range f args m ord L c'=> ∀v m1,aO P E f args m v m1 → ∀m2 pd,fH (back ord none c'.st v m1).mem L=some (m2,pd)→dQ P E g c fr w (behind c' m2 pd)
 |.draw bJ ops c'=> ∀(O:FuncId→List AV→Mem→Option (AV×Mem)) (st':St),(∀g args m v m1,O g args m=some (v,m1)→aO P E g args m v m1)→jk P E c'.f bJ O ops c'.st=some (st',true) →
    dQ P E g c fr w {c' with st:={st' with bS:=c'.st.bS,bI:=c'.st.bI}}
 |.fork l=>tK P E g c fr w l
 |.done (.ret v m')=>fr.fn=c.f∧m'=c.st.mem ∧ ∃cv w2,DP P c.st.bI fr w cv w2∧VA g w2 v cv∧Rel g m' w2∧b7 g m' w g m' w2∧c.st.fix≤m'.length
 |.done (.nk v m')=>fr.fn=c.f∧m'=c.st.mem ∧ ∃cv,fr.leaving P w (.panicked [{v:=cv,recovered:=false}])∧VA g w v cv∧Rel g m' w∧c.st.fix≤m'.length
 |.fail=>True
theorem nf {x:It} {k:List It} (hx:It.pl x) (hk : ∀y∈k,It.pl y) : ∀y∈x::k,It.pl y:=by
 intro y hy
 cases hy with
 |head=>exact hx
 |tail _ hy=>exact hk y hy
theorem bZ.mk {c:bA} {b:Frame} {a:Act} (hnf : ∀x∈c.todo,It.pl x) (h1:b.fn=c.f) (h2:dP g c.st.bI b) (h3:Mk g c.st.bS a.defers) (h4:bR E g c.st a w):bZ P E g c (b.atR a (cZ c.todo)) w:=by
 unfold bZ
 split
 · rename_i hk;exact absurd (hnf _ (by rw[hk];exact .head _)) id
 · rename_i hk;exact absurd (hnf _ (by rw[hk];exact .head _)) id
 · rename_i hk;exact absurd (hnf _ (by rw[hk];exact .head _)) id
 · rename_i hk;exact absurd (hnf _ (by rw[hk];exact .head _)) id
 · exact⟨b,a,rfl,h1,h2,h3,h4,hnf⟩
theorem dQ.quiet {c c':bA} {b:Frame} {a:Act} {fr:Frame} (hst : ∀cs,Steps P (lone fr cs w) (lone (b.atR a (cZ c'.todo)) cs w))
  (hnf : ∀x∈c'.todo,It.pl x) (h1:b.fn=c.f) (hf:c'.f=c.f) (h2:dP g c'.st.bI b) (h3:Mk g c'.st.bS a.defers) (h4:bR E g c'.st a w) (hm:c'.st.mem=c.st.mem) (hx:c'.st.fix=c.st.fix) (hr:c'.st.bI=c.st.bI:=by rfl):dQ P E g c fr w c':=by
 intro cs
 exact⟨g,_,w,hst cs,bZ.mk hnf (h1.trans hf.symm) h2 h3 h4,by rw[hm];exact b7.refl _ _ _,bf.refl _ _,hf,hx,hr⟩
theorem put_defers {a:Act} {d:Option Tmp} {v:Value}:(a.put d v).defers=a.defers:=by cases d<;>rfl
theorem JY {st:St} {d:Option Tmp} {v:AV}:(Am.put st d v).bS=st.bS:=by cases d<;>rfl
theorem gY {st:St} {d:Option Tmp} {v:AV}:(Am.put st d v).bI=st.bI:=by cases d<;>rfl
theorem dP.put {g g':Gh} {w w':World} {st st':St} {b:Frame} {d:Option Tmp} {u:AV} (h:dP g st.bI b) (e:Ext g w g' w') (hm:st'.bI=st.bI):dP g' (Am.put st' d u).bI b:=by
 rw[gY,hm]
 exact h.ext fun i c q=>(e.aN i c q).1
theorem Mk.put {g g':Gh} {w w':World} {st st':St} {a:Act} {d:Option Tmp} {v:Value} {u:AV} (h:Mk g st.bS a.defers) (e:Ext g w g' w') (hm:st'.bS=st.bS):Mk g' (Am.put st' d u).bS (a.put d v).defers:=by
 rw[put_defers,JY,hm]
 exact h.ext fun i c q=>(e.aN i c q).1
theorem uV {a:Act} {o:Oper} {c:Call} {x:Operand} {f:FuncId} {fa ca:Array Value} (ho:o.op = .call c) (hc:c.callee = .value x) (hx:a.eval x = .func (.func f) fa ca)
  {fn:Func} (hf:P.funcs[f]? = some fn) (hb:fn.body.isSome=true) (hn:(fn.name == "runtime.NumGoroutine")=false) :
  (execOp a.eval o).run P w = .ok (.enter f (fa++c.args.map a.eval++ca)) w:=by
 have Ma:fn.body.isNone=false:=by cases hq:fn.body<;>simp_all
 simp only[execOp,ho,resolve,hc,hx,M2,km,kp,kv,invoke,callFunc,run_program,hf,hn,pC,if_false,Ma]
theorem BW {b:Frame} {a:Act} {k:List Item} {cs:List Frame} {w':World} {ops:Array Oper} {i:Nat} {rest:List Nat} {o:Oper} {l:Nat} {f:FuncId} {tmps:Array Value} {as bd:Code} (ho:ops[i]? = some o)
  (hw:Lk o (yielded ops a.tmps)=true) (hr:(execOp a.eval o).run P w = .ok (.round l f tmps as bd) w') :
  _root_.Go.step P (lone (b.atR a (.inRegion ops (i::rest)::k)) cs w) = .next (lone (Frame.round l f tmps as bd .normal) (b.atR a (.inRegion ops (i::rest)::k)::cs) w'):=by
 have hg:=stepGR_op (P:=P) (b:=b) (k:=k) (cs:=cs) (w:=w) (rest:=rest) ho hw
 exact step_lone_go (by rw[hg,semAt_eq hr fun _ e=>by cases e];simp[stepG.apply,hr,SA])
theorem wJ {a:Act} {o:Oper} {c:Call} {x:Operand} {l:Nat} (ho:o.op = .call c) (hc:c.callee = .value x) (hx:a.eval x = .func (.yield l) #[] #[]) {n:Next} {w':World}
  (hy:(Instr.yield l (c.args.map a.eval)).run P w = .ok n w'):(execOp a.eval o).run P w = .ok n w':=by
 simp only[execOp,ho,resolve,hc,hx,M2,km,kp,kv,invoke,callFunc,SG]
 exact hy
theorem Fk {st:St} {a:Act} {b:Frame} {k:List Item} {ops:Array Oper} {i:Nat} {rest:List Nat} {o:Oper} {args:List AV} {v:AV} {m1:Mem}
  (hs:bR E g st a w) (hd:Mk g st.bS a.defers) (hb:dP g st.bI b) (ho:ops[i]? = some o) (hw:Lk o (yielded ops a.tmps)=true) (ht:tD (ev E st.tm) o=some args)
  (hf:fits st o.dst=true) (hlt:ig (close st.mem 0 args) st.mem.length=true)
  (eN:CW P E (ef (idx (close st.mem 0 args)) args) (pack st.mem (close st.mem 0 args)) v m1) :
  ∀cs,∃g' a' w',Steps P (lone (b.atR a (.inRegion ops (i::rest)::k)) cs w) (lone (b.atR a' (.inRegion ops rest::k)) cs w') ∧
   Mk g' (back (close st.mem 0 args) o.dst st v m1).bS a'.defers∧dP g' (back (close st.mem 0 args) o.dst st v m1).bI b∧bR E g' (back (close st.mem 0 args) o.dst st v m1) a' w' ∧
   b7 g st.mem w g' (back (close st.mem 0 args) o.dst st v m1).mem w'∧bf g g' st.fix∧(back (close st.mem 0 args) o.dst st v m1).fix=st.fix:=by
 intro cs
 have AD:=fK hs
 unfold tD at ht
 split at ht
 · rename_i call hop
   split at ht
   · rename_i x wK
     split at ht
     · rename_i bl hx
       simp only[dk] at ht
       subst ht
       have wB:=AD x
       rw[hx] at wB
       generalize hcx:a.eval x=cx at wB
       cases wB with
       |vy _ l hl=>
        have hin:bl∈close st.mem 0 (.vy bl::call.args.toList.map (ev E st.tm)):=by
         obtain⟨_,t,h2⟩:=dh (gJ (.vy bl::call.args.toList.map (ev E st.tm))) (upTo 0) (ju 0)
         obtain⟨_,t',h4⟩:=lq st.mem (st.mem.length+1) (gP (upTo 0) (gJ (.vy bl::call.args.toList.map (ev E st.tm)))) 0 (dh _ _ (ju 0)).1
         unfold close
         rw[h4]
         refine SI _ ?_
         show bl∈gP [] (bl::gJ (call.args.toList.map (ev E st.tm)))
         simp only[gP,has,cond_false,SX]
         obtain⟨_,t2,h5⟩:=dh (gJ (call.args.toList.map (ev E st.tm))) [bl] (by simp)
         rw[h5]
         exact SI _ (by simp)
        have hargs:bO g w (call.args.toList.map (ev E st.tm)) (call.args.map a.eval).toList:=by
         rw[iv];exact fT AD _
        generalize hxs:call.args.toList.map (ev E st.tm)=xs at *
        obtain⟨hnd,_⟩:=eo st.mem 0 (.vy bl::xs)
        generalize close st.mem 0 (.vy bl::xs)=ord at *
        obtain⟨Fg,CU⟩:=hs.rel.pack hnd
        have lu:=cN.pack g ord
        obtain⟨j,QY,hj2⟩:=List.getElem_of_mem hin
        have LB:ord[j]? = some bl:=by rw[da QY,hj2]
        have hidx:idx ord bl=some j:=ot hnd LB
        have QZ:ef (idx ord) (.vy bl::xs) = .vy j::ef (idx ord) xs:=by simp only[ef,Am.jh,hidx]
        have Q0:(g.pack ord).aN j=some l:=by simp[Gh.pack,LB,hl]
        obtain⟨f,tmps,as,bd,w',g',cv,y,q1,q4,q5,q6,q7,q8⟩:=eN (g.pack ord) w j l (ef (idx ord) xs) (call.args.map a.eval) (b.atR a (.inRegion ops (i::rest)::k)) cs QZ Fg Q0
         (bO.jh lu hargs) (hs.cC.mono fun _ _ p=>⟨p,rfl⟩)
        have hlen:(Am.pack st.mem ord).length=ord.length:=by simp[Am.pack]
        rw[hlen] at q7 q8
        obtain⟨r1,r2,r3,r4⟩:=hs.rel.back hnd (fq hlt) q5 q6 q7 q8
        have hstep:=BW (b:=b) (k:=k) (cs:=cs) (rest:=rest) ho hw (wJ hop wK hcx y)
        have mL:(b.atR a (.inRegion ops (i::rest)::k)).finish cv=b.atR (a.put o.dst cv) (.inRegion ops rest::k):=by rw[QR,ho];rfl
        rw[mL] at q1
        have mM:st.fix≤(cI (aZ ord st.mem.length) ord m1 st.mem).length:=by
         rw[dm _ _ _ _ q8];have:=hs.fix;omega
        refine⟨_,a.put o.dst cv,w',.head hstep q1,hd.put (st':={st with mem:=_}) r2 rfl,hb.put (st':={st with mem:=_}) r2 rfl,hs.put hf (q4.jh r4) r2 r1 mM,?_,bf.pL r2 _,?_⟩
        · have:(back ord o.dst st v m1).mem=cI (aZ ord st.mem.length) ord m1 st.mem:=by
           unfold back Am.put;cases o.dst<;>rfl
          rw[this];exact r3
        · unfold back Am.put;cases o.dst<;>rfl
     · cases ht
   · cases ht
 · cases ht
theorem DQ {f:FuncId} (h:CF P f=true) (x:Value):(callFunc f #[x]).run P w = .ok (.value x) w:=by
 unfold CF at h
 split at h
 · rename_i fn hf
   simp only[di] at h
   obtain⟨h1,h2,h3⟩:=h
   have h2:=of_decide_eq_true h2
   have h3:=of_decide_eq_true h3
   have hn:(fn.name == "runtime.NumGoroutine")=false:=by rw[h2];decide
   have q1:Extern.findNext fn=none:=by
    simp only[Extern.findNext,h2,h3]
    kernel_rfl
   have q2:Extern.find fn=some Extern.AbiNoEscape.same:=by
    simp only[Extern.find,h2,h3]
    kernel_rfl
   rw[run_callFunc_extern hf hn h1 q1 q2]
   rfl
 · cases h
theorem AE {ρ:Operand→AV} {bD:Operand→Value} (hr : ∀x,VA g w (ρ x) (bD x)) {o:Oper} {v:AV} (h:EP P ρ o=some v) : ∃cv,(execOp bD o).run P w = .ok (.value cv) w∧VA g w v cv:=by
 unfold EP at h
 split at h
 · rename_i c ho
   split at h
   · rename_i f x hc ha
     have jD:c.args = #[x]:=by have:=congrArg Hc ha;simpa using this
     split at h
     · rename_i q hq
       cases he:CF P q with
       |false=>rw[he] at h;cases h
       |true=>
        rw[he] at h
        simp only[cond_true,dk] at h
        subst h
        have hf:=hr f
        rw[hq,VA.fns] at hf
        obtain⟨fa,ca,Oq,q1,q2⟩:=hf
        have e1:fa = #[]:=by cases fa with | mk l=>cases l with | nil=>rfl | cons _ _=>exact q1.elim
        have e2:ca = #[]:=by cases ca with | mk l=>cases l with | nil=>rfl | cons _ _=>exact q2.elim
        subst e1;subst e2
        refine⟨bD x,?_,hr x⟩
        simp only[execOp,ho,resolve,hc,Oq,jD,M2,km,kp,kv,invoke,Ha,pj,Hb,Array.append_empty,SG]
        exact DQ he _
     · cases h
   · cases h
 · cases h
theorem AG {v:AV} {cv:Value} (h:xh v=true) (hv:VA g w v cv) : ∃t x,cv = .iface t x:=by
 cases hv with
 |jF t v cv h=>exact⟨t,cv,rfl⟩
 |p v cv h'=>cases h' with
  |jF t v cv h=>exact⟨t,cv,rfl⟩
  |_=>cases h
 |_=>cases h
theorem BX {b:Frame} {a:Act} {k:List Item} {cs:List Frame} {ops:Array Oper} {i:Nat} {rest:List Nat} {o:Oper} {v:Value} (ho:ops[i]? = some o) (hw:Lk o (yielded ops a.tmps)=true)
  (hr:(o.semAt b.roundOf a.eval).run P w = .halt (.panic v) w) :
  _root_.Go.step P (lone (b.atR a (.inRegion ops (i::rest)::k)) cs w) = .next (lone {b.atR a (.inRegion ops (i::rest)::k) with mode:=cA (some v) false} cs w):=by
 have hg:=stepGR_op (P:=P) (b:=b) (k:=k) (cs:=cs) (w:=w) (rest:=rest) ho hw
 refine step_lone_go ?_
 rw[hg]
 simp[stepG.apply,hr,Frame.raise,SA,cA]
theorem mN : ∀{l:List AV} {q:List (Nat×Nat)} {cs:List Value},xg l=some q→bO g w l cs→NZ g q cs
 |[],q,[],h,_=>by
  simp only[xg,dk] at h;subst h;trivial
 |.mp b off::l,q,cv::cs,h,hv=>by
  simp only[xg] at h
  split at h
  · rename_i l' hl
    simp only[dk] at h;subst h
    have h1:=hv.1
    cases h1 with
    |mp _ _ c hc=>exact⟨⟨c,hc,rfl⟩,mN hl hv.2⟩
  · cases h
 |[],_,_::_,_,hv=>hv.elim
 |_::_,_,[],_,hv=>hv.elim
 |.af::_,_,_::_,h,_ | .p _::_,_,_::_,h,_ | .os .. :: _,_,_::_,h,_ | .ms .. :: _,_,_::_,h,_ | .fn .. :: _,_,_::_,h,_ | .agg _::_,_,_::_,h,_ | .bn _::_,_,_::_,h,_
 |.jF .. :: _,_,_::_,h,_ | .vm _::_,_,_::_,h,_ | .vy _::_,_,_::_,h,_=>by cases h
theorem Fl {c:bA} {b:Frame} {a:Act} {k0:List It} {ops:Array Oper} {i bJ:Nat} {o:Oper} (hs:bR E g c.st a w) (tM:b.fn=c.f) (hbk:dP g c.st.bI b) (hd:Mk g c.st.bS a.defers)
  (ho:ops[i]? = some o) (hw:Lk o (yielded ops a.tmps)=true) (Jp : ∀x∈k0,It.pl x) :
  y8 P E g c (b.atR a (.inRegion ops (i::H2 (i+1) (ops.size-(i+1)))::cZ k0)) w (ER E c o (.ops bJ ops (i+1) false::k0)):=by
 have AD:=fK hs
 have throw : ∀(x:Operand),xh (ev E c.st.tm x)=true→(∀v,a.eval x=v→(∃t y,v = .iface t y)→(o.semAt b.roundOf a.eval).run P w = .halt (.panic v) w) →
   dQ P E g c (b.atR a (.inRegion ops (i::H2 (i+1) (ops.size-(i+1)))::cZ k0)) w {c with todo:=[.gA (ev E c.st.tm x)]}:=by
  intro x hx hrun cs
  have hr:=hrun _ rfl (AG hx (AD x))
  exact⟨g,_,w,.one (BX ho hw hr),⟨b,a,_,a.eval x,rfl,tM,hbk,hd,hs,AD x⟩,b7.refl _ _ _,bf.refl _ _,rfl,rfl,rfl⟩
 unfold ER
 split
 · rename_i x hop
   cases hx:xh (ev E c.st.tm x) with
   |false=>trivial
   |true=>
    refine throw x hx fun v hv ⟨t,y,e⟩=> ?_
    have JZ:o.semAt b.roundOf a.eval=execOp a.eval o:=by unfold Oper.semAt;rw[hop];cases b.roundOf<;>rfl
    rw[JZ]
    subst hv
    simp only[execOp,hop,e,Instr.panic]
    rfl
 · rename_i d hop
   split
   · rename_i x hc ha
     have jD:d.args = #[x]:=by have:=congrArg Hc ha;simpa using this
     cases hx:xh (ev E c.st.tm x) with
     |false=>trivial
     |true=>
      refine throw x hx fun v hv ⟨t,y,e⟩=> ?_
      have JZ:o.semAt b.roundOf a.eval=execOp a.eval o:=by unfold Oper.semAt;rw[hop];cases b.roundOf<;>rfl
      rw[JZ]
      subst hv
      simp only[execOp,hop,resolve,hc,jD,km,kp,kv,invoke,Ha,pj,Hb,e]
      rfl
   · trivial
 · rename_i d hop
   split
   · trivial
   · rename_i f hmk wK uW
     split
     · rename_i gf first captured hf
       split
       · rename_i l m hl hm
         intro hfit cs
         have hvf:=AD f
         rw[hf,VA.fns] at hvf
         obtain⟨fa,ca,Oq,zI,hca⟩:=hvf
         have hro:=hbk.yZ fun i e=>uW i e
         have hrun:(o.semAt b.roundOf a.eval).run P w = .ok (.defer {target:= .fn (.func gf) ca,args:=fa++d.args.map a.eval}) w:=by
          rw[hro]
          simp only[Oper.semAt,execOp,hop,resolve,wK,Oq,M2,km,kp,kv]
         have hargs:bO g w (first++d.args.toList.map (ev E c.st.tm)) (fa++d.args.map a.eval).toList:=by
          simp only[SE,iv]
          exact zI.append (fT AD _)
         rw[hmk] at hd
         have hds:a.defers=[]:=by
          cases hq:a.defers with
          |nil=>rfl
          |cons _ _=>rw[hq] at hd;exact hd.elim
         have hstep:_root_.Go.step P (lone (b.atR a (.inRegion ops (i::H2 (i+1) (ops.size-(i+1)))::cZ k0)) cs w) =
          .next (lone (b.atR ({a with defers:=[{target:= .fn (.func gf) ca,args:=fa++d.args.map a.eval}]}.put o.dst undef) (.inRegion ops (H2 (i+1) (ops.size-(i+1)))::cZ k0)) cs w):=by
          have hg:=stepGR_op (P:=P) (b:=b) (k:=cZ k0) (cs:=cs) (w:=w) (rest:=H2 (i+1) (ops.size-(i+1))) ho hw
          have mL:({b.atR a (.inRegion ops (i::H2 (i+1) (ops.size-(i+1)))::cZ k0) with defers:={target:= .fn (.func gf) ca,args:=fa++d.args.map a.eval}::a.defers}:Frame).finish undef =
           b.atR ({a with defers:=[{target:= .fn (.func gf) ca,args:=fa++d.args.map a.eval}]}.put o.dst undef) (.inRegion ops (H2 (i+1) (ops.size-(i+1)))::cZ k0):=by
           have:=QR b {a with defers:=[{target:= .fn (.func gf) ca,args:=fa++d.args.map a.eval}]} ops i (H2 (i+1) (ops.size-(i+1))) (cZ k0) undef
           rw[ho] at this
           rw[hds]
           exact this
          refine step_lone_go ?_
          rw[hg]
          simp only[stepG.apply,Sem.runT_eq,hrun,GStep.bare_after]
          exact congrArg (fun fr=>GStep.go {frame:=fr,callers:=cs,status:= .running,dying:=none} w) mL
         have hs':bR E g {c.st with bS:=[.late gf l m]} {a with defers:=[{target:= .fn (.func gf) ca,args:=fa++d.args.map a.eval}]} w:=⟨hs.tm,hs.nt,hs.rel,hs.fix,hs.cC⟩
         have hd':Mk g [.late gf l m] [{target:= .fn (.func gf) ca,args:=fa++d.args.map a.eval}]:=⟨⟨_,_,mN hl hargs,mN hm hca,rfl⟩,trivial⟩
         refine⟨g,_,w,.one hstep,bZ.mk (c:={c with todo:= .ops bJ ops (i+1) false::k0,st:=put {c.st with bS:=[.late gf l m]} o.dst (.bn [])}) (nf trivial Jp) tM
          (hbk.put (st:=c.st) (st':={c.st with bS:=[.late gf l m]}) (Ext.refl g w) rfl)
          (Mk.put (st:={c.st with bS:=[.late gf l m]}) (st':={c.st with bS:=[.late gf l m]}) (a:={a with defers:=[{target:= .fn (.func gf) ca,args:=fa++d.args.map a.eval}]}) hd' (Ext.refl g w) rfl)
          (hs'.put (cv:=undef) (v:= .bn []) (m':=c.st.mem) hfit (VA.iR.2 trivial) (Ext.refl g w) hs.rel hs.fix),?_,bf.refl _ _,rfl,?_,gY⟩
         · have:(put {c.st with bS:=[.late gf l m]} o.dst (.bn [])).mem=c.st.mem:=by unfold Am.put;cases o.dst<;>rfl
           show b7 g c.st.mem w g (put {c.st with bS:=[.late gf l m]} o.dst (.bn [])).mem w
           rw[this];exact b7.refl _ _ _
         · show(put {c.st with bS:=[.late gf l m]} o.dst (.bn [])).fix=c.st.fix
           unfold Am.put;cases o.dst<;>rfl
       · trivial
     · trivial
   · trivial
 · trivial
theorem CX {c:bA} {b:Frame} {a:Act} {k0:List It} {ops:Array Oper} {i bJ:Nat} {o:Oper} (hs:bR E g c.st a w) (tM:b.fn=c.f) (hbk:dP g c.st.bI b) (hd:Mk g c.st.bS a.defers)
  (ho:ops[i]? = some o) (hw:Lk o (yielded ops a.tmps)=true) (Jp : ∀x∈k0,It.pl x) :
  y8 P E g c (b.atR a (.inRegion ops (H2 i (ops.size-i))::cZ k0)) w (ES P E c bJ o (.ops bJ ops (i+1) false::k0)):=by
 have hi:i<ops.size:=by
  rcases gg i ops.size with q | q
  · exact q
  · rw[SD q] at ho;cases ho
 rw[mK hi]
 unfold ES
 have AD:=fK hs
 split
 · rename_i f args ht
   split
   · rename_i v Ot
     intro hok cs
     obtain⟨cv,k1,k2⟩:=AE AD Ot
     have hstep:=nB (b:=b) (k:=cZ k0) (cs:=cs) (rest:=H2 (i+1) (ops.size-(i+1))) ho hw (.inl k1)
     refine⟨g,_,w,.one hstep,bZ.mk (a:=a.put o.dst cv) (c:={c with todo:= .ops bJ ops (i+1) false::k0,st:=put {c.st with mem:=c.st.mem} o.dst v}) (nf trivial Jp) tM (hbk.put (st':={c.st with mem:=_}) (Ext.refl g w) rfl) (hd.put (st':={c.st with mem:=_}) (Ext.refl g w) rfl) (hs.put hok k2 (Ext.refl g w) hs.rel hs.fix),?_,bf.refl _ _,rfl,?_,gY⟩
     · have:(put c.st o.dst v).mem=c.st.mem:=(by unfold Am.put;cases o.dst<;>rfl)
       show b7 g c.st.mem w g (put c.st o.dst v).mem w
       rw[this];exact b7.refl _ _ _
     · show(put c.st o.dst v).fix=c.st.fix
       unfold Am.put;cases o.dst<;>rfl
   cases hb:(fits c.st o.dst&&ig (close c.st.mem 0 args) c.st.mem.length) with
   |false=>simp only[hb,cond_false];trivial
   |true=>
    simp only[hb,cond_true]
    simp only[di] at hb
    unfold target at ht
    split at ht
    · rename_i call hop
      split at ht
      · rename_i x wK
        split at ht
        · rename_i f' first captured hx
          simp only[dk,kl] at ht
          obtain⟨rfl,rfl⟩:=ht
          have wB:=AD x
          rw[hx,VA.fns] at wB
          obtain⟨fa,ca,wB,zI,hca⟩:=wB
          have hargs:bO g w (first++call.args.toList.map (ev E c.st.tm)++captured) (fa++call.args.map a.eval++ca).toList:=by
           simp only[SE,iv]
           exact(zI.append (fT AD _)).append hca
          generalize first++call.args.toList.map (ev E c.st.tm)++captured=args at *
          obtain⟨hnd,_⟩:=eo c.st.mem 0 args
          generalize close c.st.mem 0 args=ord at *
          obtain⟨Fg,CU⟩:=hs.rel.pack hnd
          have lu:=cN.pack g ord
          have hlen:(Am.pack c.st.mem ord).length=ord.length:=by simp[Am.pack]
          constructor
          · intro v m1 eN cs
            obtain⟨⟨fn,HG,HH,HI⟩,eN⟩:=eN
            have hrun:=uV (P:=P) (w:=w) hop wK wB HG HH HI
            obtain⟨w',g',cv,fr,q1,q2,q3,q4,q5,q6,q7,q8⟩:=eN (g.pack ord) w (fa++call.args.map a.eval++ca) (b.atR a (.inRegion ops (i::H2 (i+1) (ops.size-(i+1)))::cZ k0)::cs) Fg
             (bO.jh lu hargs) (hs.cC.mono fun _ _ p=>⟨p,rfl⟩)
            rw[hlen] at q7 q8
            obtain⟨r1,r2,r3,r4⟩:=hs.rel.back hnd (fq hb.2) q5 q6 q7 q8
            have hstep:=ou (b:=b) (k:=cZ k0) (cs:=cs) (rest:=H2 (i+1) (ops.size-(i+1))) ho hw hrun
            have hleave:=step_leave_returned (P:=P) (c:=b.atR a (.inRegion ops (i::H2 (i+1) (ops.size-(i+1)))::cZ k0)) (cs:=cs) q2
            have mL:(b.atR a (.inRegion ops (i::H2 (i+1) (ops.size-(i+1)))::cZ k0)).finish cv=b.atR (a.put o.dst cv) (.inRegion ops (H2 (i+1) (ops.size-(i+1)))::cZ k0):=by
             rw[QR,ho];rfl
            rw[mL] at hleave
            have mM:c.st.fix≤(cI (aZ ord c.st.mem.length) ord m1 c.st.mem).length:=by
             rw[dm _ _ _ _ q8];have:=hs.fix;omega
            refine⟨_,_,w',.head hstep (q1.trans (.one hleave)),bZ.mk (a:=a.put o.dst cv) (c:={c with todo:= .ops bJ ops (i+1) false::k0,st:=back ord o.dst c.st v m1}) (nf trivial Jp) tM (hbk.put (st':={c.st with mem:=_}) r2 rfl) (hd.put (st':={c.st with mem:=_}) r2 rfl) (hs.put hb.1 (q4.jh r4) r2 r1 mM),?_,bf.pL r2 _,rfl,?_,gY⟩
            · have:(back ord o.dst c.st v m1).mem=cI (aZ ord c.st.mem.length) ord m1 c.st.mem:=by
               unfold back Am.put;cases o.dst<;>rfl
              show b7 g c.st.mem w _ (back ord o.dst c.st v m1).mem w'
              rw[this];exact r3
            · show(back ord o.dst c.st v m1).fix=c.st.fix
              unfold back Am.put;cases o.dst<;>rfl
          · intro u m1 eN cs
            obtain⟨⟨fn,HG,HH,HI⟩,eN⟩:=eN
            have hrun:=uV (P:=P) (w:=w) hop wK wB HG HH HI
            obtain⟨w',g',cv,fr,q1,q2,q3,q4,q5,q6,q7,q8⟩:=eN (g.pack ord) w (fa++call.args.map a.eval++ca) (b.atR a (.inRegion ops (i::H2 (i+1) (ops.size-(i+1)))::cZ k0)::cs) Fg
             (bO.jh lu hargs) (hs.cC.mono fun _ _ p=>⟨p,rfl⟩)
            rw[hlen] at q7 q8
            obtain⟨r1,r2,r3,r4⟩:=hs.rel.back hnd (fq hb.2) q5 q6 q7 q8
            have hstep:=ou (b:=b) (k:=cZ k0) (cs:=cs) (rest:=H2 (i+1) (ops.size-(i+1))) ho hw hrun
            have hleave:=step_leave_panicked (P:=P) (c:=b.atR a (.inRegion ops (i::H2 (i+1) (ops.size-(i+1)))::cZ k0)) (cs:=cs) q2
            have mM:c.st.fix≤(cI (aZ ord c.st.mem.length) ord m1 c.st.mem).length:=by
             rw[dm _ _ _ _ q8];have:=hs.fix;omega
            refine⟨_,_,w',.head hstep (q1.trans (.one hleave)),⟨b,a,_,cv,rfl,tM,hbk.ext fun i c q=>(r2.aN i c q).1,hd.ext fun i c q=>(r2.aN i c q).1,⟨fun k=>(hs.tm k).mono r2,hs.nt,r1,mM,hs.cC.mono r2.pure⟩,q4.jh r4⟩,r3,bf.pL r2 _,rfl,rfl,rfl⟩
        · cases ht
      · cases ht
    · cases ht
 · dsimp only
   split
   · rename_i args ht
     cases hb:(fits c.st o.dst&&ig (close c.st.mem 0 args) c.st.mem.length) with
     |false=>trivial
     |true=>
      simp only[cond_true]
      simp only[di] at hb
      intro v m1 eN cs
      obtain⟨g',a',w',r1,r2,r3,r4,r5,r6,r7⟩:=Fk (P:=P) (k:=cZ k0) (rest:=H2 (i+1) (ops.size-(i+1))) hs hd hbk ho hw ht hb.1 hb.2 eN cs
      exact⟨g',_,w',r1,bZ.mk (a:=a') (c:={c with todo:= .ops bJ ops (i+1) false::k0,st:=back (close c.st.mem 0 args) o.dst c.st v m1}) (nf trivial Jp) tM r3 r2 r4,r5,r6,rfl,r7,gY⟩
   · split
     · rename_i v us ok he
       intro hok cs
       simp only[di] at hok
       obtain⟨rfl,hfit⟩:=hok
       have hres:Rel g (reserve o c.st.mem) w∧b7 g c.st.mem w g (reserve o c.st.mem) w:=by
        unfold reserve
        cases makes o with
        |true=>exact hs.rel.reserve
        |false=>exact⟨hs.rel,b7.refl _ _ _⟩
       have hfree:makes o=true→(reserve o c.st.mem)[c.st.mem.length]? = some .free:=by
        intro hm
        simp[reserve,hm]
       obtain⟨cv,w',g',k1,k2,k3,k4,k5⟩:=nA hres.1 AD (fun _=>rfl) hfree he
       have hstep:=nB (b:=b) (k:=cZ k0) (cs:=cs) (rest:=H2 (i+1) (ops.size-(i+1))) ho hw k1
       have mM:c.st.fix≤(apply (reserve o c.st.mem) us).length:=by
        rw[dI]
        have:=hs.fix
        unfold reserve
        cases makes o<;>simp<;>omega
       refine⟨g',_,w',.one hstep,bZ.mk (a:=a.put o.dst cv) (c:={c with todo:= .ops bJ ops (i+1) false::k0,st:=put {c.st with mem:=apply (reserve o c.st.mem) us} o.dst v}) (nf trivial Jp) tM (hbk.put (st':={c.st with mem:=_}) k4 rfl) (hd.put (st':={c.st with mem:=_}) k4 rfl) (hs.put hfit k2 k4 k3 mM),?_,bf.pL k4 _,rfl,?_,gY⟩
       · have:(put {c.st with mem:=apply (reserve o c.st.mem) us} o.dst v).mem=apply (reserve o c.st.mem) us:=by unfold Am.put;cases o.dst<;>rfl
         show b7 g c.st.mem w _ (put {c.st with mem:=apply (reserve o c.st.mem) us} o.dst v).mem w'
         rw[this];exact hres.2.trans k5
       · show(put {c.st with mem:=apply (reserve o c.st.mem) us} o.dst v).fix=c.st.fix
         unfold Am.put;cases o.dst<;>rfl
     · split
       · rename_i Ou
         cases hfit:fits c.st o.dst with
         |false=>trivial
         |true=>
          simp only[cond_true]
          intro cs
          obtain⟨bb,k1⟩:=yX AD (fun _=>rfl) Ou
          have hstep:=nB (b:=b) (k:=cZ k0) (cs:=cs) (rest:=H2 (i+1) (ops.size-(i+1))) ho hw (.inl k1)
          refine⟨{c with todo:= .ops bJ ops (i+1) false::k0,st:=put c.st o.dst (sB bb)},by cases bb<;>simp,g,_,w,.one hstep,bZ.mk (a:=a.put o.dst (.bool bb)) (c:={c with todo:= .ops bJ ops (i+1) false::k0,st:=put c.st o.dst (sB bb)}) (nf trivial Jp) tM (hbk.put (st':=c.st) (Ext.refl g w) rfl) (hd.put (st':=c.st) (Ext.refl g w) rfl) (hs.put hfit (.p _ _ (.sc _)) (Ext.refl _ _) hs.rel hs.fix),?_,bf.refl _ _,rfl,?_,gY⟩
          · have:(put c.st o.dst (sB bb)).mem=c.st.mem:=by unfold Am.put;cases o.dst<;>rfl
            show b7 g c.st.mem w _ (put c.st o.dst (sB bb)).mem w
            rw[this];exact b7.refl _ _ _
          · show(put c.st o.dst (sB bb)).fix=c.st.fix
            unfold Am.put;cases o.dst<;>rfl
       · exact Fl hs tM hbk hd ho hw Jp
end
end Go.Am
end
section
namespace Go.Am
section
variable {P:Program} {E:Env}
theorem rW {ρ ρ':Operand→AV} : ∀{l:List Operand},(∀x∈l,ρ x=ρ' x)→rE ρ l=rE ρ' l
 |[],_=>rfl
 |x::r,h=>by simp only[rE,h x (.head _),rW fun y hy=>h y (.tail _ hy)]
theorem mO {ρ ρ':Operand→AV} {x:Option Operand} (h : ∀y∈x,ρ y=ρ' y) (d:Nat):bound ρ x d=bound ρ' x d:=by
 cases x with
 |none=>rfl
 |some x=>simp only[bound,h x (by simp)]
theorem xG {rd:Nat→aF} {wr:Bool} {aK:Nat} {ρ ρ':Operand→AV} {o:Oper} (hq:fO o=true) (h : ∀x∈o.op.operands,ρ x=ρ' x):rI P rd wr aK ρ o=rI P rd wr aK ρ' o:=by
 have hsel : ∀cs b,o.op ≠ .select cs b:=by
  intro cs b e
  simp[fO,e] at hq
 have hsc:scalar P ρ o=scalar P ρ' o:=by
  unfold scalar
  rw[rW (ρ:=ρ) (ρ':=ρ') fun x hx=>h x (by simpa using hx),
   execOp_congr (ρ:=fun x=>(BC (ρ x)).getD undef) (ρ':=fun x=>(BC (ρ' x)).getD undef) o hsel fun x hx=>by rw[h x hx]]
 obtain⟨dst,op,type,pos,after,guard⟩:=o
 cases op<;>simp only[fO,pC] at hq<;>simp only[S4] at h<;>simp only[rI]
 case move x=>rw[h x (by simp)]
 case assign x=>rw[h x (by simp)]
 case pick c a b=>rw[h c (by simp),h a (by simp),h b (by simp)]
 case build t ps=>
  have:ps.toList.map (fun q=>(q.1,ρ q.2))=ps.toList.map fun q=>(q.1,ρ' q.2):=
   SJ fun q hq=>by rw[h q.2 (by simp only[SV,fi];exact⟨q,hq,rfl⟩)]
  rw[this]
 case load t a=>rw[h a (by simp)]
 case nilCheck x=>rw[h x (by simp)];simp only[jf,hsc]
 case binOp op t x y r=>rw[h x (by simp),h y (by simp)];simp only[oS,hsc]
 case unOp op t x=>rw[h x (by simp)];simp only[tW,hsc]
 case convert s d x=>rw[h x (by simp)];simp only[convertOp,hsc]
 case makeInterface t x=>rw[h x (by simp)]
 case makeFunc f first captured=>
  rw[SJ (l:=first.toList) fun x hx=>h x (by simp_all),SJ (l:=captured.toList) fun x hx=>h x (by simp_all)]
 case slice t x lo hi mx=>
  rw[h x (by simp)]
  have h1:=mO (ρ:=ρ) (ρ':=ρ') (x:=lo) fun y hy=>h y (by simp_all)
  have h2:=mO (ρ:=ρ) (ρ':=ρ') (x:=hi) fun y hy=>h y (by simp_all)
  have h3:=mO (ρ:=ρ) (ρ':=ρ') (x:=mx) fun y hy=>h y (by simp_all)
  cases mx with
  |none=>
   simp only[nh,h1,h2]
   repeat' first | rfl | split
   all_goals simp_all
  |some m=>
   simp only[nh,h1,h2]
   repeat' first | rfl | split
   all_goals simp_all
 case fieldAddr t x f=>rw[h x (by simp)]
 case field t x f=>rw[h x (by simp)]
 case indexAddr t x i=>rw[h x (by simp),h i (by simp)]
 case index t x i=>rw[h x (by simp),h i (by simp)]
 case extract x i=>rw[h x (by simp)]
 case call c=>
  obtain⟨callee,args,tys⟩:=c
  cases callee with
  |value _=>simp at hq
  |invoke _ _=>simp at hq
  |builtin b=>
   simp only[Call.operands] at h
   obtain⟨args⟩:=args
   have Q1 : ∀mn,jg P ρ ⟨dst,.call ⟨.builtin b,⟨args⟩,tys⟩,type,pos,after,guard⟩ mn args=jg P ρ' ⟨dst,.call ⟨.builtin b,⟨args⟩,tys⟩,type,pos,after,guard⟩ mn args:=by
    intro mn
    unfold jg
    rw[hsc,SJ (l:=args) fun x hx=>h x (by simp_all)]
   cases b<;>simp only[pC] at hq<;>simp only[Q1]
   cases args with
   |nil=>rfl
   |cons x r=>cases r with
    |nil=>simp only[h x (by simp)]
    |cons _ _=>rfl
theorem pN (st:St) (dst:Option Tmp) (v:AV) (t:Nat):look (put st dst v).tm t=if dst=some t then v else look st.tm t:=by
 cases dst with
 |none=>simp[put]
 |some d=>simp only[put,iX,dk]
theorem y9 (st:St) (dst:Option Tmp) (v:AV):(put st dst v).mem=st.mem∧(put st dst v).nt=st.nt∧(put st dst v).fix=st.fix:=by
 cases dst<;>exact⟨rfl,rfl,rfl⟩
theorem lz {a b:List Nat} (h:meet a b=false) {i:Nat} (ha:i∈a) (hb:i∈b):False:=by
 simp only[meet,List.any_eq_false] at h
 have:=h i ha
 simp only[List.any_eq_true,not_exists,not_and] at this
 exact this i hb (zr i)
theorem AH : ∀(l:List Oper) (acc:List Nat),∃M,masks acc l=acc++M∧M.length=l.length ∧ ∀i o,l[i]? = some o→M[i]? = some (oc (acc++M.take i) o)
 |[],acc=>⟨[],by simp[masks]⟩
 |o::r,acc=>by
  obtain⟨M,h1,h2,h3⟩:=AH r (acc++[oc acc o])
  refine⟨oc acc o::M,by simp[masks,h1],by simp[h2],?_⟩
  intro i p hp
  cases i with
  |zero=>simp only[np,dk] at hp;subst hp;simp
  |succ i=>
   simp only[nz] at hp
   have:=h3 i p hp
   simpa using this
theorem BY {acc:List Nat} {o:Oper} {j:Nat} (h:bx (oc acc o) j=true) : ∃e∈o.after,PQ .any e=true∧(e.on=j∨bx (acc.getD e.on 0) j=true):=by
 unfold oc at h
 have key : ∀(l:List Edge) (s:Nat),bx (l.foldl (fun s e=>cond (PQ .any e) (s|||(2 ^ e.on|||acc.getD e.on 0)) s) s) j=true →
   bx s j=true ∨ ∃e∈l,PQ .any e=true∧(e.on=j∨bx (acc.getD e.on 0) j=true):=by
  intro l
  induction l with
  |nil=>intro s h;exact .inl h
  |cons e r ih=>
   intro s h
   simp only[List.foldl_cons] at h
   rcases ih _ h with h | ⟨e',he',q⟩
   · cases hb:PQ .any e with
     |false=>rw[hb] at h;exact .inl h
     |true=>
      rw[hb] at h
      simp only[cond_true,Nat.testBit_or,kd] at h
      rcases h with h | h | h
      · exact .inl h
      · refine .inr ⟨e,.head _,hb,.inl ?_⟩
        rw[Nat.testBit_two_pow] at h
        exact of_decide_eq_true h
      · exact .inr ⟨e,.head _,hb,.inr h⟩
   · exact .inr ⟨e',.tail _ he',q⟩
 rcases key _ _ h with h | ⟨e,he,q⟩
 · simp at h
 · exact⟨e,by simpa using he,q⟩
theorem nT {q:Oper→Bool} {ops:Array Oper} {L:List Nat} : ∀{r lT:List Oper},ji q ops L lT.length lT r=true →
  ∀i o,(lT++r)[i]? = some o→lT.length≤i →
   q o=true∧(∀e∈o.after,PQ .any e=true→e.on<i) ∧ ∀j p,j<i→(lT++r)[j]? = some p→og ops L i o j p=true
 |[],lT,_,i,o,ho,hi=>by
  simp only[SS] at ho
  rw[ee hi] at ho;cases ho
 |q0::r,lT,h,i,o,ho,hi=>by
  simp only[ji,di] at h
  obtain⟨⟨⟨h1,h2⟩,h3⟩,h4⟩:=h
  by_cases hc:i=lT.length
  · subst hc
    have:o=q0:=by simpa using ho.symm
    subst this
    refine⟨h1,?_,?_⟩
    · intro e he hb
      have:=SW.1 h2 e (by simpa using he)
      simp only[hb,Pl,qs] at this
      rwa [Nat.blt_eq] at this
    · intro j p hj hp
      have key : ∀(l:List Oper) (k:Nat),tF ops L lT.length o k l=true → ∀m p,l[m]? = some p→og ops L lT.length o (k+m) p=true:=by
       intro l
       induction l with
       |nil=>intro k _ m p hp;simp at hp
       |cons x l ih=>
        intro k hk m p hp
        simp only[tF,di] at hk
        cases m with
        |zero=>simp only[np,dk] at hp;subst hp;exact hk.1
        |succ m=>
         simp only[nz] at hp
         have:=ih (k+1) hk.2 m p hp
         rwa [gv,S2 1 m] at this
      have hp':lT[j]? = some p:=by rwa [pf hj] at hp
      simpa using key lT 0 h3 j p hp'
  · have h4':ji q ops L (lT++[q0]).length (lT++[q0]) r=true:=by simpa using h4
    have:=nT h4' i o (by simpa using ho) (by simp;omega)
    simpa using this
def Jq (P:Program) (E:Env) (rd:Nat→aF) (wr:Bool) (aK:Nat) (ops:Array Oper) (st:St) (o:Oper) (v:AV):Prop:=
 ((dD ops st.tm o = .yes ∨ ∃d b want,dD ops st.tm o = .ask d b want∧(b==want)=true)∧rI P rd wr aK (ev E st.tm) o=some (v,[],true)) ∨
 ((dD ops st.tm o = .no ∨ ∃d b want,dD ops st.tm o = .ask d b want∧(b==want)=false)∧v = .bn [])
inductive za (P:Program) (E:Env) (rd:Nat→aF) (wr:Bool) (aK:Nat) (ops:Array Oper):List Oper→St→List AV→St→Prop
 |nil (st:St):za P E rd wr aK ops [] st [] st
 |cons (o:Oper) (r:List Oper) (st:St) (v:AV) (vs:List AV) (st':St) (hf:fits st o.dst=true) (h:Jq P E rd wr aK ops st o v)
   (hr:za P E rd wr aK ops r (put st o.dst v) vs st'):za P E rd wr aK ops (o::r) st (v::vs) st'
theorem mP {rd:Nat→aF} {wr:Bool} {aK:Nat} {ops:Array Oper} : ∀{l:List Oper} {st st':St},jN P E rd wr aK ops l st=some (st',true) → ∃vs,za P E rd wr aK ops l st vs st'
 |[],st,st',h=>by
  simp only[jN,dk,kl,and_true] at h
  subst h
  exact⟨[],.nil st⟩
 |o::r,st,st',h=>by
  have skip:(match jN P E rd wr aK ops r (put st o.dst (.bn [])) with
   |some (st',ok)=>some (st',fits st o.dst&&ok)
   |none=>none)=some (st',true)→fits st o.dst=true ∧ ∃vs,za P E rd wr aK ops r (put st o.dst (.bn [])) vs st':=by
   intro h
   split at h
   · rename_i zb ok hq
     simp only[dk,kl,di] at h
     obtain⟨rfl,h1,rfl⟩:=h
     exact⟨h1,mP hq⟩
   · cases h
  have oW:(match rI P rd wr aK (ev E st.tm) o with
   |some (v,[],ok)=>match jN P E rd wr aK ops r (put st o.dst v) with
    |some (st',ok')=>some (st',ok&&(fits st o.dst&&ok'))
    |none=>none
   |_=>none)=some (st',true) → ∃v,rI P rd wr aK (ev E st.tm) o=some (v,[],true)∧fits st o.dst=true ∧ ∃vs,za P E rd wr aK ops r (put st o.dst v) vs st':=by
   intro h
   split at h
   · rename_i v ok hop
     split at h
     · rename_i zb ok' hq
       simp only[dk,kl,di] at h
       obtain⟨rfl,rfl,h1,rfl⟩:=h
       exact⟨v,hop,h1,mP hq⟩
     · cases h
   · cases h
  unfold jN at h
  dsimp only at h
  cases hw:dD ops st.tm o with
  |yes=>
   rw[hw] at h
   obtain⟨v,h1,h2,vs,h3⟩:=oW h
   exact⟨v::vs,.cons o r st v vs st' h2 (.inl ⟨.inl hw,h1⟩) h3⟩
  |no=>
   rw[hw] at h
   obtain⟨h2,vs,h3⟩:=skip h
   exact⟨.bn []::vs,.cons o r st _ vs st' h2 (.inr ⟨.inl hw,rfl⟩) h3⟩
  |lost=>rw[hw] at h;cases h
  |ask d b want=>
   rw[hw] at h
   dsimp only at h
   cases hb:b==want with
   |true=>
    rw[hb] at h
    obtain⟨v,h1,h2,vs,h3⟩:=oW h
    exact⟨v::vs,.cons o r st v vs st' h2 (.inl ⟨.inr ⟨d,b,want,hw,hb⟩,h1⟩) h3⟩
   |false=>
    rw[hb] at h
    obtain⟨h2,vs,h3⟩:=skip h
    exact⟨.bn []::vs,.cons o r st _ vs st' h2 (.inr ⟨.inr ⟨d,b,want,hw,hb⟩,rfl⟩) h3⟩
def AI (l:List Oper):Prop:= ∀(i j:Nat) (p q:Oper) (t:Tmp),i<j→l[i]? = some p→l[j]? = some q→p.dst=some t→q.dst≠some t
def cS (l:List Oper) (vs:List AV) (st:St) (i:Nat) (gZ:St):Prop:=
 gZ.mem=st.mem∧gZ.nt=st.nt∧gZ.fix=st.fix∧(∀j p v t,j<i→l[j]? = some p→vs[j]? = some v→p.dst=some t→look gZ.tm t=v) ∧
 (∀t,(∀j p,j<i→l[j]? = some p→p.dst≠some t)→look gZ.tm t=look st.tm t)
theorem cS.cons {o:Oper} {r:List Oper} {v:AV} {vs:List AV} {st gZ:St} {i:Nat} (hu:AI (o::r)) (h:cS r vs (put st o.dst v) i gZ):cS (o::r) (v::vs) st (i+1) gZ:=by
 obtain⟨h1,h2,h3,h4,h5⟩:=h
 obtain⟨q1,q2,q3⟩:=y9 st o.dst v
 refine⟨h1.trans q1,h2.trans q2,h3.trans q3,?_,?_⟩
 · intro j p w t hj hp hw ht
   cases j with
   |zero=>
    simp only[np,dk] at hp hw
    subst hp;subst hw
    rw[h5 t fun j p _ hp=>hu 0 (j+1) o p t (by omega) rfl (by simpa using hp) ht,pN,if_pos ht]
   |succ j=>exact h4 j p w t (by omega) (by simpa using hp) (by simpa using hw) ht
 · intro t ht
   rw[h5 t fun j p hj hp=>ht (j+1) p (by omega) (by simpa using hp),pN,if_neg (ht 0 o (by omega) rfl)]
theorem za.spec {rd:Nat→aF} {wr:Bool} {aK:Nat} {ops:Array Oper} {l:List Oper} {st st':St} {vs:List AV} (h:za P E rd wr aK ops l st vs st') (hu:AI l) :
  vs.length=l.length∧cS l vs st l.length st' ∧ ∀i o,l[i]? = some o → ∃v gZ,vs[i]? = some v∧Jq P E rd wr aK ops gZ o v∧fits gZ o.dst=true∧cS l vs st i gZ:=by
 induction h with
 |nil st=>exact⟨rfl,⟨rfl,rfl,rfl,fun j _ _ _ hj=>absurd hj (zt _),fun _ _=>rfl⟩,fun i o ho=>by simp at ho⟩
 |cons o r st v vs st' hf hk hr ih=>
  have Bx:AI r:=fun i j p q t hij hp hq=>hu (i+1) (j+1) p q t (by omega) (by simpa using hp) (by simpa using hq)
  obtain⟨h1,h2,h3⟩:=ih Bx
  refine⟨by simp[h1],h2.cons hu,?_⟩
  intro i p hp
  cases i with
  |zero=>
   simp only[np,dk] at hp
   subst hp
   exact⟨v,st,rfl,hk,hf,rfl,rfl,rfl,fun j _ _ _ hj=>absurd hj (zt _),fun _ _=>rfl⟩
  |succ i=>
   obtain⟨w,gZ,q1,q2,q3,q4⟩:=h3 i p (by simpa using hp)
   exact⟨w,gZ,by simpa using q1,q2,q3,q4.cons hu⟩
structure lW (ops:Array Oper) (L:List Nat) (vs:List AV) (fQ dL:St) (S:Array Bool):Prop where
 size:S.size=ops.size
 mem:dL.mem=fQ.mem
 nt:dL.nt=fQ.nt
 fix:dL.fix=fQ.fix
 a : ∀(j:Nat) (p:Oper) (v:AV) (t:Tmp),S.getD j false=true→ops.toList[j]? = some p→vs[j]? = some v→p.dst=some t→look dL.tm t=v
 b : ∀t:Tmp,(∀(j:Nat) (p:Oper),S.getD j false=true→ops.toList[j]? = some p→p.dst≠some t)→look dL.tm t=look fQ.tm t
 cl : ∀i j:Nat,S.getD i false=true→bx (L.getD i 0) j=true→S.getD j false=true
structure sQ (ops:Array Oper) (L:List Nat):Prop where
 mask : ∀i o,ops.toList[i]? = some o→L[i]? = some (oc (L.take i) o)
 low : ∀(i:Nat) o,ops.toList[i]? = some o → ∀e∈o.after,PQ .any e=true→e.on<i
 pair : ∀(i:Nat) o,ops.toList[i]? = some o → ∀j p,j<i→ops.toList[j]? = some p→og ops L i o j p=true
theorem sQ.of {q:Oper→Bool} {ops:Array Oper} (h:ji q ops (masks [] ops.toList) 0 [] ops.toList=true):sQ ops (masks [] ops.toList) ∧ ∀(i:Nat) o,ops.toList[i]? = some o→q o=true:=by
 obtain⟨M,h1,_,h3⟩:=AH ops.toList []
 simp only[SX] at h1 h3
 rw[h1] at h ⊢
 have hs:=fun i o ho=>nT (lT:=[]) h i o ho (S3 _)
 exact⟨⟨h3,fun i o ho=>(hs i o ho).2.1,fun i o ho=>(hs i o ho).2.2⟩,fun i o ho=>(hs i o ho).1⟩
theorem sQ.uniq {ops:Array Oper} {L:List Nat} (h:sQ ops L):AI ops.toList:=by
 intro i j p q t hij hp hq ht ht'
 have:=h.pair j q hq i p hij hp
 simp only[og,di,kh] at this
 exact lz this.1 (i:=t) (by simp[ht']) (by simp[ht])
theorem kD {S:Array Bool} {j:Nat} (h:j<S.size) (d d':Bool):S.getD j d=S.getD j d':=by
 simp[H5,ie h]
theorem HJ {S:Array Bool} {j:Nat} (h:S.getD j false=true):j<S.size:=by
 rcases gg j S.size with q | q
 · exact q
 · rw[H5,SD q] at h;cases h
section
variable {ops:Array Oper} {L:List Nat} {vs:List AV} {fQ dL gZ:St} {S:Array Bool}
theorem lW.ahead (hI:lW ops L vs fQ dL S) (hO:sQ ops L) {i:Nat} (hi:i∈Ps .any ops S) {j:Nat} (hb:bx (L.getD i 0) j=true):S.getD j false=true:=by
 obtain⟨_,o,ho,hr⟩:=mem_ready.1 hi
 have ho':ops.toList[i]? = some o:=by simpa using ho
 have hm:=hO.mask i o ho'
 rw[dd,hm,Option.getD_some] at hb
 obtain⟨e,he,v7,h⟩:=BY hb
 rcases h with h | h
 · exact h▸hr e he v7
 · have hlt:=hO.low i o ho' e he v7
   refine hI.cl e.on j (hr e he v7) ?_
   rw[dd,dq,if_pos hlt,←dd] at h
   exact h
theorem lW.slots (hI:lW ops L vs fQ dL S) (hO:sQ ops L) {i:Nat} {o:Oper} (ho:ops.toList[i]? = some o) (hi:i∈Ps .any ops S) (hl:vs.length=ops.toList.length) (BZ:cS ops.toList vs fQ i gZ)
  {t:Tmp} (ht:t∈Am.slots ops o):look dL.tm t=look gZ.tm t:=by
 obtain⟨_,_,_,hA,hB⟩:=BZ
 have hu:=hO.uniq
 have hni:S.getD i false=false:=by
  obtain⟨h,_⟩:=mem_ready.1 hi
  cases hq:S.getD i false with
  |false=>rfl
  |true=>rw[kD (HJ hq) false true,h] at hq;cases hq
 by_cases hw : ∃(j:Nat) (p:Oper),ops.toList[j]? = some p∧p.dst=some t
 · obtain⟨j,p,hp,hd⟩:=hw
   have only : ∀(k:Nat) (q:Oper),ops.toList[k]? = some q→q.dst=some t→k=j:=by
    intro k q hq Hf
    rcases SZ k j with h | h | h
    · exact absurd hd (hu k j q p t h hq hp Hf)
    · exact h
    · exact absurd Hf (hu j k p q t h hp hq hd)
   rcases SZ j i with h | h | h
   · have AJ:=hO.pair i o ho j p h hp
     simp only[og,di,kd,kh] at AJ
     have J0:bx (L.getD i 0) j=true:=by
      rcases AJ.2 with q | q
      · exact q
      · exact(lz q.1 (i:=t) (by simp[hd]) ht).elim
     have hS:=hI.ahead hO hi J0
     have E2 : ∃v,vs[j]? = some v:=by
      have:j<vs.length:=by rw[hl];exact(dT.1 hp).1
      exact⟨vs[j],da this⟩
     obtain⟨v,hv⟩:=E2
     rw[hI.a j p v t hS hp hv hd,hA j p v t h hp hv hd]
   · subst h
     rw[hI.b t,hB t]
     · intro k q hk hq Hf
       have:=only k q hq Hf
       omega
     · intro k q hk hq Hf
       have:=only k q hq Hf
       subst this
       rw[hni] at hk;cases hk
   · have AJ:=hO.pair j p hp i o h ho
     simp only[og,di,kd,kh] at AJ
     have J0:bx (L.getD j 0) i=true:=by
      rcases AJ.2 with q | q
      · exact q
      · exact(lz q.2 (i:=t) (by simp[hd]) ht).elim
     rw[hI.b t,hB t]
     · intro k q hk hq Hf
       have:=only k q hq Hf
       omega
     · intro k q hk hq Hf
       have:=only k q hq Hf
       subst this
       have:=hI.cl k i hk J0
       rw[hni] at this;cases this
 · have hno : ∀(k:Nat) (q:Oper),ops.toList[k]? = some q→q.dst≠some t:=fun k q hq hd=>hw ⟨k,q,hq,hd⟩
   rw[hI.b t fun k q _ hq=>hno k q hq,hB t fun k q _ hq=>hno k q hq]
theorem lW.step (hI:lW ops L vs fQ dL S) (hO:sQ ops L) {i:Nat} {o:Oper} {v:AV} (ho:ops.toList[i]? = some o) (hv:vs[i]? = some v) (hi:i∈Ps .any ops S) :
  lW ops L vs fQ (put dL o.dst v) (S.setIfInBounds i true):=by
 obtain⟨q1,q2,q3⟩:=y9 dL o.dst v
 have hu:=hO.uniq
 have sK : ∀j,(S.setIfInBounds i true).getD j false=true→j=i∨S.getD j false=true:=by
  intro j hj
  by_cases h:i=j
  · exact .inl h.symm
  · rw[getD_set_ne false h] at hj;exact .inr hj
 have Ov : ∀j,S.getD j false=true→(S.setIfInBounds i true).getD j false=true:=fun j hj=>getD_set_true hj
 refine⟨by simp[hI.size],q1.trans hI.mem,q2.trans hI.nt,q3.trans hI.fix,?_,?_,?_⟩
 · intro j p w t hj hp hw hd
   rw[pN]
   by_cases hji:j=i
   · subst hji
     rw[ho] at hp;cases hp
     rw[hv] at hw;cases hw
     rw[if_pos hd]
   · have hne:o.dst≠some t:=by
      rcases Nat.lt_or_gt_of_ne hji with h | h
      · exact hu j i p o t h hp ho hd
      · exact fun Q2=>hu i j o p t h ho hp Q2 hd
     rw[if_neg hne]
     rcases sK j hj with h | h
     · exact absurd h hji
     · exact hI.a j p w t h hp hw hd
 · intro t ht
   have Bw:i<S.size:=by rw[hI.size];have:=(dT.1 ho).1;simpa using this
   have hne:o.dst≠some t:=ht i o (by simp[H5,Bw]) ho
   rw[pN,if_neg hne]
   exact hI.b t fun j p hj hp=>ht j p (Ov j hj) hp
 · intro k j hk hb
   rcases sK k hk with h | h
   · subst h;exact Ov j (hI.ahead hO hi hb)
   · exact Ov j (hI.cl k j h hb)
theorem lW.all (hI:lW ops L vs fQ dL S) (hO:sQ ops L) (hr:Ps .any ops S=[]) : ∀i,i<ops.size→S.getD i false=true:=by
 intro i
 induction i using S1 with
 |ind i ih=>
  intro hi
  have ho:ops[i]? = some ops[i]:=ie hi
  have ho':ops.toList[i]? = some ops[i]:=by simp[hi]
  cases hq:S.getD i false with
  |true=>rfl
  |false=>
   have:i∈Ps .any ops S:=mem_ready.2 ⟨by rw[kD (by rw[hI.size];exact hi) true false];exact hq,ops[i],ho,fun e he hb=>ih e.on (hO.low i _ ho' e he hb) (by have:=hO.low i _ ho' e he hb;omega)⟩
   rw[hr] at this;cases this
theorem lW.ends (hI:lW ops L vs fQ dL S) (hl:vs.length=ops.toList.length) {st':St} (hst:cS ops.toList vs fQ ops.toList.length st') (hall : ∀i,i<ops.size→S.getD i false=true) :
  dL.mem=st'.mem∧dL.nt=st'.nt∧dL.fix=st'.fix ∧ ∀t,look dL.tm t=look st'.tm t:=by
 obtain⟨h1,h2,h3,hA,hB⟩:=hst
 refine⟨hI.mem.trans h1.symm,hI.nt.trans h2.symm,hI.fix.trans h3.symm,fun t=> ?_⟩
 by_cases hw : ∃(j:Nat) (p:Oper),ops.toList[j]? = some p∧p.dst=some t
 · obtain⟨j,p,hp,hd⟩:=hw
   have hjl:=(dT.1 hp).1
   have E2:vs[j]? = some vs[j]:=da (by rw[hl];exact hjl)
   rw[hI.a j p _ t (hall j (by simpa using hjl)) hp E2 hd,hA j p _ t hjl hp E2 hd]
 · rw[hI.b t fun k q _ hq hd=>hw ⟨k,q,hq,hd⟩,hB t fun k q _ hq hd=>hw ⟨k,q,hq,hd⟩]
end
theorem bR.same {g:Gh} {w:World} {st st':St} {a:Act} (h:bR E g st a w) (h1:st.mem=st'.mem) (h2:st.nt=st'.nt) (h3:st.fix=st'.fix) (h4 : ∀t,look st.tm t=look st'.tm t):bR E g st' a w:=
 ⟨fun k=>h4 k▸h.tm k,h2▸h.nt,h1▸h.rel,by rw[←h1,←h3];exact h.fix,h.cC⟩
theorem rX {ops:Array Oper} {tm Mb:qo} {o:Oper} (h : ∀t∈slots ops o,look tm t=look Mb t):dD ops tm o=dD ops Mb o:=by
 unfold dD
 unfold slots at h
 cases hg:o.guard with
 |none=>rfl
 |some q=>
  obtain⟨j,want⟩:=q
  simp only[hg] at h
  dsimp only
  cases hj:ops[j]? with
  |none=>rfl
  |some oj=>
   simp only[hj] at h
   dsimp only
   cases hd:oj.dst with
   |none=>rfl
   |some d=>simp only[h d (by simp[hd])]
theorem AK {tm Mb:qo} {ops:Array Oper} {o:Oper} (h : ∀t∈slots ops o,look tm t=look Mb t) : ∀x∈o.op.operands,ev E tm x=ev E Mb x:=by
 intro x hx
 cases x with
 |tmp t=>exact h t (SH _ (List.mem_filterMap.2 ⟨.tmp t,by simpa using hx,rfl⟩))
 |_=>rfl
theorem DR {b:Frame} {k:List Item} {ops:Array Oper} {L:List Nat} {vs:List AV} {fQ st':St} {wr:Bool} {aK:Nat} (hO:sQ ops L) (hQ : ∀(i:Nat) o,ops.toList[i]? = some o→fO o=true) (hn:fQ.mem[aK]? = some .free)
  (hrun:za P E (fun i=>fQ.mem.getD i .dead) wr aK ops ops.toList fQ vs st') : ∀(fuel t:Nat) (S:Array Bool) (dL:St) (a:Act) (g:Gh) (w:World) (u:List Nat),
    lW ops L vs fQ dL S→bR E g dL a w→u.length=fuel→(∀i,i<ops.size→S.getD i false=false→i∈u) →
    ∃g' a' w',(∀cs,Steps P (lone (b.atR a (.inRegion ops (S5 .any ops fuel t S [])::k)) cs w) (lone (b.atR a' (.inRegion ops []::k)) cs w'))∧a'.defers=a.defers∧bR E g' st' a' w' ∧
     b7 g fQ.mem w g' fQ.mem w'∧bf g g' fQ.fix ∧ ∀i c,g.aN i=some c→g'.aN i=some c:=by
 obtain⟨hl,hend,hspec⟩:=hrun.spec hO.uniq
 intro fuel
 induction fuel with
 |zero=>
  intro t S dL a g w u hI hs J1 hu
  have hall : ∀i,i<ops.size→S.getD i false=true:=by
   intro i hi
   cases hq:S.getD i false with
   |true=>rfl
   |false=>
    have:=hu i hi hq
    rw[SP J1] at this;cases this
  obtain⟨e1,e2,e3,e4⟩:=hI.ends hl hend hall
  exact⟨g,a,w,fun cs=>S6 _ _,rfl,hs.same e1 e2 e3 e4,b7.refl _ _ _,bf.refl _ _,fun _ _ h=>h⟩
 |succ fuel ih=>
  intro t S dL a g w u hI hs J1 hu
  simp only[S5]
  show ∃g' a' w',(∀cs,Steps P (lone (b.atR a (.inRegion ops (match(Ps .any ops S)[t%(Ps .any ops S).length]? with
   |some i=>S5 .any ops fuel (t / (Ps .any ops S).length) (S.setIfInBounds i true) [i]
   |none=>[].reverse)::k)) cs w) (lone (b.atR a' (.inRegion ops []::k)) cs w'))∧_
  cases hi:(Ps .any ops S)[t%(Ps .any ops S).length]? with
  |none=>
   have Fm:Ps .any ops S=[]:=by
    cases hr:Ps .any ops S with
    |nil=>rfl
    |cons x xs=>
     rw[hr] at hi
     have hlt:t%(x::xs).length<(x::xs).length:=rp _ (by simp)
     rw[da hlt] at hi;cases hi
   obtain⟨e1,e2,e3,e4⟩:=hI.ends hl hend (hI.all hO Fm)
   exact⟨g,a,w,fun cs=>S6 _ _,rfl,hs.same e1 e2 e3 e4,b7.refl _ _ _,bf.refl _ _,fun _ _ h=>h⟩
  |some i=>
   have HK:=oe hi
   obtain⟨Ow,o,ho,_⟩:=mem_ready.1 HK
   have ho':ops.toList[i]? = some o:=by simpa using ho
   obtain⟨v,gZ,hv,hk,hf,BZ⟩:=hspec i o ho'
   have uX : ∀t∈slots ops o,look dL.tm t=look gZ.tm t:=fun t ht=>hI.slots hO ho' HK hl BZ ht
   have hilt:i<ops.size:=(SC.1 ho).1
   have Fo:i∈u:=hu i hilt (by rw[kD (by rw[hI.size];exact hilt) false true];exact Ow)
   have Bx : ∀j,j<ops.size→(S.setIfInBounds i true).getD j false=false→j∈u.erase i:=by
    intro j hj hq
    have hne:j≠i:=by
     intro e
     subst e
     rw[show(S.setIfInBounds j true).getD j false=true by simp[H5,hI.size,hj]] at hq
     cases hq
    rw[getD_set_ne false (fun e=>hne e.symm)] at hq
    exact(SU hne).2 (hu j hj hq)
   have HL:(u.erase i).length=fuel:=by rw[SQ Fo,J1];rfl
   have N0:=hI.step hO ho' hv HK
   have N1:fits dL o.dst=true:=by
    have:fits dL o.dst=fits gZ o.dst:=by unfold fits;rw[hI.nt,BZ.2.1]
    rw[this];exact hf
   dsimp only
   rw[linearise_go_acc,SL,SM]
   have DS:=rX uX
   obtain⟨w1,w2,w3⟩:=nC hs (ops:=ops) (o:=o)
   rcases hk with⟨hw,hop⟩ | ⟨hw,rfl⟩
   · have hG:Lk o (yielded ops a.tmps)=true:=by
      rcases hw with hw | ⟨d,b',want,hw,hb⟩
      · exact w1 (DS.trans hw)
      · rw[(w3 d b' want (DS.trans hw)).1];exact hb
     have Ox:rI P (fun i=>dL.mem.getD i .dead) wr aK (ev E dL.tm) o=some (v,[],true):=by
      rw[hI.mem,xG (hQ i o ho') (AK uX)];exact hop
     obtain⟨cv,w',g',k1,k2,k3,k4,k5⟩:=nA hs.rel (fK hs) (fun _=>rfl) (fun _=>by rw[hI.mem];exact hn) Ox
     have hs':=hs.put N1 k2 k4 k3 hs.fix
     obtain⟨g2,a2,Oy,r1,r2,r3,r4,r5,r6⟩:=ih (t / (Ps .any ops S).length) _ _ _ _ _ _ N0 hs' HL Bx
     refine⟨g2,a2,Oy,fun cs=> .head (nB ho hG k1) (r1 cs),r2.trans put_defers,r3,?_,(bf.pL k4 _).trans r5,fun i c q=>r6 i c (k4.aN i c q).1⟩
     have Q3:b7 g fQ.mem w g' fQ.mem w':=by rw[←hI.mem];exact k5
     exact Q3.trans r4
   · have hG:Lk o (yielded ops a.tmps)=false:=by
      rcases hw with hw | ⟨d,b',want,hw,hb⟩
      · exact w2 (DS.trans hw)
      · rw[(w3 d b' want (DS.trans hw)).1];exact hb
     have hs':=hs.put (v:= .bn []) (cv:=undef) N1 (VA.iR.2 trivial) (Ext.refl g w) hs.rel hs.fix
     obtain⟨g2,a2,Oy,r1,r2,r3,r4,r5,r6⟩:=ih (t / (Ps .any ops S).length) _ _ _ _ _ _ N0 hs' HL Bx
     refine⟨g2,a2,Oy,fun cs=> .head ?_ (r1 cs),r2.trans put_defers,r3,r4,r5,r6⟩
     have hst:=stepR_op_skip (P:=P) (b:=b) (a:=a) (k:=k) (cs:=cs) (w:=w) (ops:=ops) (i:=i) (rest:=S5 .any ops fuel (t / (Ps .any ops S).length) (S.setIfInBounds i true) []) (by simp[ho,hG])
     simpa only[ho,yv] using hst
theorem bR.drew {g:Gh} {w:World} {st:St} {a:Act} (h:bR E g st a w) (n:Nat):bR E g st a {w with drawn:=n}:=by
 have he:Ext g w g {w with drawn:=n}:=⟨fun _ _ e=>⟨e,rfl,rfl⟩,fun _ _ e=>⟨e,rfl⟩⟩
 refine⟨fun k=>(h.tm k).mono he,h.nt,(h.rel.jl (w':={w with drawn:=n}) rfl rfl rfl rfl).1,h.fix,h.cC.mono he.pure⟩
theorem HM {g:Gh} {w:World} {b:Frame} {a:Act} {k:List Item} {ops:Array Oper} {f bJ:Nat} {st st':St} (hs:bR E g st a w) (h:uh P E f bJ ops st=some (st',true)) :
  ∃g' a' w',(∀cs,Steps P (lone (b.atR a (.code (.region bJ ops true)::k)) cs w) (lone (b.atR a' k) cs w'))∧a'.defers=a.defers∧bR E g' st' a' w' ∧
   b7 g st.mem w g' st'.mem w'∧bf g g' st.fix∧st'.fix=st.fix ∧ ∀i c,g.aN i=some c→g'.aN i=some c:=by
 unfold uh at h
 dsimp only at h
 split at h
 · rename_i zb ok hq
   cases Fp:(ops.toList.all fO&&ET E f ops) with
   |false=>rw[Fp] at hq;cases hq
   |true=>
   rw[Fp] at hq
   simp only[cond_true] at hq
   have hall:ops.toList.all fO=true:=(di _ _▸Fp).1
   simp only[dk,kl,di] at h
   obtain⟨rfl,rfl,Fq,J2⟩:=h
   obtain⟨vs,hrun⟩:=mP hq
   obtain⟨hO,hQ⟩:=sQ.of Fq
   obtain⟨J3,LC⟩:=hs.rel.reserve
   have hs1:bR E g {st with mem:=st.mem++[.free]} a w:=⟨hs.tm,hs.nt,J3,by simp;have:=hs.fix;omega,hs.cC⟩
   have hgd : ∀j,(SB ops.size false).getD j false=false:=by
    intro j
    rw[H5,SF]
    split<;>rfl
   have hI:lW ops (masks [] ops.toList) vs {st with mem:=st.mem++[.free]} {st with mem:=st.mem++[.free]} (SB ops.size false):=
    ⟨by simp,rfl,rfl,rfl,fun j _ _ _ hj=>(by rw[hgd] at hj;cases hj),fun _ _=>rfl,fun i _ hi=>(by rw[hgd] at hi;cases hi)⟩
   have He:=hs1.drew (w.drawn+1)
   obtain⟨g',a',w',r1,r2,r3,r4,r5,r6⟩:=DR (P:=P) (E:=E) (b:=b) (k:=k) hO hQ (by simp) hrun ops.size (w.tape w.drawn (.order b.fn bJ)) _ _ a g _ (fl ops.size) hI He (by simp) (fun i hi _=>SY.2 hi)
   have hend:=(hrun.spec hO.uniq).2.1
   refine⟨g',a',w',fun cs=> ?_,r2,r3,?_,r5,hend.2.2.1,r6⟩
   · refine .head stepR_region_draw ?_
     have Ft:PH (P.follows .mixedOrders) ops (w.tape w.drawn (.order b.fn bJ))=S5 .any ops ops.size (w.tape w.drawn (.order b.fn bJ)) (SB ops.size false) []:=by
      simp only[PH,J2,if_true,QP]
     rw[Ft]
     exact(r1 cs).trans (.one stepR_region_end)
   · rw[hend.1]
     have hst:b7 g (st.mem++[.free]) w g (st.mem++[.free]) {w with drawn:=w.drawn+1}:=⟨ch _,fun _ _ _=>rfl,fun _ _ h=>⟨h,rfl⟩,fun _ _ h=> .inl h,fun _ h=> .inl h,rfl,rfl,rfl⟩
     exact(LC.trans hst).trans r4
 · cases h
end
open Go.RowKit
section
variable {P:Program} {E:Env}
theorem nU {rd rd':Nat→aF} {a:AV} (h : ∀b∈refs a,rd b=rd' b) (n:Nat):kQ rd a n=kQ rd' a n:=by
 cases a with
 |mp b off=>simp only[kQ,h b (by simp[refs])]
 |p v=>cases v<;>rfl
 |_=>rfl
theorem eZ {rd rd':Nat→aF} {a:AV} (h : ∀b∈refs a,rd b=rd' b) (sz:Nat):contents rd sz a=contents rd' sz a:=by
 cases a with
 |ms b off len s c=>
  cases c with
  |none=>simp only[contents,h b (by simp[refs])]
  |some c=>simp only[contents,h b (by simp[refs])]
 |p v=>
  cases v with
  |sc v=>cases v<;>rfl
  |_=>rfl
 |_=>rfl
theorem sS {rd rd':Nat→aF} {a:AV} (h : ∀b∈refs a,rd b=rd' b) (sz:Nat):cg rd sz a=cg rd' sz a:=by
 have hc:=eZ h sz
 unfold cg
 rw[hc]
 cases contents rd' sz a with
 |some r=>rfl
 |none=>
  cases a with
  |ms b off len s c=>
   cases c with
   |none=>rfl
   |some c=>simp only[h b (by simp[refs])]
  |_=>rfl
theorem ow {rd rd':Nat→aF} {x n:AV} (h : ∀b∈refs x,rd b=rd' b) {ts:List TypeId}:dS P rd ts x n=dS P rd' ts x n:=by
 have hg:EO rd x=EO rd' x:=by
  cases x with
  |mp b off=>cases off with
   |zero=>simp only[EO,h b (by simp[refs])]
   |succ _=>rfl
  |_=>rfl
 unfold dS
 simp only[hg]
theorem wL {rd rd':Nat→aF} {a:AV} (h : ∀b∈refs a,rd b=rd' b) {aK:Nat} {ρ:Operand→AV} {o:Oper} {s d:TypeId}:convertOp P rd aK ρ o s d a=convertOp P rd' aK ρ o s d a:=by
 have hc:=fun sz=>eZ (a:=a) h sz
 unfold convertOp
 split<;>first
  |rfl
  |(rename_i b off len sz cap hd;have hb:=h b (by simp[refs]);simp only[hb];done)
  |(rename_i b off hd;have hb:=h b (by simp[refs]);simp only[hb];done)
  |(rename_i u b hd;have hb:=h b (by simp[refs]);simp only[hb];done)
  |simp only[hc]
theorem append_congr {rd rd':Nat→aF} {s x:AV} (h : ∀b∈refs s++refs x,rd b=rd' b) {aK:Nat} {ts:Array TypeId}:ia P rd aK ts s x=ia P rd' aK ts s x:=by
 have hc:=fun sz=>eZ (a:=x) (fun b hb=>h b (SH _ hb)) sz
 have ht : ∀tok len sz cs,s = .os tok len sz cs→ni rd aK tok=ni rd' aK tok:=by
  rintro tok len sz cs rfl
  cases tok with
  |none=>rfl
  |some t=>simp only[ni,h t (by simp[refs])]
 unfold ia
 simp only[hc]
 repeat' first | rfl | split
 all_goals first
  |rfl
  |(rw[ht _ _ _ _ rfl])
  |simp_all
theorem uY {rd rd':Nat→aF} {s x:AV} (h : ∀b∈refs s++refs x,rd b=rd' b) {aK:Nat} {ts:Array TypeId}:eW P rd aK ts s x=eW P rd' aK ts s x:=by
 have hc:=fun sz=>sS (a:=x) (fun b hb=>h b (SH _ hb)) sz
 have hp : ∀sz,je rd sz x=je rd' sz x:=fun sz=>by unfold je;rw[eZ (a:=x) (fun b hb=>h b (SH _ hb)) sz]
 cases s with
 |ms b off len sz cap=>
  have hb:=h b (by simp[refs])
  unfold eW
  simp only[hc,hp]
  cases off with
  |zero=>cases cap<;>simp only[hb]
  |succ off=>rfl
 |os tok len sz cells=>
  cases tok with
  |none=>
   unfold eW
   simp only[hc,hp]
  |some t=>
   unfold eW
   simp only[hc]
 |_=>
  unfold eW
  simp only[hc]
theorem qF {rd rd':Nat→aF} {wr:Bool} {s x:AV} (h : ∀b∈refs s++refs x,rd b=rd' b) {aK:Nat} {ts:Array TypeId} :
  (match JG s||wr with | true=>eW P rd aK ts (l5 s) x | false=>ia P rd aK ts (l5 s) x)=(match JG s||wr with | true=>eW P rd' aK ts (l5 s) x | false=>ia P rd' aK ts (l5 s) x):=by
 have hs : ∀b∈refs (l5 s),b∈refs s:=by
  intro b hb
  unfold l5 at hb
  split at hb
  · simp[refs] at hb
  · exact hb
 have h' : ∀b∈refs (l5 s)++refs x,rd b=rd' b:=fun b hb=>h b ((o0.1 hb).elim (fun q=>SI _ (hs b q)) fun q=>SH _ q)
 rw[uY h',append_congr h']
theorem B0 {rd rd':Nat→aF} {d s:AV} (h : ∀b∈refs d++refs s,rd b=rd' b) {ts:Array TypeId}:qp P rd ts d s=qp P rd' ts d s:=by
 have hc:=fun sz=>eZ (a:=s) (fun b hb=>h b (SH _ hb)) sz
 have ht : ∀b off len sz cap,d = .ms b off len sz cap→rd b=rd' b:=by
  rintro b off len sz cap rfl
  exact h b (by simp[refs])
 unfold qp
 simp only[hc]
 repeat' first | rfl | split
 all_goals first
  |rfl
  |(rename_i h1 h2;rw[ht _ _ _ _ _ rfl] at h1;simp_all)
  |(rename_i h1;rw[ht _ _ _ _ _ rfl] at h1;simp_all)
  |simp_all
theorem zc {rd rd':Nat→aF} {x:AV} (h : ∀b∈refs x,rd b=rd' b) {t:TypeId} {k:AV} {ok:Bool}:kr P rd t x k ok=kr P rd' t x k ok:=by
 have hm:mapOf rd x=mapOf rd' x:=by
  cases x with
  |vm b=>simp only[mapOf,h b (by simp[refs])]
  |p v=>
   cases v with
   |sc v=>
    cases v with
    |map r=>cases r<;>rfl
    |_=>rfl
   |_=>rfl
  |_=>rfl
 have hu:qq rd x=qq rd' x:=by
  cases x with
  |vm b=>simp only[qq,h b (by simp[refs])]
  |_=>rfl
 unfold kr tA
 simp only[hm,hu]
theorem sU {rd rd':Nat→aF} {x:AV} (h : ∀b∈refs x,rd b=rd' b) {t:TypeId} {k v:AV}:fV P rd t x k v=fV P rd' t x k v:=by
 cases x with
 |vm b=>
  have hb:=h b (by simp[refs])
  cases k with
  |p u=>
   cases u with
   |sc u=>simp only[fV,hb]
   |_=>rfl
  |agg l=>
   show gO P rd t (.vm b) (.agg l) v=gO P rd' t (.vm b) (.agg l) v
   unfold gO
   generalize BC (AV.agg l)=kk
   generalize P.underlying t=tt
   cases kk with
   |none=>rfl
   |some key=>
    cases tt with
    |none=>rfl
    |some d=>cases d<;>first
     |rfl
     |simp only[hb]
  |_=>rfl
 |_=>cases k<;>rfl
theorem uZ {rd rd':Nat→aF} {x:AV} (h : ∀b∈refs x,rd b=rd' b):oa rd x=oa rd' x:=by
 cases x with
 |vm b=>simp only[oa,h b (by simp[refs])]
 |_=>rfl
theorem B2 {rd rd':Nat→aF} {x:AV} (h : ∀b∈refs x,rd b=rd' b) {t:TypeId} {k:AV} {ok:Bool}:qu P rd t x k ok=qu P rd' t x k ok:=by
 unfold qu
 rw[uZ h,zc h]
theorem xH {rd rd':Nat→aF} {x:AV} (h : ∀b∈refs x,rd b=rd' b) {t:TypeId} {k v:AV}:ud P rd t x k v=ud P rd' t x k v:=by
 unfold ud
 rw[uZ h,sU h]
theorem HN {rd rd':Nat→aF} {wr:Bool} {aK:Nat} {ρ ρ':Operand→AV} {o:Oper} (hq:xj o=true) (h : ∀x∈o.op.operands,ρ x=ρ' x) (hrd : ∀b∈DF ρ o,rd b=rd' b):rI P rd wr aK ρ o=rI P rd' wr aK ρ' o:=by
 have h1:rI P rd wr aK ρ o=rI P rd' wr aK ρ o:=by
  obtain⟨dst,op,type,pos,after,guard⟩:=o
  cases op<;>try rfl
  case load t a=>simp only[rI,j5,nU (a:=ρ a) hrd]
  case store t a v=>
   simp only[rI,oQ]
   have hrd : ∀b∈refs (ρ a),rd b=rd' b:=hrd
   generalize ρ a=x at hrd ⊢
   cases x with
   |mp b off=>
    cases eV P t with
    |none=>rfl
    |some n=>simp only[hrd b (by simp[refs])]
   |_=>rfl
  case convert s d x=>exact wL hrd
  case lookup t x i ok=>exact congrArg iO (B2 hrd)
  case mapUpdate t x k v=>exact xH hrd
  case insert t x k v=>exact xH hrd
  case next=>simp[xj,fO] at hq
  case call c=>
   obtain⟨callee,args,tys⟩:=c
   cases callee with
   |value _=>rfl
   |invoke _ _=>rfl
   |builtin b=>cases b<;>first
    |rfl
    |(obtain⟨args⟩:=args;rcases args with _ | ⟨x,_ | ⟨y,r⟩⟩<;>rfl)
    |(obtain⟨args⟩:=args;rcases args with _ | ⟨x,_ | ⟨y,_ | ⟨z,r⟩⟩⟩<;>first | rfl | exact qF fun b hb=>hrd b (by simpa[DF,gJ] using hb) | exact B0 fun b hb=>hrd b (by simpa[DF,gJ] using hb) | exact ow fun b hb=>hrd b (by simp[DF,gJ,hb]))
    |simp[xj,fO] at hq
  case makeMap t r=>cases r<;>rfl
 rw[h1]
 cases Qh:fO o with
 |true=>exact xG Qh h
 |false=>
  simp only[xj,Qh,qs] at hq
  obtain⟨dst,op,type,pos,after,guard⟩:=o
  cases op<;>simp only[pC] at hq<;>simp only[S4] at h<;>simp only[rI]
  case box t v=>rw[h v (by simp)]
  case buildSlice t n ps=>
   have:ps.toList.map (fun q=>(q.1,ρ q.2))=ps.toList.map fun q=>(q.1,ρ' q.2):=
    SJ fun q hq=>by rw[h q.2 (by simp only[SV,fi];exact⟨q,hq,rfl⟩)]
   rw[this]
  case makeSlice t l c=>rw[h l (by simp),h c (by simp)]
  case store t a v=>rw[h a (by simp),h v (by simp)]
  case makeMap t r=>cases r<;>rfl
  case lookup t x i ok=>rw[h x (by simp),h i (by simp)]
  case mapUpdate t x k v=>rw[h x (by simp),h k (by simp),h v (by simp)]
  case insert t x k v=>rw[h x (by simp),h k (by simp),h v (by simp)]
  case call c=>
   obtain⟨callee,args,tys⟩:=c
   cases callee with
   |value _=>simp at hq
   |invoke _ _=>simp at hq
   |builtin b=>
    simp only[Call.operands] at h
    obtain⟨args⟩:=args
    cases b<;>simp only[pC] at hq
    all_goals
     rcases args with _ | ⟨x,_ | ⟨y,_ | ⟨z,r⟩⟩⟩<;>first | rfl | simp only[h x (by simp),h y (by simp)] | simp only[h x (by simp)]
theorem ze {ρ ρ':Operand→AV} {o:Oper} (h : ∀x∈o.op.operands,ρ x=ρ' x):target ρ o=target ρ' o:=by
 obtain⟨dst,op,type,pos,after,guard⟩:=o
 cases op<;>try rfl
 case call c=>
  obtain⟨callee,args,tys⟩:=c
  cases callee with
  |value f=>
   simp only[S4,Call.operands] at h
   have h1:ρ f=ρ' f:=h f (by simp)
   have h2:args.toList.map ρ=args.toList.map ρ':=SJ fun x hx=>h x (by simp_all)
   simp only[target,h1,h2]
  |_=>rfl
theorem gT : ∀(us:lY) (m:Mem) (b:Nat),b∉us.map (·.1)→(apply m us)[b]? = m[b]?
 |[],_,_,_=>rfl
 |(i,x)::us,m,b,h=>by
  simp only[pj,oT,not_or] at h
  simp only[apply]
  rw[gT us _ b h.2,List.getElem?_set_ne (fun e=>h.1 e.symm)]
theorem AL : ∀(us:lY) (m m':Mem) (b:Nat),m.length=m'.length→b∈us.map (·.1)→(apply m us)[b]? = (apply m' us)[b]?
 |(i,x)::us,m,m',b,hl,h=>by
  simp only[apply]
  by_cases hb:b∈us.map (·.1)
  · exact AL us _ _ b (by simp[hl]) hb
  · rw[gT us _ b hb,gT us _ b hb]
    simp only[pj,oT] at h
    have:b=i:=h.resolve_right hb
    subst this
    simp only[List.getElem?_set,hl,if_true]
abbrev fW.w (d:fW):List Nat:=d.us.map (·.1)
structure jv (ds:List fW) (base:Mem) (S:Nat→Prop) (M:Mem):Prop where
 len:M.length=base.length
 out : ∀b,(∀j d,S j→ds[j]? = some d→b∉d.w)→M[b]? = base[b]?
 last : ∀j d b,S j→ds[j]? = some d→b∈d.w→(∀k e,S k→j<k→ds[k]? = some e→b∉e.w)→M[b]? = (apply base d.us)[b]?
theorem jv.nil {ds:List fW} {base:Mem} {S:Nat→Prop} (h : ∀j,¬S j):jv ds base S base:=⟨rfl,fun _ _=>rfl,fun j _ _ hj=>absurd hj (h j)⟩
theorem jv.step {ds:List fW} {base M:Mem} {S S':Nat→Prop} {i:Nat} {d:fW} (h:jv ds base S M) (hd:ds[i]? = some d) (hS : ∀j,S' j↔S j∨j=i) (hi : ¬S i)
  (Oz : ∀j e,S j→i<j→ds[j]? = some e → ∀b∈d.w,b∉e.w):jv ds base S' (apply M d.us):=by
 refine⟨by rw[dI];exact h.len,fun b hb=> ?_,fun j e b hj he v7 hl=> ?_⟩
 · rw[gT _ _ _ (hb i d ((hS i).2 (.inr rfl)) hd)]
   exact h.out b fun j e hj he=>hb j e ((hS j).2 (.inl hj)) he
 · rcases(hS j).1 hj with hj' | rfl
   · have hbd:b∉d.w:=by
      intro q
      rcases SZ j i with hlt | heq | hgt
      · exact hl i d ((hS i).2 (.inr rfl)) hlt hd q
      · subst heq;exact hi hj'
      · exact Oz j e hj' hgt he b q v7
     rw[gT _ _ _ hbd]
     exact h.last j e b hj' he v7 fun k x hk Hg hx=>hl k x ((hS k).2 (.inl hk)) Hg hx
   · rw[hd] at he;cases he
     exact AL _ _ _ _ h.len v7
theorem CY {p:Nat→Prop} {n:Nat} (hb : ∀k,p k→k<n) : ∀(r j:Nat),n-j=r→p j → ∃j,p j ∧ ∀k,p k → ¬j<k:=by
 intro r
 induction r using S1 with
 |ind r ih=>
  intro j hr hj
  by_cases h : ∃k,p k∧j<k
  · obtain⟨k,hk,Hg⟩:=h
    have:=hb k hk
    exact ih (n-k) (by omega) k rfl hk
  · exact⟨j,hj,fun k hk Hg=>h ⟨k,hk,Hg⟩⟩
theorem jv.agree {ds:List fW} {base M M':Mem} {S T:Nat→Prop} (h:jv ds base S M) (h':jv ds base T M') {b:Nat} (OA : ∀j d,ds[j]? = some d→b∈d.w→(S j↔T j)):M[b]? = M'[b]? :=by
 by_cases hw : ∃j d,S j∧ds[j]? = some d∧b∈d.w
 · obtain⟨j0,d0,q1,q2,q3⟩:=hw
   obtain⟨j,⟨hj,d,hd,hbd⟩,hl⟩:=CY (p:=fun j=>S j ∧ ∃d,ds[j]? = some d∧b∈d.w) (n:=ds.length) (fun k ⟨_,d,hd,_⟩=>(dT.1 hd).1) _ j0 rfl ⟨q1,d0,q2,q3⟩
   rw[h.last j d b hj hd hbd fun k e hk Hg he v7=>hl k ⟨hk,e,he,v7⟩ Hg,
    h'.last j d b ((OA j d hd hbd).1 hj) hd hbd fun k e hk Hg he v7=>hl k ⟨(OA k e he v7).2 hk,e,he,v7⟩ Hg]
 · rw[h.out b fun j d hj hd hbd=>hw ⟨j,d,hj,hd,hbd⟩,h'.out b fun j d hj hd hbd=>hw ⟨j,d,(OA j d hd hbd).2 hj,hd,hbd⟩]
def lR (m:Mem):List fW→Mem
 |[]=>m
 |d::r=>lR (apply m d.us) r
theorem pO (m:Mem) : ∀(ds es:List fW),lR m (ds++es)=lR (lR m ds) es
 |[],_=>rfl
 |d::ds,es=>pO (apply m d.us) ds es
theorem u9 (ds:List fW) (base:Mem) : ∀i,i≤ds.length→jv ds base (· < i) (lR base (ds.take i))
 |0,_=>jv.nil fun _ h=>absurd h (zt _)
 |i+1,h=>by
  have hi:i<ds.length:=h
  rw[List.take_succ_eq_append_getElem hi,pO]
  exact(u9 ds base i (by omega)).step (d:=ds[i]) (da hi) (fun j=>by omega) (by omega) fun j e hj hij=>absurd hj (by omega)
def kE (nx:Nat) (m:Mem):Prop:= ∀i,nx≤i→i<m.length→m[i]? = some .free
def N2 (P:Program) (E:Env) (wr:Oper→Bool) (st:St) (nx:Nat) (o:Oper) (d:fW) (jj:Nat):Prop:=
 (∃g args v m1,target (ev E st.tm) o=some (g,args)∧aO P E g (ef (idx (close st.mem 0 args)) args) (pack st.mem (close st.mem 0 args)) v m1∧(close st.mem 0 args).length≤m1.length ∧
   (∀i∈close st.mem 0 args,i<nx)∧jj=nx+(m1.length-(close st.mem 0 args).length)∧jj≤st.mem.length∧d=nq st.mem.length nx (close st.mem 0 args) v m1) ∨
 (target (ev E st.tm) o=none∧xj o=true∧rI P (fun i=>st.mem.getD i .dead) (wr o) nx (ev E st.tm) o=some (d.v,d.us,true)∧d.fp=d.w++(DF (ev E st.tm) o++cond (makes o) [nx] []) ∧
   (∀b∈d.w,b<jj)∧jj=cond (makes o) (nx+1) nx∧jj≤st.mem.length∧d.ld=JI P (ev E st.tm) o d.v)
def AM (P:Program) (E:Env) (wr:Oper→Bool) (ops:Array Oper) (st:St) (nx:Nat) (o:Oper) (d:fW) (jj:Nat):Prop:=
 ((dD ops st.tm o = .yes ∨ ∃s b want,dD ops st.tm o = .ask s b want∧(b==want)=true)∧N2 P E wr st nx o d jj) ∨
 ((dD ops st.tm o = .no ∨ ∃s b want,dD ops st.tm o = .ask s b want∧(b==want)=false)∧d=⟨.bn [],[],[],fun _ _=>false⟩∧jj=nx)
inductive wM (P:Program) (E:Env) (wr:Oper→Bool) (ops:Array Oper):List Oper→St→Nat→List fW→St→Nat→Prop
 |nil (st:St) (nx:Nat):wM P E wr ops [] st nx [] st nx
 |cons (o:Oper) (r:List Oper) (st:St) (nx:Nat) (d:fW) (jj:Nat) (ds:List fW) (st':St) (nQ:Nat) (hf:fits st o.dst=true) (h:AM P E wr ops st nx o d jj)
   (hr:wM P E wr ops r (put {st with mem:=apply st.mem d.us} o.dst d.v) jj ds st' nQ):wM P E wr ops (o::r) st nx (d::ds) st' nQ
theorem B3 {t:Option AV} {r:Option (fW×Nat×Bool)} {d:fW} {nx:Nat} (h:CI t r=some (d,nx,true)):r=some (d,nx,true):=by
 unfold CI at h
 split at h
 · exact h
 · split at h
   · rename_i v d0 n0 ok
     simp only[dk,kl,di] at h
     obtain⟨rfl,rfl,h1,h2⟩:=h
     have e:=kX h2
     subst h1
     obtain⟨v0,us,fp,ld⟩:=d0
     simp only at e
     subst e
     rfl
   · cases h
theorem DT {f bJ:Nat} {O:FuncId→List AV→Mem→Option (AV×Mem)} (hO : ∀g args m v m1,O g args m=some (v,m1)→aO P E g args m v m1) {nx jj:Nat} {o:Oper} {st:St} {d:fW}
  (h:iH P E f bJ O nx o st=some (d,jj,true)):N2 P E (fun o=>E.wr f (o.dst.getD 0)) st nx o d jj:=by
 have h:=B3 h
 unfold nr at h
 split at h
 · rename_i g args ht
   dsimp only at h
   split at h
   · rename_i v m1 ho
     simp only[dk,kl,di] at h
     obtain⟨rfl,rfl,h1,h2,h3⟩:=h
     exact .inl ⟨g,args,v,m1,ht,hO _ _ _ _ _ ho,ft h1,fq h2,rfl,ft h3,rfl⟩
   · cases h
 · rename_i ht
   split at h
   · rename_i v us ok hop
     simp only[dk,kl,di] at h
     obtain⟨rfl,rfl,rfl,h1,h2,h3⟩:=h
     exact .inr ⟨ht,h1,hop,rfl,fq h2,rfl,ft h3,rfl⟩
   · cases h
theorem qG {f bJ:Nat} {O:FuncId→List AV→Mem→Option (AV×Mem)} (hO : ∀g args m v m1,O g args m=some (v,m1)→aO P E g args m v m1) {ops:Array Oper} : ∀{l:List Oper} {nx nQ:Nat} {st st':St} {ds:List fW},
  gK P E f bJ O ops l nx st=some (st',nQ,ds,true)→wM P E (fun o=>E.wr f (o.dst.getD 0)) ops l st nx ds st' nQ
 |[],nx,nQ,st,st',ds,h=>by
  simp only[gK,dk,kl,and_true] at h
  obtain⟨rfl,rfl,rfl⟩:=h
  exact .nil st nx
 |o::r,nx,nQ,st,st',ds,h=>by
  have skip:(match gK P E f bJ O ops r nx (put st o.dst (.bn [])) with
   |some (st',nQ,ds,ok)=>some (st',nQ,(⟨.bn [],[],[],fun _ _=>false⟩:fW)::ds,fits st o.dst&&ok)
   |none=>none)=some (st',nQ,ds,true)→(dD ops st.tm o = .no ∨ ∃s b want,dD ops st.tm o = .ask s b want∧(b==want)=false)→wM P E (fun o=>E.wr f (o.dst.getD 0)) ops (o::r) st nx ds st' nQ:=by
   intro h hw
   split at h
   · rename_i zb jj Oa ok hq
     simp only[dk,kl,di] at h
     obtain⟨rfl,rfl,rfl,h1,rfl⟩:=h
     exact .cons o r st nx _ nx _ _ _ h1 (.inr ⟨hw,rfl,rfl⟩) (qG hO hq)
   · cases h
  have oW:(match iH P E f bJ O nx o st with
   |some (d,jj,ok)=>match gK P E f bJ O ops r jj (put {st with mem:=apply st.mem d.us} o.dst d.v) with
    |some (st',nQ,ds,ok')=>some (st',nQ,d::ds,ok&&(fits st o.dst&&ok'))
    |none=>none
   |none=>none)=some (st',nQ,ds,true)→(dD ops st.tm o = .yes ∨ ∃s b want,dD ops st.tm o = .ask s b want∧(b==want)=true)→wM P E (fun o=>E.wr f (o.dst.getD 0)) ops (o::r) st nx ds st' nQ:=by
   intro h hw
   split at h
   · rename_i d jj ok hop
     split at h
     · rename_i zb So Oa ok' hq
       simp only[dk,kl,di] at h
       obtain⟨rfl,rfl,rfl,rfl,h1,rfl⟩:=h
       exact .cons o r st nx d jj _ _ _ h1 (.inl ⟨hw,DT hO hop⟩) (qG hO hq)
     · cases h
   · cases h
  unfold gK at h
  dsimp only at h
  cases hw:dD ops st.tm o with
  |yes=>rw[hw] at h;exact oW h (.inl hw)
  |no=>rw[hw] at h;exact skip h (.inl hw)
  |lost=>rw[hw] at h;cases h
  |ask s b want=>
   rw[hw] at h
   dsimp only at h
   cases hb:b==want with
   |true=>rw[hb] at h;exact oW h (.inr ⟨s,b,want,hw,hb⟩)
   |false=>rw[hb] at h;exact skip h (.inr ⟨s,b,want,hw,hb⟩)
theorem xI {N nx:Nat} {ord:List Nat} {v:AV} {m1:Mem} {b:Nat} (h:b∈(nq N nx ord v m1).w):b∈(nq N nx ord v m1).fp:=by
 simp only[nq,fW.w,fi] at h ⊢
 obtain⟨q,hq,rfl⟩:=h
 exact(List.of_mem_zip hq).1
theorem N2.facts {wr:Oper→Bool} {st:St} {nx jj:Nat} {o:Oper} {d:fW} (h:N2 P E wr st nx o d jj):nx≤jj∧jj≤st.mem.length∧(∀b∈d.w,b<jj) ∧ ∀b∈d.w,b∈d.fp:=by
 rcases h with⟨g,args,v,m1,_,_,h1,h2,rfl,h3,rfl⟩ | ⟨_,_,_,h1,h2,rfl,h3,_⟩
 · refine⟨by omega,h3,fun b hb=> ?_,fun b hb=>xI hb⟩
   have:=xI hb
   simp only[nq,o0,SO] at this
   rcases this with q | q
   · have:=h2 b q;omega
   · omega
 · refine⟨by cases makes o<;>simp,h3,h2,fun b hb=> ?_⟩
   rw[h1]
   exact SI _ hb
theorem AM.facts {wr:Oper→Bool} {ops:Array Oper} {st:St} {nx jj:Nat} {o:Oper} {d:fW} (h:AM P E wr ops st nx o d jj) (hn:nx≤st.mem.length):nx≤jj∧jj≤st.mem.length∧(∀b∈d.w,b<jj) ∧ ∀b∈d.w,b∈d.fp:=by
 rcases h with⟨_,h⟩ | ⟨_,rfl,rfl⟩
 · exact h.facts
 · exact⟨ch _,hn,by simp,by simp⟩
theorem cS.pP {l:List Oper} {vs:List AV} {S S' T T':St} {i:Nat} (h:cS l vs S i T) (h1:S'.tm=S.tm) (h2:S'.nt=S.nt) (h3:S'.fix=S.fix) (h4:T'.tm=T.tm) (h5:T'.nt=T.nt) (h6:T'.fix=T.fix) (h7:T'.mem=S'.mem):cS l vs S' i T':=by
 obtain⟨_,q2,q3,q4,q5⟩:=h
 refine⟨h7,by rw[h5,h2];exact q2,by rw[h6,h3];exact q3,?_,?_⟩
 · intro j p v t a b c d;rw[h4];exact q4 j p v t a b c d
 · intro t ht;rw[h4,h1];exact q5 t ht
theorem rY (st:St) (m:Mem) (dst:Option Tmp) (v:AV):put {st with mem:=m} dst v={put st dst v with mem:=m}:=by cases dst<;>rfl
theorem wM.spec {wr:Oper→Bool} {ops:Array Oper} {l:List Oper} {st st':St} {nx nQ:Nat} {ds:List fW} (h:wM P E wr ops l st nx ds st' nQ) (hu:AI l) (hn:nx≤st.mem.length) (hfr:kE nx st.mem) :
  ds.length=l.length∧cS l (ds.map (·.v)) st l.length {st' with mem:=st.mem}∧st'.mem=lR st.mem ds∧st'.bS=st.bS ∧
    ∀(i:Nat) (o:Oper),l[i]? = some o → ∃d gZ va AN,ds[i]? = some d∧AM P E wr ops gZ va o d AN∧fits gZ o.dst=true∧cS l (ds.map (·.v)) st i {gZ with mem:=st.mem}∧gZ.mem=lR st.mem (ds.take i)∧kE va gZ.mem∧va≤gZ.mem.length:=by
 induction h with
 |nil st nx=>exact⟨rfl,⟨rfl,rfl,rfl,fun j _ _ _ hj=>absurd hj (zt _),fun _ _=>rfl⟩,rfl,rfl,fun i o ho=>by simp at ho⟩
 |cons o r st nx d jj ds st' nQ hf hk hr ih=>
  have Bx:AI r:=fun i j p q t hij hp hq=>hu (i+1) (j+1) p q t (by omega) (by simpa using hp) (by simpa using hq)
  obtain⟨f1,f2,f3,f4⟩:=hk.facts hn
  have hm:(put {st with mem:=apply st.mem d.us} o.dst d.v).mem=apply st.mem d.us:=by rw[rY]
  have OB:kE jj (apply st.mem d.us):=by
   intro i hi hl
   rw[dI] at hl
   rw[gT _ _ _ fun q=>by have:=f3 i q;omega]
   exact hfr i (by omega) hl
  obtain⟨h1,h2,h3,h5,h4⟩:=ih Bx (by rw[hm,dI];exact f2) (by rw[hm];exact OB)
  have shift : ∀{i:Nat} {T:St},cS r (ds.map (·.v)) (put {st with mem:=apply st.mem d.us} o.dst d.v) i {T with mem:=(put {st with mem:=apply st.mem d.us} o.dst d.v).mem} →
    cS (o::r) ((d::ds).map (·.v)) st (i+1) {T with mem:=st.mem}:=by
   intro i T hs
   refine cS.cons (vs:=ds.map (·.v)) (v:=d.v) hu (hs.pP (S':=put st o.dst d.v) (T':={T with mem:=st.mem}) ?_ ?_ ?_ rfl rfl rfl ?_)
   · cases o.dst<;>rfl
   · cases o.dst<;>rfl
   · cases o.dst<;>rfl
   · exact(y9 st o.dst d.v).1.symm
  refine⟨by simp[h1],shift h2,by rw[h3,hm];rfl,h5.trans (by cases o.dst<;>rfl),?_⟩
  intro i p hp
  cases i with
  |zero=>
   simp only[np,dk] at hp
   subst hp
   exact⟨d,st,nx,jj,rfl,hk,hf,⟨rfl,rfl,rfl,fun j _ _ _ hj=>absurd hj (zt _),fun _ _=>rfl⟩,rfl,hfr,hn⟩
  |succ i=>
   obtain⟨e,gZ,va,AN,q1,q2,q3,q4,q5,q6,q7⟩:=h4 i p (by simpa using hp)
   refine⟨e,gZ,va,AN,by simpa using q1,q2,q3,shift q4,?_,q6,q7⟩
   rw[q5,hm];rfl
def HO (d e:fW):Prop:=e.us=[] ∧ ∀b∈d.w,b∈e.fp → ∃x,fX d.us b=some x∧e.ld b x=true
theorem vc : ∀{l:List Nat} {i:Nat},i∈l→has l i=true
 |j::r,i,h=>by
  simp only[has]
  cases hb:a6 j i with
  |true=>rfl
  |false=>
   rcases oT.1 h with e | h
   · subst e;rw[zr] at hb;cases hb
   · exact vc h
theorem B4 {d e:fW} (h:yC d e=true):HO d e:=by
 simp only[yC,di,SW] at h
 refine⟨?_,fun b hb hf=> ?_⟩
 · have h1:=h.1
   cases hu:e.us with
   |nil=>rfl
   |cons _ _=>rw[hu] at h1;cases h1
 · have:=h.2 b hb
   rw[vc hf,Pl,qs] at this
   split at this
   · rename_i x hx
     exact⟨x,hx,this⟩
   · cases this
theorem ve : ∀{us:lY} {b:Nat},fX us b=none→b∉us.map (·.1)
 |[],_,_=>by simp
 |(i,x)::r,b,h=>by
  simp only[fX] at h
  split at h
  · cases h
  · rename_i hr
    cases hb:a6 i b with
    |true=>rw[hb] at h;cases h
    |false=>
     simp only[pj,oT,not_or]
     exact⟨fun e=>(by subst e;rw[zr] at hb;cases hb),ve hr⟩
theorem vf : ∀{us:lY} {m:Mem} {b:Nat} {x:aF},fX us b=some x→b<m.length→(apply m us)[b]? = some x
 |(i,y)::r,m,b,x,h,hb=>by
  simp only[fX] at h
  simp only[apply]
  split at h
  · rename_i z hz
    simp only[dk] at h
    subst h
    exact vf hz (by simpa using hb)
  · rename_i hr
    cases hib:a6 i b with
    |false=>rw[hib] at h;cases h
    |true=>
     rw[hib] at h
     simp only[cond_true,dk] at h
     subst h
     have:=a8 hib
     subst this
     rw[gT r _ _ (ve hr),List.getElem?_set_self hb]
structure Mc (L:List Nat) (ds:List fW):Prop where
 pair : ∀(i j:Nat) (d e:fW),j<i→ds[i]? = some d→ds[j]? = some e→bx (L.getD i 0) j=true∨((∀b∈e.w,b∉d.fp)∧((∀b∈d.w,b∉e.fp)∨HO d e))
theorem qH {a b:List Nat} (h:meet a b=false) : ∀i∈a,i∉b:=fun _ ha hb=>lz h ha hb
theorem rZ {L:List Nat} : ∀{r lT:List fW},uj L lT.length lT r=true → ∀(i j:Nat) (d e:fW),lT.length≤i→j<i→(lT++r)[i]? = some d→(lT++r)[j]? = some e →
  bx (L.getD i 0) j=true∨((∀b∈e.w,b∉d.fp)∧((∀b∈d.w,b∉e.fp)∨HO d e))
 |[],lT,_,i,j,d,e,hi,_,hd,_=>by
  simp only[SS] at hd
  rw[ee hi] at hd;cases hd
 |d0::r,lT,h,i,j,d,e,hi,hj,hd,he=>by
  simp only[uj,di] at h
  by_cases hc:i=lT.length
  · subst hc
    have:d=d0:=by simpa using hd.symm
    subst this
    have key : ∀(l:List fW) (k:Nat),oY L lT.length d k l=true → ∀m x,l[m]? = some x→yD L lT.length d (k+m) x=true:=by
     intro l
     induction l with
     |nil=>intro k _ m x hx;simp at hx
     |cons y l ih=>
      intro k hk m x hx
      simp only[oY,di] at hk
      cases m with
      |zero=>simp only[np,dk] at hx;subst hx;exact hk.1
      |succ m=>
       simp only[nz] at hx
       have:=ih (k+1) hk.2 m x hx
       rwa [gv,S2 1 m] at this
    have he':lT[j]? = some e:=by rwa [pf hj] at he
    have:=key lT 0 h.1 j e he'
    simp only[yD,Nat.zero_add,kd,di,kh] at this
    rcases this with q | ⟨q1,q2 | q2⟩
    · exact .inl q
    · exact .inr ⟨qH q1,.inl (qH q2)⟩
    · exact .inr ⟨qH q1,.inr (B4 q2)⟩
  · have h':uj L (lT++[d0]).length (lT++[d0]) r=true:=by simpa using h.2
    exact rZ h' i j d e (by simp;omega) hj (by simpa using hd) (by simpa using he)
theorem sj {m m':Mem} : ∀(f:Nat) (ord:List Nat) (k:Nat),ord.Nodup→(∀i∈reach m f ord k,m.getD i .dead=m'.getD i .dead)→reach m' f ord k=reach m f ord k
 |0,_,_,_,_=>rfl
 |f+1,ord,k,hnd,h=>by
  simp only[reach] at h ⊢
  cases hk:ord[k]? with
  |none=>rfl
  |some i=>
   simp only[hk] at h
   dsimp only
   have BU:=(dh (xe (m.getD i .dead)) ord hnd).1
   obtain⟨t1,h1⟩:=(dh (xe (m.getD i .dead)) ord hnd).2
   obtain⟨t2,h2⟩:=(lq m f _ (k+1) BU).2
   have hi:m.getD i .dead=m'.getD i .dead:=h i (by rw[h2,h1];exact SI _ (SI _ (oe hk)))
   rw[←hi]
   exact sj f _ (k+1) BU h
theorem AO {m m':Mem} {args:List AV} (hl:m.length=m'.length) (h : ∀i∈close m 0 args,m.getD i .dead=m'.getD i .dead):close m' 0 args=close m 0 args:=by
 unfold close at h ⊢
 rw[←hl]
 exact sj _ _ _ (dh _ _ (ju 0)).1 h
theorem B5 {m m':Mem} {ord:List Nat} (h : ∀i∈ord,m.getD i .dead=m'.getD i .dead):pack m' ord=pack m ord:=by
 unfold pack
 exact SJ fun i hi=>by rw[h i hi]
theorem nW (ρ:Nat→Option Nat) : ∀(ord:List Nat) (m1 m:Mem),ord.length=m1.length→cI ρ ord m1 m=apply m (ord.zip (m1.map (gj ρ)))
 |[],[],m,_=>by simp[cI,apply]
 |i::ord,b::m1,m,h=>by
  simp only[cI,pj,List.zip_cons_cons,apply]
  exact nW ρ ord m1 _ (by simpa using h)
 |[],_::_,_,h=>by simp at h
 |_::_,[],_,h=>by simp at h
theorem Rel.J4 {g g1:Gh} {m m1:Mem} {w w':World} (h:Rel g m w) {ord R:List Nat} (hnd:(ord++R).Nodup) (hlt : ∀i∈ord++R,i<m.length) (hR : ∀i∈R,m[i]? = some .free)
  (h1:Rel g1 m1 w') (hs:b7 (g.pack ord) (Am.pack m ord) w g1 m1 w') (hf:bf (g.pack ord) g1 ord.length) (hl:(ord++R).length=m1.length) :
  ∃g',Rel g' (apply m ((ord++R).zip (m1.map (gj (aZ (ord++R) m.length))))) w'∧Ext g w g' w'∧b7 g m w g' (apply m ((ord++R).zip (m1.map (gj (aZ (ord++R) m.length))))) w'∧cN (aZ (ord++R) m.length) g1 g':=by
 have own : ∀c,cj (g.pack ord) (Am.pack m ord) c→cj (g.pack (ord++R)) (Am.pack m (ord++R)) c:=by
  rintro c ⟨k,b,hk,ho,hc⟩
  obtain⟨i,hi,rfl⟩:=jt hk
  have hi':(ord++R)[k]? = some i:=by rw[pf (aT hi)];exact hi
  refine⟨k,gj (idx (ord++R)) (m.getD i .dead),?_,by rw[kC] at ho ⊢;exact ho,?_⟩
  · simp only[Am.pack,fe,hi',jn]
  · simpa[Gh.pack,hi,hi'] using hc
 have hs':b7 (g.pack (ord++R)) (Am.pack m (ord++R)) w g1 m1 w':=
  ⟨hs.size,fun c hc hn=>hs.keep c hc fun q=>hn (own c q),hs.pure,fun c o p=>(hs.fresh c o p).imp id fun q=>q.imp (own c) id,fun c ho=>(hs.owned c ho).imp (own c) id,hs.os,hs.tape,hs.output⟩
 have hf':bf (g.pack (ord++R)) g1 (ord++R).length:=by
  intro k c hk hc
  rcases gg k ord.length with q | q
  · have e:(ord++R)[k]? = ord[k]? :=pf q
    have:=hf k c q (by simpa[Gh.pack,e] using hc)
    simpa[Gh.pack,e] using this
  · have e:(ord++R)[k]? = R[k-ord.length]? :=SK q
    simp only[Gh.pack,e] at hc
    cases hr:R[k-ord.length]? with
    |none=>rw[hr] at hc;cases hc
    |some i=>
     rw[hr] at hc
     simp only[yv] at hc
     rw[h.free i (hR i (oe hr))] at hc;cases hc
 obtain⟨r1,r2,r3,r4⟩:=h.back hnd hlt h1 hs' hf' (by omega)
 rw[nW _ _ _ _ hl] at r1 r3
 exact⟨_,r1,r2,r3,r4⟩
theorem vg {m m':Mem} {i:Nat} (h:m[i]? = m'[i]?):m.getD i .dead=m'.getD i .dead:=by
 rw[dd,dd,h]
end
section
variable {P:Program} {E:Env}
theorem lA : ∀(ds:List fW) (m:Mem),(lR m ds).length=m.length
 |[],_=>rfl
 |d::ds,m=>by rw[lR,lA ds,dI]
structure Jr (P:Program) (E:Env) (wr:Oper→Bool) (ops:Array Oper) (m:Nat) (fQ:St) (ds:List fW) (st':St):Prop where
 len:ds.length=ops.toList.length
 ends:cS ops.toList (ds.map (·.v)) fQ m {st' with mem:=fQ.mem}
 mem:st'.mem=lR fQ.mem (ds.take m)
 each : ∀(i:Nat) (o:Oper),ops.toList[i]? = some o→i<m → ∃d gZ va AN,ds[i]? = some d∧AM P E wr ops gZ va o d AN∧fits gZ o.dst=true∧cS ops.toList (ds.map (·.v)) fQ i {gZ with mem:=fQ.mem}∧gZ.mem=lR fQ.mem (ds.take i)∧kE va gZ.mem∧va≤gZ.mem.length
 Sp : ∀(i:Nat) (e:fW),m≤i→ds[i]? = some e→e.us=[]
theorem lW.Md {ops:Array Oper} {L:List Nat} {vs:List AV} {fQ dL:St} {S:Array Bool} (hI:lW ops L vs fQ dL S) (hl:vs.length=ops.toList.length) {st':St} {m:Nat} (hst:cS ops.toList vs fQ m st') (hall : ∀i,i<m→S.getD i false=true) (hnot : ∀i,m≤i→S.getD i false=false) :
  dL.mem=st'.mem∧dL.nt=st'.nt∧dL.fix=st'.fix ∧ ∀t,look dL.tm t=look st'.tm t:=by
 obtain⟨h1,h2,h3,hA,hB⟩:=hst
 have lt : ∀j,S.getD j false=true→j<m:=fun j hj=>by
  rcases gg j m with q | q
  · exact q
  · rw[hnot j q] at hj;cases hj
 refine⟨hI.mem.trans h1.symm,hI.nt.trans h2.symm,hI.fix.trans h3.symm,fun t=> ?_⟩
 by_cases hw : ∃(j:Nat) (p:Oper),j<m∧ops.toList[j]? = some p∧p.dst=some t
 · obtain⟨j,p,hj,hp,hd⟩:=hw
   have hjl:=(dT.1 hp).1
   have E2:vs[j]? = some vs[j]:=da (by rw[hl];exact hjl)
   rw[hI.a j p _ t (hall j hj) hp E2 hd,hA j p _ t hj hp E2 hd]
 · rw[hI.b t fun k q hk hq hd=>hw ⟨k,q,lt k hk,hq,hd⟩,hB t fun k q hk hq hd=>hw ⟨k,q,hk,hq,hd⟩]
theorem HP {ops:Array Oper} {S:Array Bool} (h : ∀i,i<ops.size→S.getD i false=true) (hs:S.size=ops.size) (fuel t:Nat):S5 .any ops fuel t S []=[]:=by
 cases fuel with
 |zero=>rfl
 |succ fuel=>
  have hr:Ps .any ops S=[]:=by
   cases hr:Ps .any ops S with
   |nil=>rfl
   |cons x xs=>
    have hx:x∈Ps .any ops S:=by rw[hr];exact .head _
    obtain⟨h1,o,ho,_⟩:=mem_ready.1 hx
    have hlt:=(SC.1 ho).1
    have:=h x hlt
    rw[kD (by omega) false true,h1] at this
    cases this
  simp only[S5]
  show(match(Ps .any ops S)[t%(Ps .any ops S).length]? with
   |some i=>S5 .any ops fuel (t / (Ps .any ops S).length) (S.setIfInBounds i true) [i]
   |none=>[].reverse)=[]
  rw[hr]
  rfl
theorem HQ {b:Frame} {k:List Item} (cs:List Frame) {ops:Array Oper} {L:List Nat} {ds:List fW} {fQ st':St} {m:Nat} {wr:Oper→Bool} (hO:sQ ops L) (hL:Mc L ds) (hrun:Jr P E wr ops m fQ ds st')
  (hm:m=ops.size∨(m+1=ops.size ∧ ∀j,j<m→bx (L.getD m 0) j=true)) : ∀(fuel t:Nat) (S:Array Bool) (dL:St) (a:Act) (g:Gh) (w:World) (u:List Nat),
    lW ops L (ds.map (·.v)) fQ {dL with mem:=fQ.mem} S→jv ds fQ.mem (fun j=>S.getD j false=true) dL.mem→bR E g dL a w→u.length=fuel→(∀i,i<ops.size→S.getD i false=false→i∈u)→(∀i,m≤i→S.getD i false=false) →
    ∃g' a' w',Steps P (lone (b.atR a (.inRegion ops (S5 .any ops fuel t S [])::k)) cs w) (lone (b.atR a' (.inRegion ops (H2 m (ops.size-m))::k)) cs w')∧a'.defers=a.defers∧bR E g' st' a' w' ∧
     b7 g dL.mem w g' st'.mem w'∧bf g g' fQ.fix ∧ ∀i c,g.aN i=some c→g'.aN i=some c:=by
 obtain⟨OC,hend,hmem,hspec,Me⟩:=hrun
 have hl:(ds.map (·.v)).length=ops.toList.length:=by simpa using OC
 have Q4:ds.length=ops.size:=by simpa using OC
 have JN:m≤ops.size:=by omega
 have fin : ∀(S:Array Bool) (dL:St) (a:Act) (g:Gh) (w:World),lW ops L (ds.map (·.v)) fQ {dL with mem:=fQ.mem} S→jv ds fQ.mem (fun j=>S.getD j false=true) dL.mem→bR E g dL a w →
   (∀i,i<m→S.getD i false=true)→(∀i,m≤i→S.getD i false=false)→bR E g st' a w∧dL.mem=st'.mem:=by
  intro S dL a g w hI hM hs hall hnot
  obtain⟨_,e2,e3,e4⟩:=hI.Md hl hend hall hnot
  have hm:dL.mem=st'.mem:=by
   apply List.ext_getElem?
   intro i
   rw[hmem]
   have h2:=u9 ds fQ.mem m (by omega)
   refine hM.agree h2 fun j d hd _=> ?_
   refine⟨fun hS=> ?_,fun hj=>hall j hj⟩
   rcases gg j m with q | q
   · exact q
   · rw[hnot j q] at hS;cases hS
  exact⟨hs.same hm e2 e3 e4,hm⟩
 have full : ∀(S:Array Bool),(∀i,i<ops.size→S.getD i false=true)→(∀i,m≤i→S.getD i false=false)→m=ops.size:=by
  intro S h1 h2
  rcases hm with q | ⟨q,_⟩
  · exact q
  · have:=h1 m (by omega);rw[h2 m (ch _)] at this;cases this
 intro fuel
 induction fuel with
 |zero=>
  intro t S dL a g w u hI hM hs J1 hu hnot
  have hall : ∀i,i<ops.size→S.getD i false=true:=by
   intro i hi
   cases hq:S.getD i false with
   |true=>rfl
   |false=>
    have:=hu i hi hq
    rw[SP J1] at this;cases this
  have OD:=full S hall hnot
  obtain⟨h1,h2⟩:=fin S dL a g w hI hM hs (fun i hi=>hall i (by omega)) hnot
  refine⟨g,a,w,?_,rfl,h1,by rw[h2];exact b7.refl _ _ _,bf.refl _ _,fun _ _ h=>h⟩
  rw[OD,S0,SR]
  exact S6 _ _
 |succ fuel ih=>
  intro t S dL a g w u hI hM hs J1 hu hnot
  simp only[S5]
  show ∃g' a' w',Steps P (lone (b.atR a (.inRegion ops (match(Ps .any ops S)[t%(Ps .any ops S).length]? with
   |some i=>S5 .any ops fuel (t / (Ps .any ops S).length) (S.setIfInBounds i true) [i]
   |none=>[].reverse)::k)) cs w) (lone (b.atR a' (.inRegion ops (H2 m (ops.size-m))::k)) cs w')∧_
  cases hi:(Ps .any ops S)[t%(Ps .any ops S).length]? with
  |none=>
   have Fm:Ps .any ops S=[]:=by
    cases hr:Ps .any ops S with
    |nil=>rfl
    |cons x xs=>
     rw[hr] at hi
     have hlt:t%(x::xs).length<(x::xs).length:=rp _ (by simp)
     rw[da hlt] at hi;cases hi
   have hall:=hI.all hO Fm
   have OD:=full S hall hnot
   obtain⟨h1,h2⟩:=fin S dL a g w hI hM hs (fun i hi=>hall i (by omega)) hnot
   refine⟨g,a,w,?_,rfl,h1,by rw[h2];exact b7.refl _ _ _,bf.refl _ _,fun _ _ h=>h⟩
   rw[OD,S0,SR]
   exact S6 _ _
  |some i=>
   have HK:=oe hi
   obtain⟨Ow,o,ho,_⟩:=mem_ready.1 HK
   have ho':ops.toList[i]? = some o:=by simpa using ho
   have hilt:i<ops.size:=(SC.1 ho).1
   by_cases OE:i<m
   case neg=>
    have hme:i=m∧m+1=ops.size ∧ ∀j,j<m→bx (L.getD m 0) j=true:=by
     rcases hm with q | ⟨q1,q2⟩
     · omega
     · exact⟨by omega,q1,q2⟩
    obtain⟨rfl,hsz,Mf⟩:=hme
    have hall : ∀j,j<i→S.getD j false=true:=fun j hj=>hI.ahead hO HK (Mf j hj)
    obtain⟨h1,h2⟩:=fin S dL a g w hI hM hs hall hnot
    dsimp only
    rw[linearise_go_acc,SL,SM,HP (fun j hj=>by
     by_cases e:i=j
     · subst e;simp[H5,hI.size,hj]
     · rw[getD_set_ne false e];exact hall j (by omega)) (by simp[hI.size])]
    refine⟨g,a,w,?_,rfl,h1,by rw[h2];exact b7.refl _ _ _,bf.refl _ _,fun _ _ h=>h⟩
    rw[show ops.size-i=1 by omega,List.range'_one]
    exact S6 _ _
   obtain⟨d,gZ,va,AN,hd,hk,hf,BZ,Q5,Mg,OF⟩:=hspec i o ho' OE
   have hv:(ds.map (·.v))[i]? = some d.v:=by rw[fe,hd];rfl
   have uX : ∀t∈slots ops o,look dL.tm t=look gZ.tm t:=fun t ht=>hI.slots hO ho' HK hl BZ ht
   have hid:i<ds.length:=(dT.1 hd).1
   have hni:S.getD i false=false:=by rw[kD (by rw[hI.size];exact hilt) false true];exact Ow
   have Fo:i∈u:=hu i hilt hni
   have Bx : ∀j,j<ops.size→(S.setIfInBounds i true).getD j false=false→j∈u.erase i:=by
    intro j hj hq
    have hne:j≠i:=by
     intro e
     subst e
     rw[show(S.setIfInBounds j true).getD j false=true by simp[H5,hI.size,hj]] at hq
     cases hq
    rw[getD_set_ne false (fun e=>hne e.symm)] at hq
    exact(SU hne).2 (hu j hj hq)
   have Mh : ∀j,m≤j→(S.setIfInBounds i true).getD j false=false:=by
    intro j hj
    rw[getD_set_ne false (by omega)]
    exact hnot j hj
   have HL:(u.erase i).length=fuel:=by rw[SQ Fo,J1];rfl
   have sK : ∀j,(S.setIfInBounds i true).getD j false=true↔S.getD j false=true∨j=i:=by
    intro j
    by_cases h:i=j
    · subst h
      simp[H5,hI.size,hilt]
    · rw[getD_set_ne false h]
      exact⟨.inl,fun q=>q.resolve_right fun e=>h e.symm⟩
   have hwf : ∀b∈d.w,b∈d.fp:=(hk.facts OF).2.2.2
   have Q6 : ∀(j:Nat) (e:fW),ds[j]? = some e → ∀b∈e.w,b∈e.fp:=by
    intro j e he
    have hj:=(dT.1 he).1
    have LB:ops.toList[j]? = some ops.toList[j]:=da (by omega)
    by_cases OG:j<m
    case neg=>
     intro b hb
     rw[fW.w,Me j e (by omega) he] at hb
     cases hb
    obtain⟨e',Q7,Q8,OH,q1,q2,_,_,_,_,q3⟩:=hspec j _ LB OG
    rw[he] at q1;cases q1
    exact(q2.facts q3).2.2.2
   have NU:=u9 ds fQ.mem i (by omega)
   rw[←Q5] at NU
   have Q9 : ∀(j:Nat) (e:fW),ds[j]? = some e → ∀b∈e.w,b<fQ.mem.length:=by
    intro j e he b hb
    have hj:=(dT.1 he).1
    have LB:ops.toList[j]? = some ops.toList[j]:=da (by omega)
    by_cases OG:j<m
    case neg=>
     rw[fW.w,Me j e (by omega) he] at hb
     cases hb
    obtain⟨e',Q7,Q8,OH,q1,q2,_,_,q4,_,q3⟩:=hspec j _ LB OG
    rw[he] at q1;cases q1
    have h1:=(q2.facts q3).2.2.1 b hb
    have h2:=(q2.facts q3).2.1
    have h3:=lA (ds.take j) fQ.mem
    rw[q4,h3] at h2
    omega
   have hag : ∀b∈d.fp,dL.mem[b]? = gZ.mem[b]? ∨ (d.us=[] ∧ ∃x,dL.mem[b]? = some x∧d.ld b x=true):=by
    intro b hb
    by_cases hw : ∃j e,S.getD j false=true∧i<j∧ds[j]? = some e∧b∈e.w
    · obtain⟨j0,e0,q1,q2,q3,q4⟩:=hw
      obtain⟨j,⟨hj,e,he,v7⟩,hl⟩:=CY (p:=fun j=>S.getD j false=true ∧ ∃d,ds[j]? = some d∧b∈d.w) (n:=ds.length) (fun k ⟨_,d,hd,_⟩=>(dT.1 hd).1) _ j0 rfl ⟨q1,e0,q3,q4⟩
      have hij:i<j:=by
       rcases gg i j with q | q
       · exact q
       · exact absurd (show j<j0 by omega) (hl j0 ⟨q1,e0,q3,q4⟩)
      have AP:=hM.last j e b hj he v7 fun k x hk Hg hx Ra=>hl k ⟨hk,x,hx,Ra⟩ Hg
      rcases hL.pair j i e d hij he hd with q | ⟨_,q | q⟩
      · have:=hI.cl j i hj q;rw[hni] at this;cases this
      · exact absurd hb (q b v7)
      · obtain⟨x,hx,OI⟩:=q.2 b v7 hb
        rw[vf hx (Q9 j e he b v7)] at AP
        exact .inr ⟨q.1,x,AP,OI⟩
    · refine .inl (hM.agree NU fun j e he v7=> ?_)
      rcases SZ j i with hlt | heq | hgt
      · rcases hL.pair i j d e hlt hd he with q | ⟨q,_⟩
        · exact⟨fun _=>hlt,fun _=>hI.ahead hO HK q⟩
        · exact absurd hb (q b v7)
      · subst heq
        exact⟨fun q=>(by rw[hni] at q;cases q),fun q=>absurd q (Nat.lt_irrefl _)⟩
      · exact⟨fun q=>absurd ⟨j,e,q,hgt,he,v7⟩ hw,fun q=>by omega⟩
   have Fu:dL.mem.length=gZ.mem.length:=hM.len.trans NU.len.symm
   have Rb:jv ds fQ.mem (fun j=>(S.setIfInBounds i true).getD j false=true) (apply dL.mem d.us):=by
    refine hM.step hd sK (by rw[hni];exact fun q=>by cases q) fun j e hS hij he b hb v7=> ?_
    rcases hL.pair j i e d hij he hd with q | ⟨q,_⟩
    · have:=hI.cl j i hS q;rw[hni] at this;cases this
    · exact q b hb (Q6 j e he b v7)
   have N0:=hI.step hO ho' hv HK
   have N1:fits dL o.dst=true:=by
    have:fits dL o.dst=fits gZ o.dst:=by unfold fits;rw[show dL.nt=fQ.nt from hI.nt,show gZ.nt=fQ.nt from BZ.2.1]
    rw[this];exact hf
   have Qi:dL.fix=fQ.fix:=hI.fix
   have hput : ∀m:Mem,put {dL with mem:=fQ.mem} o.dst d.v={put {dL with mem:=m} o.dst d.v with mem:=fQ.mem}:=by
    intro m;cases o.dst<;>rfl
   have Js : ∀m:Mem,(put {dL with mem:=m} o.dst d.v).mem=m:=by intro m;cases o.dst<;>rfl
   have Mi:dL.fix≤(apply dL.mem d.us).length:=by rw[dI];exact hs.fix
   dsimp only
   rw[linearise_go_acc,SL,SM]
   have DS:=rX uX
   have AD:=AK (E:=E) uX
   obtain⟨w1,w2,w3⟩:=nC hs (ops:=ops) (o:=o)
   have go : ∀(g2:Gh) (cv:Value) (w':World),VA g2 w' d.v cv→Rel g2 (apply dL.mem d.us) w'→Ext g w g2 w'→b7 g dL.mem w g2 (apply dL.mem d.us) w' →
     Steps P (lone (b.atR a (.inRegion ops (i::S5 .any ops fuel (t / (Ps .any ops S).length) (S.setIfInBounds i true) [])::k)) cs w)
      (lone (b.atR (a.put o.dst cv) (.inRegion ops (S5 .any ops fuel (t / (Ps .any ops S).length) (S.setIfInBounds i true) [])::k)) cs w') →
     ∃g' a' w',Steps P (lone (b.atR a (.inRegion ops (i::S5 .any ops fuel (t / (Ps .any ops S).length) (S.setIfInBounds i true) [])::k)) cs w) (lone (b.atR a' (.inRegion ops (H2 m (ops.size-m))::k)) cs w')∧a'.defers=a.defers∧bR E g' st' a' w' ∧
      b7 g dL.mem w g' st'.mem w'∧bf g g' fQ.fix ∧ ∀i c,g.aN i=some c→g'.aN i=some c:=by
    intro g2 cv w' k2 k3 k4 k5 Rc
    have hs':=hs.put N1 k2 k4 k3 Mi
    obtain⟨g3,a3,Rd,r1,r2,r3,r4,r5,r6⟩:=ih (t / (Ps .any ops S).length) (S.setIfInBounds i true) _ _ _ _ (u.erase i) (by rw[←hput];exact N0) (by rw[Js];exact Rb) hs' HL Bx Mh
    rw[Js] at r4
    refine⟨g3,a3,Rd,Rc.trans r1,r2.trans put_defers,r3,k5.trans r4,(bf.pL k4 _).trans r5,fun j c q=>r6 j c (k4.aN j c q).1⟩
   rcases hk with⟨hw,J5⟩ | ⟨hw,rfl,rfl⟩
   · have hG:Lk o (yielded ops a.tmps)=true:=by
      rcases hw with hw | ⟨s',b',want,hw,hb⟩
      · exact w1 (DS.trans hw)
      · rw[(w3 s' b' want (DS.trans hw)).1];exact hb
     rcases J5 with⟨gf,args,v,m1,ht,eN,h1,h2,h3,h4,h5⟩ | ⟨ht,J6,hop,Qj,Re,h3,h4,OI⟩
     · have qI : ∀b∈d.fp,dL.mem[b]? = gZ.mem[b]? :=fun b hb=>(hag b hb).resolve_right fun⟨_,x,_,q⟩=>by rw[h5] at q;cases q
       have HR:target (ev E dL.tm) o=some (gf,args):=(ze AD).trans ht
       have J7:d.fp=close gZ.mem 0 args++H2 va (m1.length-(close gZ.mem 0 args).length):=by rw[h5];rfl
       have OJ:close dL.mem 0 args=close gZ.mem 0 args:=AO Fu.symm fun j hj=>(vg (qI j (by rw[J7];exact SI _ hj))).symm
       have Mj:pack dL.mem (close gZ.mem 0 args)=pack gZ.mem (close gZ.mem 0 args):=B5 fun j hj=>(vg (qI j (by rw[J7];exact SI _ hj))).symm
       obtain⟨hnd,_⟩:=eo gZ.mem 0 args
       generalize close gZ.mem 0 args=ord at *
       rw[←Mj] at eN
       have hR : ∀j∈H2 va (m1.length-ord.length),dL.mem[j]? = some .free:=by
        intro j hj
        rw[qI j (by rw[J7];exact SH _ hj)]
        rw[SO] at hj
        exact Mg j hj.1 (by omega)
       have OK:(ord++H2 va (m1.length-ord.length)).Nodup:=List.nodup_append.2 ⟨hnd,List.nodup_range',fun x hx y hy e=>by
        subst e
        rw[SO] at hy
        have:=h2 x hx;omega⟩
       have JK : ∀j∈ord++H2 va (m1.length-ord.length),j<dL.mem.length:=by
        intro j hj
        rcases o0.1 hj with q | q
        · have:=h2 j q;omega
        · rw[SO] at q;omega
       obtain⟨⟨fn,HG,HH,HI⟩,eN⟩:=eN
       unfold target at HR
       split at HR
       · rename_i call OL
         split at HR
         · rename_i x wK
           split at HR
           · rename_i f' first captured hx
             simp only[dk,kl] at HR
             obtain⟨rfl,J8⟩:=HR
             have wB:=fK hs x
             rw[hx,VA.fns] at wB
             obtain⟨fa,ca,wB,zI,hca⟩:=wB
             have Ml:=uV (P:=P) (w:=w) OL wK wB HG HH HI
             have hargs:bO g w args (fa++call.args.map a.eval++ca).toList:=by
              rw[←J8]
              simp only[SE,iv]
              exact(zI.append (fT (fK hs) _)).append hca
             obtain⟨Fg,CU⟩:=hs.rel.pack hnd
             have lu:=cN.pack g ord
             obtain⟨w',g',cv,fr,q1,q2,q3,q4,q5,q6,q7,q8⟩:=eN (g.pack ord) w (fa++call.args.map a.eval++ca) (b.atR a (.inRegion ops (i::S5 .any ops fuel (t / (Ps .any ops S).length) (S.setIfInBounds i true) [])::k)::cs) Fg
              (bO.jh lu hargs) (hs.cC.mono fun _ _ p=>⟨p,rfl⟩)
             have hlen:(Am.pack dL.mem ord).length=ord.length:=by simp[Am.pack]
             rw[hlen] at q7 q8
             obtain⟨g2,r1,r2,r3,r4⟩:=hs.rel.J4 OK JK hR q5 q6 q7 (by simp;omega)
             have yQ:d.us=(ord++H2 va (m1.length-ord.length)).zip (m1.map (gj (aZ (ord++H2 va (m1.length-ord.length)) dL.mem.length))):=by rw[h5,Fu];rfl
             have Rf:d.v=jh (aZ (ord++H2 va (m1.length-ord.length)) dL.mem.length) v:=by rw[h5,Fu];rfl
             rw[←yQ] at r1 r3
             have hstep:=ou (b:=b) (k:=k) (cs:=cs) (rest:=S5 .any ops fuel (t / (Ps .any ops S).length) (S.setIfInBounds i true) []) ho hG Ml
             have hleave:=step_leave_returned (P:=P) (c:=b.atR a (.inRegion ops (i::S5 .any ops fuel (t / (Ps .any ops S).length) (S.setIfInBounds i true) [])::k)) (cs:=cs) q2
             rw[QR,ho] at hleave
             exact go g2 cv w' (by rw[Rf];exact q4.jh r4) r1 r2 r3 (.head hstep (q1.trans (.one hleave)))
           · cases HR
         · cases HR
       · cases HR
     · have both:(rI P (fun j=>dL.mem.getD j .dead) (wr o) va (ev E dL.tm) o=some (d.v,d.us,true))∧(makes o=true→dL.mem[va]? = some .free):=by
        by_cases hsp : ∃b x,d.us=[]∧dL.mem[b]? = some x∧d.ld b x=true
        · obtain⟨b,x,yQ,hx,AQ⟩:=hsp
          rw[OI] at AQ
          unfold JI at AQ
          split at AQ
          · rename_i t a J9
            split at AQ
            · rename_i c off OM
              simp only[di] at AQ
              obtain⟨hcb,Fc⟩:=AQ
              have hcb:=a8 hcb
              subst hcb
              split at Fc
              · rename_i v' ok hlo
                simp only[di] at Fc
                obtain⟨rfl,ON⟩:=Fc
                have ON:=kX ON
                subst ON
                have hrd:(fun j=>dL.mem.getD j aF.dead) c=x:=by
                 show dL.mem.getD c .dead=x
                 rw[dd,hx];rfl
                have jq:j5 P (fun j=>dL.mem.getD j .dead) t (.mp c off)=j5 P (fun _=>x) t (.mp c off):=by
                 simp only[j5,nU (rd:=fun j=>dL.mem.getD j aF.dead) (rd':=fun _=>x) (a:= .mp c off) (fun b hb=>by
                  have:b=c:=by simpa[refs] using hb
                  subst this;exact hrd)]
                refine⟨?_,fun hm=> ?_⟩
                · have e1:ev E dL.tm a = .mp c off:=by rw[AD a (by rw[J9];simp[S4]),OM]
                  simp only[rI,J9,e1,jq,hlo,gz,jn,yQ]
                · simp[makes,J9] at hm
              · cases Fc
            · cases AQ
          · cases AQ
        · have qI : ∀b∈d.fp,dL.mem[b]? = gZ.mem[b]? :=fun b hb=>(hag b hb).resolve_right fun⟨q0,x,q1,q2⟩=>hsp ⟨b,x,q0,q1,q2⟩
          refine⟨?_,fun hm=> ?_⟩
          · rw[←hop]
            refine(HN J6 (fun x hx=>(AD x hx).symm) fun j hj=> ?_).symm
            exact(vg (qI j (by rw[Qj];exact SH _ (SI _ hj)))).symm
          · rw[qI va (by rw[Qj,hm];exact SH _ (SH _ (by simp)))]
            rw[hm] at h3
            simp only[cond_true] at h3
            exact Mg va (ch _) (by omega)
       obtain⟨OO,hfree⟩:=both
       obtain⟨cv,w',g',k1,k2,k3,k4,k5⟩:=nA hs.rel (fK hs) (fun _=>rfl) hfree OO
       exact go g' cv w' k2 k3 k4 k5 (.one (nB ho hG k1))
   · have hG:Lk o (yielded ops a.tmps)=false:=by
      rcases hw with hw | ⟨s',b',want,hw,hb⟩
      · exact w2 (DS.trans hw)
      · rw[(w3 s' b' want (DS.trans hw)).1];exact hb
     refine go g undef w (VA.iR.2 trivial) hs.rel (Ext.refl g w) (b7.refl _ _ _) (.one ?_)
     have hst:=stepR_op_skip (P:=P) (b:=b) (a:=a) (k:=k) (cs:=cs) (w:=w) (ops:=ops) (i:=i) (rest:=S5 .any ops fuel (t / (Ps .any ops S).length) (S.setIfInBounds i true) []) (by simp[ho,hG])
     simpa only[ho,yv] using hst
theorem sk : ∀{m:Mem},tH m=true → ∀(i:Nat) (b:aF),m[i]? = some b→b = .free
 |[],_,i,b,h=>by simp at h
 |x::r,h,i,b,hb=>by
  cases x with
  |free=>
   cases i with
   |zero=>simpa using hb.symm
   |succ i=>exact sk (m:=r) h i b (by simpa using hb)
  |_=>cases h
theorem Rel.trim {g:Gh} {m:Mem} {w:World} (h:Rel g m w) {n:Nat} (hf:tH (m.drop n)=true):Rel g (m.take n) w∧b7 g m w g (m.take n) w:=by
 have get : ∀i b,(m.take n)[i]? = some b→m[i]? = some b:=fun i b hb=>by
  rw[dq] at hb
  split at hb
  · exact hb
  · cases hb
 refine⟨⟨fun i hi=> ?_,fun i hi=>h.free i (get i _ hi),fun i b l hi hb=>h.cells i b l (get i b hi) hb,fun i c hi hc=>h.tok i c (get i _ hi) hc,
  fun i j b b' c hi hj ho ho' hc dx=>h.inj i j b b' c (get i b hi) (get j b' hj) ho ho' hc dx,h.there,fun i k l hi=>h.obs i k l (get i _ hi)⟩,b7.less fun c ⟨i,b,hi,ho,hc⟩=>⟨i,b,get i b hi,ho,hc⟩⟩
 rcases gg i m.length with q | q
 · rw[eQ] at hi
   have hb:(m.drop n)[i-n]? = some m[i]:=by
    rw[List.getElem?_drop,show n+(i-n)=i by omega]
    exact da q
   have:=sk hf _ _ hb
   exact h.free i (by rw[da q,this])
 · exact h.qm i q
theorem Rel.bB {g:Gh} {w:World} : ∀(n:Nat) {m:Mem},Rel g m w→Rel g (m++bB n) w∧b7 g m w g (m++bB n) w
 |0,m,h=>by
  simp only[Am.bB,List.replicate_zero,SS]
  exact⟨h,b7.refl _ _ _⟩
 |n+1,m,h=>by
  obtain⟨h1,h2⟩:=h.reserve
  obtain⟨h3,h4⟩:=Rel.bB n h1
  have e:m++Am.bB (n+1)=(m++[.free])++Am.bB n:=by simp[Am.bB,List.replicate_succ]
  rw[e]
  exact⟨h3,h2.trans h4⟩
theorem pQ {x:Nat} : ∀{n:Nat},tE x n=true → ∀j,j<n→bx x j=true
 |0,_,j,h=>absurd h (zt _)
 |n+1,h,j,hj=>by
  simp only[tE,di] at h
  rcases gg j n with q | q
  · exact pQ h.2 j q
  · have:j=n:=by omega
    subst this;exact h.1
theorem zf (ops:Array Oper):fP ops≤ops.size∧(fP ops=ops.size∨(fP ops+1=ops.size ∧ ∀j,j<fP ops→bx ((masks [] ops.toList).getD (fP ops) 0) j=true)):=by
 unfold fP
 cases h:qw ops with
 |false=>exact⟨ch _,.inl rfl⟩
 |true=>
  simp only[cond_true]
  refine⟨by omega,?_⟩
  unfold qw at h
  simp only[di] at h
  obtain⟨h1,h2⟩:=h
  have hp:0<ops.size:=by
   rcases Nat.eq_zero_or_pos ops.size with e | e
   · rw[show ops[ops.size-1]? = none from SD (by omega)] at h1;cases h1
   · exact e
  exact .inr ⟨by omega,fun j hj=>pQ h2 j hj⟩
theorem wM.Mm {wr:Oper→Bool} {ops:Array Oper} {m:Nat} {st st':St} {nx nQ:Nat} {ds:List fW} (h:wM P E wr ops (ops.toList.take m) st nx ds st' nQ) (hm:m≤ops.size) (hu:AI ops.toList) (hn:nx≤st.mem.length) (hfr:kE nx st.mem) :
  Jr P E wr ops m st (ds++db (ops.size-m) ⟨.bn [],[],[],fun _ _=>false⟩) st'∧ds.length=m∧st'.mem=lR st.mem ds∧st'.fix=st.fix:=by
 have get : ∀i,i<m→(ops.toList.take m)[i]? = ops.toList[i]? :=fun i hi=>by rw[dq,if_pos hi]
 have Bx:AI (ops.toList.take m):=by
  intro i j p q t hij hp hq
  rw[dq] at hp hq
  split at hp
  · split at hq
    · exact hu i j p q t hij hp hq
    · cases hq
  · cases hp
 have hlen:(ops.toList.take m).length=m:=by simp;omega
 obtain⟨h1,h2,h3,_,h4⟩:=h.spec Bx hn hfr
 rw[hlen] at h1 h2
 have slots : ∀{i:Nat} {T:St},i≤m→cS (ops.toList.take m) (ds.map (·.v)) st i T→cS ops.toList ((ds++db (ops.size-m) (⟨.bn [],[],[],fun _ _=>false⟩:fW)).map (·.v)) st i T:=by
  intro i T hi ⟨q1,q2,q3,q4,q5⟩
  refine⟨q1,q2,q3,fun j p v t hj hp hv ht=>q4 j p v t hj (by rw[get j (by omega)];exact hp) ?_ ht,fun t ht=>q5 t fun j p hj hp=>ht j p hj ?_⟩
  · rw[List.map_append,pf (by simp;omega)] at hv;exact hv
  · rw[get j (by omega)] at hp;exact hp
 refine⟨⟨by simp;omega,slots (ch _) h2,?_,?_,?_⟩,h1,h3,h2.2.2.1⟩
 · rw[pb (by omega),List.take_of_length_le (by omega)];exact h3
 · intro i o ho hi
   obtain⟨d,gZ,va,AN,q1,q2,q3,q4,q5,q6,q7⟩:=h4 i o (by rw[get i hi];exact ho)
   refine⟨d,gZ,va,AN,by rw[pf (by omega)];exact q1,q2,q3,slots (by omega) q4,?_,q6,q7⟩
   rw[pb (by omega)];exact q5
 · intro i e hi he
   rw[SK (by omega),SN] at he
   split at he
   · cases he;rfl
   · cases he
theorem Mc.pad {L:List Nat} {ds:List fW} {n:Nat} (h : ∀(i j:Nat) (d e:fW),j<i→ds[i]? = some d→ds[j]? = some e→bx (L.getD i 0) j=true∨((∀b∈e.w,b∉d.fp)∧((∀b∈d.w,b∉e.fp)∨HO d e))) :
  Mc L (ds++db n ⟨.bn [],[],[],fun _ _=>false⟩):=by
 refine⟨fun i j d e hj hd he=> ?_⟩
 rcases gg i ds.length with q | q
 · exact h i j d e hj (by rw[pf q] at hd;exact hd) (by rw[pf (by omega)] at he;exact he)
 · rw[SK q,SN] at hd
   split at hd
   · cases hd
     exact .inr ⟨fun b _=>by simp,.inl fun b hb=>by simp at hb⟩
   · cases hd
theorem Ka {g:Gh} {w:World} {b:Frame} {a:Act} {k:List It} {ops:Array Oper} {f bJ:Nat} {O:FuncId→List AV→Mem→Option (AV×Mem)} {st st':St} (hO : ∀g args m v m1,O g args m=some (v,m1)→aO P E g args m v m1)
  (hs:bR E g st a w) (h:jk P E f bJ O ops st=some (st',true)) :
  ∀cs,∃g' a' w',Steps P (lone (b.atR a (.code (.region bJ ops true)::cZ k)) cs w) (lone (b.atR a' (cZ (gR bJ ops k))) cs w')∧a'.defers=a.defers∧bR E g' st' a' w' ∧
   b7 g st.mem w g' st'.mem w'∧bf g g' st.fix∧st'.fix=st.fix ∧ ∀i c,g.aN i=some c→g'.aN i=some c:=by
 intro cs
 unfold jk at h
 split at h
 · rename_i zb nx ds ok hq
   simp only[dk,kl,di] at h
   obtain⟨rfl,rfl,Fq,J6,hfree,OP,J2⟩:=h
   have OP:=ft OP
   have hrun:=qG hO hq
   obtain⟨hQ,_⟩:=sQ.of Fq
   obtain⟨OQ,OR⟩:=zf ops
   have hL:Mc (masks [] ops.toList) (ds++db (ops.size-fP ops) ⟨.bn [],[],[],fun _ _=>false⟩):=Mc.pad fun i j d e hj hd he=>rZ (lT:=[]) J6 i j d e (S3 _) hj hd he
   obtain⟨J3,LC⟩:=hs.rel.bB (60+ops.size)
   have hs1:bR E g {st with mem:=st.mem++bB (60+ops.size)} a w:=⟨hs.tm,hs.nt,J3,by simp;have:=hs.fix;omega,hs.cC⟩
   have hgd : ∀j,(SB ops.size false).getD j false=false:=by
    intro j
    rw[H5,SF]
    split<;>rfl
   have hfr:kE st.mem.length (st.mem++bB (60+ops.size)):=by
    intro i hi hl
    rw[SK hi]
    simp only[bB,List.length_append,List.length_replicate] at hl ⊢
    rw[SN,if_pos (by omega)]
   have Lz:st.mem.length≤(st.mem++bB (60+ops.size)).length:=by simp
   obtain⟨hspec,OC,hmem,kF⟩:=hrun.Mm OQ hQ.uniq Lz hfr
   generalize hds:ds++db (ops.size-fP ops) (⟨.bn [],[],[],fun _ _=>false⟩:fW)=Qk at *
   have hI:lW ops (masks [] ops.toList) (Qk.map (·.v)) {st with mem:=st.mem++bB (60+ops.size)} {st with mem:=st.mem++bB (60+ops.size)} (SB ops.size false):=
    ⟨by simp,rfl,rfl,rfl,fun j _ _ _ hj=>(by rw[hgd] at hj;cases hj),fun _ _=>rfl,fun i _ hi=>(by rw[hgd] at hi;cases hi)⟩
   have hM:jv Qk (st.mem++bB (60+ops.size)) (fun j=>(SB ops.size false).getD j false=true) (st.mem++bB (60+ops.size)):=jv.nil fun j q=>by rw[hgd] at q;cases q
   have He:=hs1.drew (w.drawn+1)
   obtain⟨g',a',w',r1,r2,r3,r4,r5,r6⟩:=HQ (P:=P) (E:=E) (b:=b) (k:=cZ k) cs hQ hL hspec OR ops.size (w.tape w.drawn (.order b.fn bJ)) (SB ops.size false) {st with mem:=st.mem++bB (60+ops.size)} a g _ (fl ops.size) hI hM He (by simp) (fun i hi _=>SY.2 hi) (fun i _=>hgd i)
   obtain⟨t1,t2⟩:=r3.rel.trim hfree
   have hlen:zb.mem.length=st.mem.length+(60+ops.size):=by rw[hmem,lA];simp[bB]
   have kF:zb.fix=st.fix:=kF
   refine⟨g',a',w',?_,r2,⟨r3.tm,r3.nt,t1,?_,r3.cC⟩,?_,r5,kF,r6⟩
   · refine .head stepR_region_draw ?_
     have Ft:PH (P.follows .mixedOrders) ops (w.tape w.drawn (.order b.fn bJ))=S5 .any ops ops.size (w.tape w.drawn (.order b.fn bJ)) (SB ops.size false) []:=by
      simp only[PH,J2,if_true,QP]
     rw[Ft]
     unfold gR
     unfold fP at r1
     cases AP:qw ops with
     |false=>
      rw[AP] at r1
      simp only[cond_false,S0,SR] at r1 ⊢
      exact r1.trans (.one stepR_region_end)
     |true=>
      rw[AP] at r1
      simp only[cond_true] at r1 ⊢
      exact r1
   · have:=hs.fix
     show zb.fix≤(zb.mem.take nx).length
     rw[eQ,kF]
     omega
   · have hst:b7 g (st.mem++bB (60+ops.size)) w g (st.mem++bB (60+ops.size)) {w with drawn:=w.drawn+1}:=⟨ch _,fun _ _ _=>rfl,fun _ _ h=>⟨h,rfl⟩,fun _ _ h=> .inl h,fun _ h=> .inl h,rfl,rfl,rfl⟩
     exact((LC.trans hst).trans r4).trans t2
 · cases h
def sW (s t:St):Prop:=s.nt=t.nt∧s.fix=t.fix∧s.mem=t.mem ∧ ∀k,look s.tm k=look t.tm k
theorem sW.refl (s:St):sW s s:=⟨rfl,rfl,rfl,fun _=>rfl⟩
theorem xJ {a b:qo} : ∀{l:List Nat},Hv a b l=true → ∀k∈l,look a k=look b k
 |[],_,k,h=>by cases h
 |x::r,h,k,hk=>by
  simp only[Hv,di] at h
  rcases oT.1 hk with rfl | hk
  · exact kX h.1
  · exact xJ h.2 k hk
theorem qJ : ∀{a:qo} {k:Nat},k∉a.map (·.1)→look a k = .af
 |[],_,_=>rfl
 |(j,v)::r,k,h=>by
  simp only[pj,oT,not_or] at h
  simp only[look]
  cases hb:a6 j k with
  |true=>exact absurd (a8 hb).symm h.1
  |false=>exact qJ h.2
theorem DU {s t:St} (h:JH s t=true):sW s t:=by
 simp only[JH,di] at h
 obtain⟨h1,h2,_,h3,h4⟩:=h
 refine⟨a8 h1,a8 h2,mh h3,fun k=> ?_⟩
 by_cases hk:k∈s.tm.map (·.1)++t.tm.map (·.1)
 · exact xJ h4 k hk
 · rw[o0,not_or] at hk
   rw[qJ hk.1,qJ hk.2]
def Has (l:List Pt) (q:Pt):Prop:= ∃p∈l,p.1=q.1∧sW q.2 p.2
theorem xK {q:Pt} : ∀{l:List Pt},zW q l=true→Has l q
 |[],h=>by cases h
 |p::r,h=>by
  simp only[zW,kd] at h
  rcases h with h | h
  · simp only[LV,di] at h
    exact⟨p,.head _,(Array.toList_inj.1 (um h.1)).symm,DU h.2⟩
  · obtain⟨x,h1,h2⟩:=xK h
    exact⟨x,.tail _ h1,h2⟩
theorem xL {q:Pt} {l:List Pt}:Has (zX q l) q ∧ ∀x∈l,x∈zX q l:=by
 unfold zX
 cases h:zW q l with
 |true=>exact⟨xK h,fun _ hx=>hx⟩
 |false=>exact⟨⟨q,.head _,rfl,sW.refl _⟩,fun _ hx=> .tail _ hx⟩
theorem Has.mono {l l':List Pt} {q:Pt} (h:Has l q) (hl : ∀x∈l,x∈l'):Has l' q:=by
 obtain⟨p,h1,h2⟩:=h
 exact⟨p,hl p h1,h2⟩
theorem sn {f:FuncId} {ops:Array Oper} {q:Pt} : ∀{is:List Nat} {l l':List Pt},oX P E f ops q is l=some l' →
  (∀x∈l,x∈l') ∧ ∀i∈is,∃st,CH P E f ops i q.2=some st∧Has l' (q.1.setIfInBounds i true,st)
 |[],l,l',h=>by
  simp only[oX,dk] at h
  subst h
  exact⟨fun _ hx=>hx,fun i hi=>by cases hi⟩
 |i::r,l,l',h=>by
  simp only[oX] at h
  split at h
  · rename_i st hst
    obtain⟨h1,h2⟩:=sn h
    obtain⟨k1,k2⟩:=xL (q:=(q.1.setIfInBounds i true,st)) (l:=l)
    refine⟨fun x hx=>h1 x (k2 x hx),fun j hj=> ?_⟩
    rcases oT.1 hj with rfl | hj
    · exact⟨st,hst,k1.mono h1⟩
    · exact h2 j hj
  · cases h
theorem nD {f:FuncId} {ops:Array Oper} : ∀{l acc l':List Pt},level P E f ops l acc=some l' →
  (∀x∈acc,x∈l') ∧ ∀q∈l,(Ps .any ops q.1=[]→Has l' q) ∧ ∀i∈Ps .any ops q.1,∃st,CH P E f ops i q.2=some st∧Has l' (q.1.setIfInBounds i true,st)
 |[],acc,l',h=>by
  simp only[level,dk] at h
  subst h
  exact⟨fun _ hx=>hx,fun q hq=>by cases hq⟩
 |q::r,acc,l',h=>by
  simp only[level] at h
  split at h
  · rename_i hr
    obtain⟨h1,h2⟩:=nD h
    obtain⟨k1,k2⟩:=xL (q:=q) (l:=acc)
    refine⟨fun x hx=>h1 x (k2 x hx),fun p hp=> ?_⟩
    rcases oT.1 hp with rfl | hp
    · exact⟨fun _=>k1.mono h1,fun i hi=>by rw[hr] at hi;cases hi⟩
    · exact h2 p hp
  · rename_i hr
    split at h
    · rename_i l1 hn
      obtain⟨h1,h2⟩:=nD h
      obtain⟨k1,k2⟩:=sn hn
      refine⟨fun x hx=>h1 x (k1 x hx),fun p hp=> ?_⟩
      rcases oT.1 hp with rfl | hp
      · refine⟨fun e=>absurd e hr,fun i hi=> ?_⟩
        obtain⟨st,q1,q2⟩:=k2 i hi
        exact⟨st,q1,q2.mono h1⟩
      · exact h2 p hp
    · cases h
theorem sW.trans {a b c:St} (h:sW a b) (k:sW b c):sW a c:=⟨h.1.trans k.1,h.2.1.trans k.2.1,h.2.2.1.trans k.2.2.1,fun x=>(h.2.2.2 x).trans (k.2.2.2 x)⟩
theorem bR.like {g:Gh} {w:World} {st st':St} {a:Act} (h:bR E g st a w) (q:sW st st'):bR E g st' a w:=h.same q.2.2.1 q.1 q.2.1 q.2.2.2
theorem pR {f:FuncId} {ops:Array Oper} : ∀(n:Nat) {l l':List Pt},levels P E f ops n l=some l' → ∀q∈l,Ps .any ops q.1=[]→Has l' q
 |0,l,l',h,q,hq,_=>by
  simp only[levels,dk] at h
  subst h
  exact⟨q,hq,rfl,sW.refl _⟩
 |n+1,l,l',h,q,hq,hr=>by
  simp only[levels] at h
  split at h
  · rename_i l1 hl
    obtain⟨p,h1,h2,h3⟩:=(((nD hl).2 q hq).1 hr)
    obtain⟨x,k1,k2,k3⟩:=pR n h p h1 (by rw[h2];exact hr)
    exact⟨x,k1,k2.trans h2,h3.trans k3⟩
  · cases h
theorem Fv {b:Frame} {k:List Item} {f:FuncId} {ops:Array Oper} : ∀(n:Nat) (l l':List Pt),levels P E f ops n l=some l' → ∀(q:Pt),q∈l → ∀(t:Nat) (a:Act) (g:Gh) (w:World),bR E g q.2 a w →
  ∃st'∈l'.map (·.2),∃g' a' w',(∀cs,Steps P (lone (b.atR a (.inRegion ops (S5 .any ops n t q.1 [])::k)) cs w) (lone (b.atR a' (.inRegion ops []::k)) cs w'))∧a'.defers=a.defers∧bR E g' st' a' w' ∧
   b7 g q.2.mem w g' st'.mem w'∧bf g g' q.2.fix∧st'.fix=q.2.fix ∧ ∀i c,g.aN i=some c→g'.aN i=some c
 |0,l,l',h,q,hq,t,a,g,w,hs=>by
  simp only[levels,dk] at h
  subst h
  exact⟨q.2,fi.2 ⟨q,hq,rfl⟩,g,a,w,fun cs=>S6 _ _,rfl,hs,b7.refl _ _ _,bf.refl _ _,rfl,fun _ _ q=>q⟩
 |n+1,l,l',h,q,hq,t,a,g,w,hs=>by
  have h0:=h
  simp only[levels] at h
  split at h
  · rename_i l1 hl
    simp only[S5]
    show ∃st'∈l'.map (·.2),∃g' a' w',(∀cs,Steps P (lone (b.atR a (.inRegion ops (match(Ps .any ops q.1)[t%(Ps .any ops q.1).length]? with
     |some i=>S5 .any ops n (t / (Ps .any ops q.1).length) (q.1.setIfInBounds i true) [i]
     |none=>[].reverse)::k)) cs w) (lone (b.atR a' (.inRegion ops []::k)) cs w'))∧_
    obtain⟨_,k2⟩:=(nD hl).2 q hq
    cases hr:(Ps .any ops q.1)[t%(Ps .any ops q.1).length]? with
    |none=>
     have Fm:Ps .any ops q.1=[]:=by
      cases hz:Ps .any ops q.1 with
      |nil=>rfl
      |cons x xs=>
       rw[hz] at hr
       have hlt:t%(x::xs).length<(x::xs).length:=rp _ (by simp)
       rw[da hlt] at hr;cases hr
     obtain⟨p,p1,p2,p3⟩:=pR (n+1) h0 q hq Fm
     exact⟨p.2,fi.2 ⟨p,p1,rfl⟩,g,a,w,fun cs=>S6 _ _,rfl,hs.like p3,by rw[←p3.2.2.1];exact b7.refl _ _ _,bf.refl _ _,p3.2.1.symm,fun _ _ q=>q⟩
    |some i=>
     dsimp only
     rw[linearise_go_acc,SL,SM]
     obtain⟨st,he,p,p1,p2,p3⟩:=k2 i (oe hr)
     have p2:p.1=q.1.setIfInBounds i true:=p2
     have p3:sW st p.2:=p3
     unfold CH at he
     split at he
     · cases he
     · rename_i o ho
       split at he
       · rename_i hw
         dsimp only at he
         split at he
         · rename_i v us ok hop
           cases hok:(ok&&fits q.2 o.dst) with
           |false=>rw[hok] at he;cases he
           |true=>
            rw[hok] at he
            simp only[cond_true,dk] at he
            subst he
            simp only[di] at hok
            obtain⟨rfl,hf⟩:=hok
            have hG:=(nC hs (ops:=ops) (o:=o)).1 hw
            have hres:Rel g (reserve o q.2.mem) w∧b7 g q.2.mem w g (reserve o q.2.mem) w:=by
             unfold reserve
             cases makes o with
             |true=>exact hs.rel.reserve
             |false=>exact⟨hs.rel,b7.refl _ _ _⟩
            have hfree:makes o=true→(reserve o q.2.mem)[q.2.mem.length]? = some .free:=by
             intro hm
             simp[reserve,hm]
            obtain⟨cv,w1,g1,k1,k2,k3,k4,k5⟩:=nA hres.1 (fK hs) (fun _=>rfl) hfree hop
            have mM:q.2.fix≤(apply (reserve o q.2.mem) us).length:=by
             rw[dI]
             have:=hs.fix
             unfold reserve
             cases makes o<;>simp<;>omega
            have hs1:=(hs.put hf k2 k4 k3 mM).like p3
            have hm:p.2.mem=apply (reserve o q.2.mem) us:=by rw[←p3.2.2.1,rY]
            have hx:p.2.fix=q.2.fix:=by rw[←p3.2.1];cases o.dst<;>rfl
            obtain⟨Rg,r0,g2,a2,w2,r1,r2,r3,r4,r5,r6,r7⟩:=Fv (b:=b) (k:=k) n l1 l' h p p1 (t / (Ps .any ops q.1).length) _ _ _ hs1
            rw[hm] at r4
            rw[hx] at r5 r6
            rw[p2] at r1
            exact⟨Rg,r0,g2,a2,w2,fun cs=> .head (nB ho hG k1) (r1 cs),r2.trans put_defers,r3,(hres.2.trans k5).trans r4,(bf.pL k4 _).trans r5,r6,fun i c q=>r7 i c (k4.aN i c q).1⟩
         · cases he
       · cases he
  · cases h
theorem HS {g:Gh} {w:World} {b:Frame} {a:Act} {k:List Item} {ops:Array Oper} {f bJ:Nat} {st:St} {OS:List St} (hs:bR E g st a w) (h:yB P E f ops st=some OS) :
  ∃st'∈OS,∃g' a' w',(∀cs,Steps P (lone (b.atR a (.code (.region bJ ops true)::k)) cs w) (lone (b.atR a' k) cs w'))∧a'.defers=a.defers∧bR E g' st' a' w' ∧
   b7 g st.mem w g' st'.mem w'∧bf g g' st.fix∧st'.fix=st.fix ∧ ∀i c,g.aN i=some c→g'.aN i=some c:=by
 unfold yB at h
 cases hc:((EV ops||EW P ops)&&(P.follows .mixedOrders || !Region.departs ops)) with
 |false=>rw[hc] at h;cases h
 |true=>
  rw[hc] at h
  simp only[cond_true,Option.map_eq_some_iff] at h
  simp only[di] at hc
  obtain⟨l',h1,rfl⟩:=h
  obtain⟨st',h2,g',a',w',r1,r2,r3,r4,r5,r6,r7⟩:=Fv (b:=b) (k:=k) _ _ _ h1 (SB ops.size false,st) (.head _) (w.tape w.drawn (.order b.fn bJ)) a g _ (hs.drew (w.drawn+1))
  refine⟨st',h2,g',a',w',fun cs=> ?_,r2,r3,?_,r5,r6,r7⟩
  · refine .head stepR_region_draw ?_
    have Ft:PH (P.follows .mixedOrders) ops (w.tape w.drawn (.order b.fn bJ))=S5 .any ops ops.size (w.tape w.drawn (.order b.fn bJ)) (SB ops.size false) []:=by
     simp only[PH,hc.2,if_true,QP]
    rw[Ft]
    exact(r1 cs).trans (.one stepR_region_end)
  · have hst:b7 g st.mem w g st.mem {w with drawn:=w.drawn+1}:=⟨ch _,fun _ _ _=>rfl,fun _ _ h=>⟨h,rfl⟩,fun _ _ h=> .inl h,fun _ h=> .inl h,rfl,rfl,rfl⟩
    exact hst.trans r4
end
end Go.Am
end
