import Derived.Test.YtdmmllcjgjmbbaaGreatDoorPB
import Derived.Laws.Externs
import Derived.KernelRfl
import Derived.Orders
import Derived.RangeFuncLeaves
import Derived.RangeFuncIn
import Derived.RangeFuncRecord
open Go.Deferred renaming ofValue→xi
open Go.Sem renaming run_bind→kv,run_pure→kx,runT_eq→xn
open Go.Result renaming andThen_ok→ky
open Bool renaming and_eq_true→jn,false_eq_true→pD,not_eq_true'→ka,or_eq_true→j1,false_or→xo,rec→xr,not_true→xv
open Go.Region renaming ready→yb,wanted→xf,schedule→ye,binds→yi,linearise→yn
open Go.Frame renaming finish_atR→yo,atR→yr,enter→xc,round→yv
open Go.stepG renaming apply→zd,exec→zr
open Array renaming getD_eq_getD_getElem?→lv,replicate→zt,getElem?_eq_getElem→ic,getElem?_eq_none→il,toList_append→Fs,getElem?_eq_some_iff→Ha,toList_map→ja,length_toList→ie,getElem?_replicate→Hb,empty_append→Hc
open Option.some renaming injEq→kb,inj→kc
open List renaming getD_eq_getElem?_getD→de,getElem?_eq_getElem→df,range'→pw,getElem?_eq_some_iff→dt,mem_append_right→Hd,getElem?_append_left→od,mem_append_left→Hk,map_congr_left→Hm,getElem?_cons_zero→ml,mem_of_getElem?→mf,mem_append→oE,mem_cons→pB,getElem?_append_right→Hn,nil_append→H0,map_cons→mi,getElem?_take→di,reverse_singleton→H2,getElem?_eq_none→dT,singleton_append→H3,range_eq_range'→H4,mem_map→fg,cons_append→H5,getElem?_cons_succ→mr,getElem?_replicate→If,mem_range'_1→Lk,getElem?_set_self→nc,getElem?_map→en,replicate→dC,range'_zero→Pl,eq_nil_of_length_eq_zero→Ps,getElem?_set_ne→oe,take_append_of_le_length→PH,zip_cons_cons→PQ,length_erase_of_mem→QP,all_eq_true→QQ,append_nil→QR,mem_erase_of_ne→aax,getElem?_drop→dq,toArray→np,ext_getElem?→aaH,map_toArray→mv,mem_toArray→abj,length_take→eh,range→fh,mem_range→abk,mapM_cons→abl,map_nil→my,rec→abz
open Go.GStep renaming bare_after→abA,bare_go→abQ
open Nat renaming eq_of_beq_eq_true→ag,beq→ai,testBit→c8,lt_or_ge→be,le_refl→aw,le_of_ble_eq_true→ae,eq_zero_or_pos→abZ,not_lt_zero→rr,beq_refl→rl,lt_trichotomy→aca,zero_le→acb,sub_self→acp,strongRecOn→acs,mod_lt→rv,add_assoc→bm,add_comm→acu,sub_zero→acv,blt_eq→db,blt→bx,rec→acw
open Prod.mk renaming injEq→kp
open Go.Op renaming operands→acx
open Option renaming getD_some→km,bind_some→s0,map_eq_some_iff→kd,rec→acy,map_some→kl
open Go.Region.linearise renaming go→acz
open Go.Steps renaming refl→acA
noncomputable section
section
namespace Go.Am
open Go.RowKit
section
variable {P:Program} {E:Env} {g:Gh} {w:World}
theorem fG : ∀(us:qR) (m:Mem),(apply m us).length=m.length
 |[],_=>rfl
 |(i,b)::us,m=>by simp[apply,fG us]
def FM (P:Program) (E:Env) (g:Gh) (c:cw) (fr:Frame) (w:World) (l:List cw):Prop:=
 ∀cs,∃c'∈l,∃g' fr' w',Steps P (lone fr cs w) (lone fr' cs w')∧dZ P E g' c' fr' w'∧dU g c.st.mem w g' c'.st.mem w'∧bZ g g' c.st.fix∧c'.f=c.f∧c'.st.fix=c.st.fix∧c'.st.cR=c.st.cR
def FN (P:Program) (E:Env) (g:Gh) (c:cw) (fr:Frame) (w:World):Ev→Prop
 |.next c'=>fY P E g c fr w c'
 |.must b c'=>b=true→fY P E g c fr w c'
 |.test b y z=>(b=true→fY P E g c fr w y)∧(b=false→fY P E g c fr w z)
 |.call f args m ord dst c'=>(∀v m1,an P E f args m v m1→fY P E g c fr w {c' with st:=back ord dst c'.st v m1}) ∧ ∀u m1,Qo P E f args m u m1→fY P E g c fr w (qZ ord c' u m1)
 |.late f args m ord pv c'=> ∀m1,Qq P E f args m pv m1→fY P E g c fr w {c' with st:=back ord none c'.st (.aD []) m1}
 |.round args m ord dst c'=> ∀v m1,L2 P E args m v m1→fY P E g c fr w {c' with st:=back ord dst c'.st v m1}
 |.range f args m ord L c'=> ∀v m1,an P E f args m v m1 → ∀m2 pd,iV (back ord none c'.st v m1).mem L=some (m2,pd)→fY P E g c fr w (behind c' m2 pd)
 |.draw cO ops c'=> ∀(O:FuncId→List AV→Mem→Option (AV×Mem)) (st':St),(∀g args m v m1,O g args m=some (v,m1)→an P E g args m v m1)→mZ P E c'.f cO O ops c'.st=some (st',true) →
    fY P E g c fr w {c' with st:={st' with dj:=c'.st.dj,cR:=c'.st.cR}}
 |.fork l=>FM P E g c fr w l
 |.done (.ret v m')=>fr.fn=c.f∧m'=c.st.mem ∧ ∃cv w2,Qn P c.st.cR fr w cv w2∧VA g w2 v cv∧Rel g m' w2∧dU g m' w g m' w2∧c.st.fix≤m'.length
 |.done (.Co v m')=>fr.fn=c.f∧m'=c.st.mem ∧ ∃cv,fr.leaving P w (.panicked [{v:=cv,recovered:=false}])∧VA g w v cv∧Rel g m' w∧c.st.fix≤m'.length
 |.fail=>True
theorem nf {x:It} {k:List It} (hx:It.pl x) (hk : ∀y∈k,It.pl y) : ∀y∈x::k,It.pl y:=by
 intro y hy
 cases hy with
 |head=>exact hx
 |tail _ hy=>exact hk y hy
theorem dZ.mk {c:cw} {b:Frame} {a:Act} (hnf : ∀x∈c.todo,It.pl x) (h1:b.fn=c.f) (h2:fQ g c.st.cR b) (h3:Mk g c.st.dj a.defers) (h4:dc E g c.st a w):dZ P E g c (b.atR a (eM c.todo)) w:=by
 unfold dZ
 split
 · rename_i hk;exact absurd (hnf _ (by rw[hk];exact .head _)) id
 · rename_i hk;exact absurd (hnf _ (by rw[hk];exact .head _)) id
 · rename_i hk;exact absurd (hnf _ (by rw[hk];exact .head _)) id
 · rename_i hk;exact absurd (hnf _ (by rw[hk];exact .head _)) id
 · exact⟨b,a,rfl,h1,h2,h3,h4,hnf⟩
theorem fY.quiet {c c':cw} {b:Frame} {a:Act} {fr:Frame} (hst : ∀cs,Steps P (lone fr cs w) (lone (b.atR a (eM c'.todo)) cs w))
  (hnf : ∀x∈c'.todo,It.pl x) (h1:b.fn=c.f) (hf:c'.f=c.f) (h2:fQ g c'.st.cR b) (h3:Mk g c'.st.dj a.defers) (h4:dc E g c'.st a w) (hm:c'.st.mem=c.st.mem) (hx:c'.st.fix=c.st.fix) (hr:c'.st.cR=c.st.cR:=by rfl):fY P E g c fr w c':=by
 intro cs
 exact⟨g,_,w,hst cs,dZ.mk hnf (h1.trans hf.symm) h2 h3 h4,by rw[hm];exact dU.refl _ _ _,bZ.refl _ _,hf,hx,hr⟩
theorem put_defers {a:Act} {d:Option Tmp} {v:Value}:(a.put d v).defers=a.defers:=by cases d<;>rfl
theorem ZW {st:St} {d:Option Tmp} {v:AV}:(Am.put st d v).dj=st.dj:=by cases d<;>rfl
theorem mF {st:St} {d:Option Tmp} {v:AV}:(Am.put st d v).cR=st.cR:=by cases d<;>rfl
theorem fQ.put {g g':Gh} {w w':World} {st st':St} {b:Frame} {d:Option Tmp} {u:AV} (h:fQ g st.cR b) (e:Ext g w g' w') (hm:st'.cR=st.cR):fQ g' (Am.put st' d u).cR b:=by
 rw[mF,hm]
 exact h.ext fun i c q=>(e.cm i c q).1
theorem Mk.put {g g':Gh} {w w':World} {st st':St} {a:Act} {d:Option Tmp} {v:Value} {u:AV} (h:Mk g st.dj a.defers) (e:Ext g w g' w') (hm:st'.dj=st.dj):Mk g' (Am.put st' d u).dj (a.put d v).defers:=by
 rw[put_defers,ZW,hm]
 exact h.ext fun i c q=>(e.cm i c q).1
theorem A9 {a:Act} {o:Oper} {c:Call} {x:Operand} {f:FuncId} {fa ca:Array Value} (ho:o.op = .call c) (hc:c.callee = .value x) (hx:a.eval x = .func (.func f) fa ca)
  {fn:Func} (hf:P.funcs[f]? = some fn) (hb:fn.body.isSome=true) (hn:(fn.name == "runtime.NumGoroutine")=false) :
  (execOp a.eval o).run P w = .ok (.enter f (fa++c.args.map a.eval++ca)) w:=by
 have Y5:fn.body.isNone=false:=by cases hq:fn.body<;>simp_all
 simp only[execOp,ho,resolve,hc,hx,xi,kv,kx,ky,invoke,callFunc,run_program,hf,hn,pD,if_false,Y5]
theorem JQ {b:Frame} {a:Act} {k:List Item} {cs:List Frame} {w':World} {ops:Array Oper} {i:Nat} {rest:List Nat} {o:Oper} {l:Nat} {f:FuncId} {tmps:Array Value} {as bd:Code} (ho:ops[i]? = some o)
  (hw:xf o (yielded ops a.tmps)=true) (hr:(execOp a.eval o).run P w = .ok (.round l f tmps as bd) w') :
  _root_.Go.step P (lone (b.atR a (.inRegion ops (i::rest)::k)) cs w) = .next (lone (yv l f tmps as bd .normal) (b.atR a (.inRegion ops (i::rest)::k)::cs) w'):=by
 have hg:=stepGR_op (P:=P) (b:=b) (k:=k) (cs:=cs) (w:=w) (rest:=rest) ho hw
 exact step_lone_go (by rw[hg,semAt_eq hr fun _ e=>by cases e];simp[zd,hr,yr])
theorem CJ {a:Act} {o:Oper} {c:Call} {x:Operand} {l:Nat} (ho:o.op = .call c) (hc:c.callee = .value x) (hx:a.eval x = .func (.yield l) #[] #[]) {n:Next} {w':World}
  (hy:(Instr.yield l (c.args.map a.eval)).run P w = .ok n w'):(execOp a.eval o).run P w = .ok n w':=by
 simp only[execOp,ho,resolve,hc,hx,xi,kv,kx,ky,invoke,callFunc,Hc]
 exact hy
theorem Qr {st:St} {a:Act} {b:Frame} {k:List Item} {ops:Array Oper} {i:Nat} {rest:List Nat} {o:Oper} {args:List AV} {v:AV} {m1:Mem}
  (hs:dc E g st a w) (hd:Mk g st.dj a.defers) (hb:fQ g st.cR b) (ho:ops[i]? = some o) (hw:xf o (yielded ops a.tmps)=true) (ht:Aa (ev E st.tm) o=some args)
  (hf:fits st o.dst=true) (hlt:lC (close st.mem 0 args) st.mem.length=true)
  (gT:L2 P E (fL (idx (close st.mem 0 args)) args) (pack st.mem (close st.mem 0 args)) v m1) :
  ∀cs,∃g' a' w',Steps P (lone (b.atR a (.inRegion ops (i::rest)::k)) cs w) (lone (b.atR a' (.inRegion ops rest::k)) cs w') ∧
   Mk g' (back (close st.mem 0 args) o.dst st v m1).dj a'.defers∧fQ g' (back (close st.mem 0 args) o.dst st v m1).cR b∧dc E g' (back (close st.mem 0 args) o.dst st v m1) a' w' ∧
   dU g st.mem w g' (back (close st.mem 0 args) o.dst st v m1).mem w'∧bZ g g' st.fix∧(back (close st.mem 0 args) o.dst st v m1).fix=st.fix:=by
 intro cs
 have CK:=iY hs
 unfold Aa at ht
 split at ht
 · rename_i call hop
   split at ht
   · rename_i x CM
     split at ht
     · rename_i bl hx
       simp only[kb] at ht
       subst ht
       have CE:=CK x
       rw[hx] at CE
       generalize hcx:a.eval x=cx at CE
       cases CE with
       |vy _ l hl=>
        have hin:bl∈close st.mem 0 (.vy bl::call.args.toList.map (ev E st.tm)):=by
         obtain⟨_,t,h2⟩:=eL (kq (.vy bl::call.args.toList.map (ev E st.tm))) (upTo 0) (m9 0)
         obtain⟨_,t',h4⟩:=pV st.mem (st.mem.length+1) (kI (upTo 0) (kq (.vy bl::call.args.toList.map (ev E st.tm)))) 0 (eL _ _ (m9 0)).1
         unfold close
         rw[h4]
         refine Hk _ ?_
         show bl∈kI [] (bl::kq (call.args.toList.map (ev E st.tm)))
         simp only[kI,has,cond_false,H0]
         obtain⟨_,t2,h5⟩:=eL (kq (call.args.toList.map (ev E st.tm))) [bl] (by simp)
         rw[h5]
         exact Hk _ (by simp)
        have hargs:dz g w (call.args.toList.map (ev E st.tm)) (call.args.map a.eval).toList:=by
         rw[ja];exact jy CK _
        generalize hxs:call.args.toList.map (ev E st.tm)=xs at *
        obtain⟨hnd,_⟩:=gu st.mem 0 (.vy bl::xs)
        generalize close st.mem 0 (.vy bl::xs)=ord at *
        obtain⟨Ql,Qm⟩:=hs.rel.pack hnd
        have pW:=dS.pack g ord
        obtain⟨j,hj1,hj2⟩:=List.getElem_of_mem hin
        have hoj:ord[j]? = some bl:=by rw[df hj1,hj2]
        have hidx:idx ord bl=some j:=uD hnd hoj
        have hra:fL (idx ord) (.vy bl::xs) = .vy j::fL (idx ord) xs:=by simp only[fL,Am.kr,hidx]
        have hbj:(g.pack ord).cm j=some l:=by simp[Gh.pack,hoj,hl]
        obtain⟨f,tmps,as,bd,w',g',cv,y,q1,q4,q5,q6,q7,q8⟩:=gT (g.pack ord) w j l (fL (idx ord) xs) (call.args.map a.eval) (b.atR a (.inRegion ops (i::rest)::k)) cs hra Ql hbj
         (dz.kr pW hargs) (hs.cX.mono fun _ _ p=>⟨p,rfl⟩)
        have hlen:(Am.pack st.mem ord).length=ord.length:=by simp[Am.pack]
        rw[hlen] at q7 q8
        obtain⟨r1,r2,r3,r4⟩:=hs.rel.back hnd (iz hlt) q5 q6 q7 q8
        have hstep:=JQ (b:=b) (k:=k) (cs:=cs) (rest:=rest) ho hw (CJ hop CM hcx y)
        have rI:(b.atR a (.inRegion ops (i::rest)::k)).finish cv=b.atR (a.put o.dst cv) (.inRegion ops rest::k):=by rw[yo,ho];rfl
        rw[rI] at q1
        have qC:st.fix≤(dR (bI ord st.mem.length) ord m1 st.mem).length:=by
         rw[eR _ _ _ _ q8];have:=hs.fix;omega
        refine⟨_,a.put o.dst cv,w',.head hstep q1,hd.put (st':={st with mem:=_}) r2 rfl,hb.put (st':={st with mem:=_}) r2 rfl,hs.put hf (q4.kr r4) r2 r1 qC,?_,bZ.vI r2 _,?_⟩
        · have:(back ord o.dst st v m1).mem=dR (bI ord st.mem.length) ord m1 st.mem:=by
           unfold back Am.put;cases o.dst<;>rfl
          rw[this];exact r3
        · unfold back Am.put;cases o.dst<;>rfl
     · cases ht
   · cases ht
 · cases ht
theorem Na {f:FuncId} (h:LK P f=true) (x:Value):(callFunc f #[x]).run P w = .ok (.value x) w:=by
 unfold LK at h
 split at h
 · rename_i fn hf
   simp only[jn] at h
   obtain⟨h1,h2,h3⟩:=h
   have h2:=of_decide_eq_true h2
   have h3:=of_decide_eq_true h3
   have hn:(fn.name == "runtime.NumGoroutine")=false:=by rw[h2];decide
   have q1:Extern.findNext fn=none:=by
    simp only[Extern.findNext,h2,h3]
    kernel_rfl
   have q2:Extern.find fn=some Extern.AbiNoEscape.same:=by
    simp only[Extern.find,h2,h3]
    kernel_rfl
   rw[run_callFunc_extern hf hn h1 q1 q2]
   rfl
 · cases h
theorem G6 {ρ:Operand→AV} {dm:Operand→Value} (hr : ∀x,VA g w (ρ x) (dm x)) {o:Oper} {v:AV} (h:PS P ρ o=some v) : ∃cv,(execOp dm o).run P w = .ok (.value cv) w∧VA g w v cv:=by
 unfold PS at h
 split at h
 · rename_i c ho
   split at h
   · rename_i f x hc ha
     have nO:c.args = #[x]:=by have:=congrArg np ha;simpa using this
     split at h
     · rename_i q hq
       cases he:LK P q with
       |false=>rw[he] at h;cases h
       |true=>
        rw[he] at h
        simp only[cond_true,kb] at h
        subst h
        have hf:=hr f
        rw[hq,VA.fns] at hf
        obtain⟨fa,ca,hcf,q1,q2⟩:=hf
        have e1:fa = #[]:=by cases fa with | mk l=>cases l with | nil=>rfl | cons _ _=>exact q1.elim
        have e2:ca = #[]:=by cases ca with | mk l=>cases l with | nil=>rfl | cons _ _=>exact q2.elim
        subst e1;subst e2
        refine⟨dm x,?_,hr x⟩
        simp only[execOp,ho,resolve,hc,hcf,nO,xi,kv,kx,ky,invoke,mv,mi,my,Array.append_empty,Hc]
        exact Na he _
     · cases h
   · cases h
 · cases h
theorem G7 {v:AV} {cv:Value} (h:Dc v=true) (hv:VA g w v cv) : ∃t x,cv = .iface t x:=by
 cases hv with
 |qQ t v cv h=>exact⟨t,cv,rfl⟩
 |p v cv h'=>cases h' with
  |qQ t v cv h=>exact⟨t,cv,rfl⟩
  |_=>cases h
 |_=>cases h
theorem JR {b:Frame} {a:Act} {k:List Item} {cs:List Frame} {ops:Array Oper} {i:Nat} {rest:List Nat} {o:Oper} {v:Value} (ho:ops[i]? = some o) (hw:xf o (yielded ops a.tmps)=true)
  (hr:(o.semAt b.roundOf a.eval).run P w = .halt (.panic v) w) :
  _root_.Go.step P (lone (b.atR a (.inRegion ops (i::rest)::k)) cs w) = .next (lone {b.atR a (.inRegion ops (i::rest)::k) with mode:=dG (some v) false} cs w):=by
 have hg:=stepGR_op (P:=P) (b:=b) (k:=k) (cs:=cs) (w:=w) (rest:=rest) ho hw
 refine step_lone_go ?_
 rw[hg]
 simp[zd,hr,Frame.raise,yr,dG]
theorem rJ : ∀{l:List AV} {q:List (Nat×Nat)} {cs:List Value},Db l=some q→dz g w l cs→Mps g q cs
 |[],q,[],h,_=>by
  simp only[Db,kb] at h;subst h;trivial
 |.mp b off::l,q,cv::cs,h,hv=>by
  simp only[Db] at h
  split at h
  · rename_i l' hl
    simp only[kb] at h;subst h
    have h1:=hv.1
    cases h1 with
    |mp _ _ c hc=>exact⟨⟨c,hc,rfl⟩,rJ hl hv.2⟩
  · cases h
 |[],_,_::_,_,hv=>hv.elim
 |_::_,_,[],_,hv=>hv.elim
 |.az::_,_,_::_,h,_ | .p _::_,_,_::_,h,_ | .os .. :: _,_,_::_,h,_ | .ms .. :: _,_,_::_,h,_ | .fn .. :: _,_,_::_,h,_ | .agg _::_,_,_::_,h,_ | .aD _::_,_,_::_,h,_
 |.qQ .. :: _,_,_::_,h,_ | .vm _::_,_,_::_,h,_ | .vy _::_,_,_::_,h,_=>by cases h
theorem Qs {c:cw} {b:Frame} {a:Act} {k0:List It} {ops:Array Oper} {i cO:Nat} {o:Oper} (hs:dc E g c.st a w) (Ba:b.fn=c.f) (hbk:fQ g c.st.cR b) (hd:Mk g c.st.dj a.defers)
  (ho:ops[i]? = some o) (hw:xf o (yielded ops a.tmps)=true) (ZX : ∀x∈k0,It.pl x) :
  FN P E g c (b.atR a (.inRegion ops (i::pw (i+1) (ops.size-(i+1)))::eM k0)) w (PT E c o (.ops cO ops (i+1) false::k0)):=by
 have CK:=iY hs
 have throw : ∀(x:Operand),Dc (ev E c.st.tm x)=true→(∀v,a.eval x=v→(∃t y,v = .iface t y)→(o.semAt b.roundOf a.eval).run P w = .halt (.panic v) w) →
   fY P E g c (b.atR a (.inRegion ops (i::pw (i+1) (ops.size-(i+1)))::eM k0)) w {c with todo:=[.jT (ev E c.st.tm x)]}:=by
  intro x hx hrun cs
  have hr:=hrun _ rfl (G7 hx (CK x))
  exact⟨g,_,w,.one (JR ho hw hr),⟨b,a,_,a.eval x,rfl,Ba,hbk,hd,hs,CK x⟩,dU.refl _ _ _,bZ.refl _ _,rfl,rfl,rfl⟩
 unfold PT
 split
 · rename_i x hop
   cases hx:Dc (ev E c.st.tm x) with
   |false=>trivial
   |true=>
    refine throw x hx fun v hv ⟨t,y,e⟩=> ?_
    have ZY:o.semAt b.roundOf a.eval=execOp a.eval o:=by unfold Oper.semAt;rw[hop];cases b.roundOf<;>rfl
    rw[ZY]
    subst hv
    simp only[execOp,hop,e,Instr.panic]
    rfl
 · rename_i d hop
   split
   · rename_i x hc ha
     have nO:d.args = #[x]:=by have:=congrArg np ha;simpa using this
     cases hx:Dc (ev E c.st.tm x) with
     |false=>trivial
     |true=>
      refine throw x hx fun v hv ⟨t,y,e⟩=> ?_
      have ZY:o.semAt b.roundOf a.eval=execOp a.eval o:=by unfold Oper.semAt;rw[hop];cases b.roundOf<;>rfl
      rw[ZY]
      subst hv
      simp only[execOp,hop,resolve,hc,nO,kv,kx,ky,invoke,mv,mi,my,e]
      rfl
   · trivial
 · rename_i d hop
   split
   · trivial
   · rename_i f hmk CM Bb
     split
     · rename_i gf first captured hf
       split
       · rename_i l m hl hm
         intro hfit cs
         have hvf:=CK f
         rw[hf,VA.fns] at hvf
         obtain⟨fa,ca,hcf,ZZ,hca⟩:=hvf
         have hro:=hbk.FL fun i e=>Bb i e
         have hrun:(o.semAt b.roundOf a.eval).run P w = .ok (.defer {target:= .fn (.func gf) ca,args:=fa++d.args.map a.eval}) w:=by
          rw[hro]
          simp only[Oper.semAt,execOp,hop,resolve,CM,hcf,xi,kv,kx,ky]
         have hargs:dz g w (first++d.args.toList.map (ev E c.st.tm)) (fa++d.args.map a.eval).toList:=by
          simp only[Fs,ja]
          exact ZZ.append (jy CK _)
         rw[hmk] at hd
         have hds:a.defers=[]:=by
          cases hq:a.defers with
          |nil=>rfl
          |cons _ _=>rw[hq] at hd;exact hd.elim
         have hstep:_root_.Go.step P (lone (b.atR a (.inRegion ops (i::pw (i+1) (ops.size-(i+1)))::eM k0)) cs w) =
          .next (lone (b.atR ({a with defers:=[{target:= .fn (.func gf) ca,args:=fa++d.args.map a.eval}]}.put o.dst undef) (.inRegion ops (pw (i+1) (ops.size-(i+1)))::eM k0)) cs w):=by
          have hg:=stepGR_op (P:=P) (b:=b) (k:=eM k0) (cs:=cs) (w:=w) (rest:=pw (i+1) (ops.size-(i+1))) ho hw
          have rI:({b.atR a (.inRegion ops (i::pw (i+1) (ops.size-(i+1)))::eM k0) with defers:={target:= .fn (.func gf) ca,args:=fa++d.args.map a.eval}::a.defers}:Frame).finish undef =
           b.atR ({a with defers:=[{target:= .fn (.func gf) ca,args:=fa++d.args.map a.eval}]}.put o.dst undef) (.inRegion ops (pw (i+1) (ops.size-(i+1)))::eM k0):=by
           have:=yo b {a with defers:=[{target:= .fn (.func gf) ca,args:=fa++d.args.map a.eval}]} ops i (pw (i+1) (ops.size-(i+1))) (eM k0) undef
           rw[ho] at this
           rw[hds]
           exact this
          refine step_lone_go ?_
          rw[hg]
          simp only[zd,xn,hrun,abA]
          exact congrArg (fun fr=>GStep.go {frame:=fr,callers:=cs,status:= .running,dying:=none} w) rI
         have hs':dc E g {c.st with dj:=[.late gf l m]} {a with defers:=[{target:= .fn (.func gf) ca,args:=fa++d.args.map a.eval}]} w:=⟨hs.tm,hs.nt,hs.rel,hs.fix,hs.cX⟩
         have hd':Mk g [.late gf l m] [{target:= .fn (.func gf) ca,args:=fa++d.args.map a.eval}]:=⟨⟨_,_,rJ hl hargs,rJ hm hca,rfl⟩,trivial⟩
         refine⟨g,_,w,.one hstep,dZ.mk (c:={c with todo:= .ops cO ops (i+1) false::k0,st:=put {c.st with dj:=[.late gf l m]} o.dst (.aD [])}) (nf trivial ZX) Ba
          (hbk.put (st:=c.st) (st':={c.st with dj:=[.late gf l m]}) (Ext.refl g w) rfl)
          (Mk.put (st:={c.st with dj:=[.late gf l m]}) (st':={c.st with dj:=[.late gf l m]}) (a:={a with defers:=[{target:= .fn (.func gf) ca,args:=fa++d.args.map a.eval}]}) hd' (Ext.refl g w) rfl)
          (hs'.put (cv:=undef) (v:= .aD []) (m':=c.st.mem) hfit (VA.pP.2 trivial) (Ext.refl g w) hs.rel hs.fix),?_,bZ.refl _ _,rfl,?_,mF⟩
         · have:(put {c.st with dj:=[.late gf l m]} o.dst (.aD [])).mem=c.st.mem:=by unfold Am.put;cases o.dst<;>rfl
           show dU g c.st.mem w g (put {c.st with dj:=[.late gf l m]} o.dst (.aD [])).mem w
           rw[this];exact dU.refl _ _ _
         · show(put {c.st with dj:=[.late gf l m]} o.dst (.aD [])).fix=c.st.fix
           unfold Am.put;cases o.dst<;>rfl
       · trivial
     · trivial
   · trivial
 · trivial
theorem L3 {c:cw} {b:Frame} {a:Act} {k0:List It} {ops:Array Oper} {i cO:Nat} {o:Oper} (hs:dc E g c.st a w) (Ba:b.fn=c.f) (hbk:fQ g c.st.cR b) (hd:Mk g c.st.dj a.defers)
  (ho:ops[i]? = some o) (hw:xf o (yielded ops a.tmps)=true) (ZX : ∀x∈k0,It.pl x) :
  FN P E g c (b.atR a (.inRegion ops (pw i (ops.size-i))::eM k0)) w (PU P E c cO o (.ops cO ops (i+1) false::k0)):=by
 have hi:i<ops.size:=by
  rcases be i ops.size with q | q
  · exact q
  · rw[il q] at ho;cases ho
 rw[rH hi]
 unfold PU
 have CK:=iY hs
 split
 · rename_i f args ht
   split
   · rename_i v ae0
     intro hok cs
     obtain⟨cv,k1,k2⟩:=G6 CK ae0
     have hstep:=vK (b:=b) (k:=eM k0) (cs:=cs) (rest:=pw (i+1) (ops.size-(i+1))) ho hw (.inl k1)
     refine⟨g,_,w,.one hstep,dZ.mk (a:=a.put o.dst cv) (c:={c with todo:= .ops cO ops (i+1) false::k0,st:=put {c.st with mem:=c.st.mem} o.dst v}) (nf trivial ZX) Ba (hbk.put (st':={c.st with mem:=_}) (Ext.refl g w) rfl) (hd.put (st':={c.st with mem:=_}) (Ext.refl g w) rfl) (hs.put hok k2 (Ext.refl g w) hs.rel hs.fix),?_,bZ.refl _ _,rfl,?_,mF⟩
     · have:(put c.st o.dst v).mem=c.st.mem:=(by unfold Am.put;cases o.dst<;>rfl)
       show dU g c.st.mem w g (put c.st o.dst v).mem w
       rw[this];exact dU.refl _ _ _
     · show(put c.st o.dst v).fix=c.st.fix
       unfold Am.put;cases o.dst<;>rfl
   cases hb:(fits c.st o.dst&&lC (close c.st.mem 0 args) c.st.mem.length) with
   |false=>simp only[hb,cond_false];trivial
   |true=>
    simp only[hb,cond_true]
    simp only[jn] at hb
    unfold target at ht
    split at ht
    · rename_i call hop
      split at ht
      · rename_i x CM
        split at ht
        · rename_i f' first captured hx
          simp only[kb,kp] at ht
          obtain⟨rfl,rfl⟩:=ht
          have CE:=CK x
          rw[hx,VA.fns] at CE
          obtain⟨fa,ca,CE,ZZ,hca⟩:=CE
          have hargs:dz g w (first++call.args.toList.map (ev E c.st.tm)++captured) (fa++call.args.map a.eval++ca).toList:=by
           simp only[Fs,ja]
           exact(ZZ.append (jy CK _)).append hca
          generalize first++call.args.toList.map (ev E c.st.tm)++captured=args at *
          obtain⟨hnd,_⟩:=gu c.st.mem 0 args
          generalize close c.st.mem 0 args=ord at *
          obtain⟨Ql,Qm⟩:=hs.rel.pack hnd
          have pW:=dS.pack g ord
          have hlen:(Am.pack c.st.mem ord).length=ord.length:=by simp[Am.pack]
          constructor
          · intro v m1 gT cs
            obtain⟨⟨fn,Ws,Wt,Wu⟩,gT⟩:=gT
            have hrun:=A9 (P:=P) (w:=w) hop CM CE Ws Wt Wu
            obtain⟨w',g',cv,fr,q1,q2,q3,q4,q5,q6,q7,q8⟩:=gT (g.pack ord) w (fa++call.args.map a.eval++ca) (b.atR a (.inRegion ops (i::pw (i+1) (ops.size-(i+1)))::eM k0)::cs) Ql
             (dz.kr pW hargs) (hs.cX.mono fun _ _ p=>⟨p,rfl⟩)
            rw[hlen] at q7 q8
            obtain⟨r1,r2,r3,r4⟩:=hs.rel.back hnd (iz hb.2) q5 q6 q7 q8
            have hstep:=uE (b:=b) (k:=eM k0) (cs:=cs) (rest:=pw (i+1) (ops.size-(i+1))) ho hw hrun
            have hleave:=step_leave_returned (P:=P) (c:=b.atR a (.inRegion ops (i::pw (i+1) (ops.size-(i+1)))::eM k0)) (cs:=cs) q2
            have rI:(b.atR a (.inRegion ops (i::pw (i+1) (ops.size-(i+1)))::eM k0)).finish cv=b.atR (a.put o.dst cv) (.inRegion ops (pw (i+1) (ops.size-(i+1)))::eM k0):=by
             rw[yo,ho];rfl
            rw[rI] at hleave
            have qC:c.st.fix≤(dR (bI ord c.st.mem.length) ord m1 c.st.mem).length:=by
             rw[eR _ _ _ _ q8];have:=hs.fix;omega
            refine⟨_,_,w',.head hstep (q1.trans (.one hleave)),dZ.mk (a:=a.put o.dst cv) (c:={c with todo:= .ops cO ops (i+1) false::k0,st:=back ord o.dst c.st v m1}) (nf trivial ZX) Ba (hbk.put (st':={c.st with mem:=_}) r2 rfl) (hd.put (st':={c.st with mem:=_}) r2 rfl) (hs.put hb.1 (q4.kr r4) r2 r1 qC),?_,bZ.vI r2 _,rfl,?_,mF⟩
            · have:(back ord o.dst c.st v m1).mem=dR (bI ord c.st.mem.length) ord m1 c.st.mem:=by
               unfold back Am.put;cases o.dst<;>rfl
              show dU g c.st.mem w _ (back ord o.dst c.st v m1).mem w'
              rw[this];exact r3
            · show(back ord o.dst c.st v m1).fix=c.st.fix
              unfold back Am.put;cases o.dst<;>rfl
          · intro u m1 gT cs
            obtain⟨⟨fn,Ws,Wt,Wu⟩,gT⟩:=gT
            have hrun:=A9 (P:=P) (w:=w) hop CM CE Ws Wt Wu
            obtain⟨w',g',cv,fr,q1,q2,q3,q4,q5,q6,q7,q8⟩:=gT (g.pack ord) w (fa++call.args.map a.eval++ca) (b.atR a (.inRegion ops (i::pw (i+1) (ops.size-(i+1)))::eM k0)::cs) Ql
             (dz.kr pW hargs) (hs.cX.mono fun _ _ p=>⟨p,rfl⟩)
            rw[hlen] at q7 q8
            obtain⟨r1,r2,r3,r4⟩:=hs.rel.back hnd (iz hb.2) q5 q6 q7 q8
            have hstep:=uE (b:=b) (k:=eM k0) (cs:=cs) (rest:=pw (i+1) (ops.size-(i+1))) ho hw hrun
            have hleave:=step_leave_panicked (P:=P) (c:=b.atR a (.inRegion ops (i::pw (i+1) (ops.size-(i+1)))::eM k0)) (cs:=cs) q2
            have qC:c.st.fix≤(dR (bI ord c.st.mem.length) ord m1 c.st.mem).length:=by
             rw[eR _ _ _ _ q8];have:=hs.fix;omega
            refine⟨_,_,w',.head hstep (q1.trans (.one hleave)),⟨b,a,_,cv,rfl,Ba,hbk.ext fun i c q=>(r2.cm i c q).1,hd.ext fun i c q=>(r2.cm i c q).1,⟨fun k=>(hs.tm k).mono r2,hs.nt,r1,qC,hs.cX.mono r2.pure⟩,q4.kr r4⟩,r3,bZ.vI r2 _,rfl,rfl,rfl⟩
        · cases ht
      · cases ht
    · cases ht
 · dsimp only
   split
   · rename_i args ht
     cases hb:(fits c.st o.dst&&lC (close c.st.mem 0 args) c.st.mem.length) with
     |false=>trivial
     |true=>
      simp only[cond_true]
      simp only[jn] at hb
      intro v m1 gT cs
      obtain⟨g',a',w',r1,r2,r3,r4,r5,r6,r7⟩:=Qr (P:=P) (k:=eM k0) (rest:=pw (i+1) (ops.size-(i+1))) hs hd hbk ho hw ht hb.1 hb.2 gT cs
      exact⟨g',_,w',r1,dZ.mk (a:=a') (c:={c with todo:= .ops cO ops (i+1) false::k0,st:=back (close c.st.mem 0 args) o.dst c.st v m1}) (nf trivial ZX) Ba r3 r2 r4,r5,r6,rfl,r7,mF⟩
   · split
     · rename_i v us ok he
       intro hok cs
       simp only[jn] at hok
       obtain⟨rfl,hfit⟩:=hok
       have hres:Rel g (reserve o c.st.mem) w∧dU g c.st.mem w g (reserve o c.st.mem) w:=by
        unfold reserve
        cases makes o with
        |true=>exact hs.rel.reserve
        |false=>exact⟨hs.rel,dU.refl _ _ _⟩
       have hfree:makes o=true→(reserve o c.st.mem)[c.st.mem.length]? = some .free:=by
        intro hm
        simp[reserve,hm]
       obtain⟨cv,w',g',k1,k2,k3,k4,k5⟩:=sX hres.1 CK (fun _=>rfl) hfree he
       have hstep:=vK (b:=b) (k:=eM k0) (cs:=cs) (rest:=pw (i+1) (ops.size-(i+1))) ho hw k1
       have qC:c.st.fix≤(apply (reserve o c.st.mem) us).length:=by
        rw[fG]
        have:=hs.fix
        unfold reserve
        cases makes o<;>simp<;>omega
       refine⟨g',_,w',.one hstep,dZ.mk (a:=a.put o.dst cv) (c:={c with todo:= .ops cO ops (i+1) false::k0,st:=put {c.st with mem:=apply (reserve o c.st.mem) us} o.dst v}) (nf trivial ZX) Ba (hbk.put (st':={c.st with mem:=_}) k4 rfl) (hd.put (st':={c.st with mem:=_}) k4 rfl) (hs.put hfit k2 k4 k3 qC),?_,bZ.vI k4 _,rfl,?_,mF⟩
       · have:(put {c.st with mem:=apply (reserve o c.st.mem) us} o.dst v).mem=apply (reserve o c.st.mem) us:=by unfold Am.put;cases o.dst<;>rfl
         show dU g c.st.mem w _ (put {c.st with mem:=apply (reserve o c.st.mem) us} o.dst v).mem w'
         rw[this];exact hres.2.trans k5
       · show(put {c.st with mem:=apply (reserve o c.st.mem) us} o.dst v).fix=c.st.fix
         unfold Am.put;cases o.dst<;>rfl
     · exact Qs hs Ba hbk hd ho hw ZX
end
end Go.Am
end
section
namespace Go.Am
section
variable {P:Program} {E:Env}
theorem yX {ρ ρ':Operand→AV} : ∀{l:List Operand},(∀x∈l,ρ x=ρ' x)→yH ρ l=yH ρ' l
 |[],_=>rfl
 |x::r,h=>by simp only[yH,h x (.head _),yX fun y hy=>h y (.tail _ hy)]
theorem rK {ρ ρ':Operand→AV} {x:Option Operand} (h : ∀y∈x,ρ y=ρ' y) (d:Nat):bound ρ x d=bound ρ' x d:=by
 cases x with
 |none=>rfl
 |some x=>simp only[bound,h x (by simp)]
theorem Dq {rd:Nat→bf} {wr:Bool} {bM:Nat} {ρ ρ':Operand→AV} {o:Oper} (hq:jo o=true) (h : ∀x∈o.op.operands,ρ x=ρ' x):yJ P rd wr bM ρ o=yJ P rd wr bM ρ' o:=by
 have hsel : ∀cs b,o.op ≠ .select cs b:=by
  intro cs b e
  simp[jo,e] at hq
 have hsc:scalar P ρ o=scalar P ρ' o:=by
  unfold scalar
  rw[yX (ρ:=ρ) (ρ':=ρ') fun x hx=>h x (by simpa using hx),
   execOp_congr (ρ:=fun x=>(MS (ρ x)).getD undef) (ρ':=fun x=>(MS (ρ' x)).getD undef) o hsel fun x hx=>by rw[h x hx]]
 obtain⟨dst,op,type,pos,after,guard⟩:=o
 cases op<;>simp only[jo,pD] at hq<;>simp only[acx] at h<;>simp only[yJ]
 case move x=>rw[h x (by simp)]
 case assign x=>rw[h x (by simp)]
 case pick c a b=>rw[h c (by simp),h a (by simp),h b (by simp)]
 case build t ps=>
  have:ps.toList.map (fun q=>(q.1,ρ q.2))=ps.toList.map fun q=>(q.1,ρ' q.2):=
   Hm fun q hq=>by rw[h q.2 (by simp only[abj,fg];exact⟨q,hq,rfl⟩)]
  rw[this]
 case load t a=>rw[h a (by simp)]
 case nilCheck x=>rw[h x (by simp)];simp only[mU,hsc]
 case binOp op t x y r=>rw[h x (by simp),h y (by simp)];simp only[vh,hsc]
 case unOp op t x=>rw[h x (by simp)];simp only[Av,hsc]
 case convert s d x=>rw[h x (by simp)];simp only[convertOp,hsc]
 case makeInterface t x=>rw[h x (by simp)]
 case makeFunc f first captured=>
  rw[Hm (l:=first.toList) fun x hx=>h x (by simp_all),Hm (l:=captured.toList) fun x hx=>h x (by simp_all)]
 case slice t x lo hi mx=>
  rw[h x (by simp)]
  have h1:=rK (ρ:=ρ) (ρ':=ρ') (x:=lo) fun y hy=>h y (by simp_all)
  have h2:=rK (ρ:=ρ) (ρ':=ρ') (x:=hi) fun y hy=>h y (by simp_all)
  have h3:=rK (ρ:=ρ) (ρ':=ρ') (x:=mx) fun y hy=>h y (by simp_all)
  cases mx with
  |none=>
   simp only[sN,h1,h2]
   repeat' first | rfl | split
   all_goals simp_all
  |some m=>
   simp only[sN,h1,h2]
   repeat' first | rfl | split
   all_goals simp_all
 case fieldAddr t x f=>rw[h x (by simp)]
 case field t x f=>rw[h x (by simp)]
 case indexAddr t x i=>rw[h x (by simp),h i (by simp)]
 case index t x i=>rw[h x (by simp),h i (by simp)]
 case extract x i=>rw[h x (by simp)]
 case call c=>
  obtain⟨callee,args,tys⟩:=c
  cases callee with
  |value _=>simp at hq
  |invoke _ _=>simp at hq
  |builtin b=>
   simp only[Call.operands] at h
   obtain⟨args⟩:=args
   have hmm : ∀mn,mW P ρ ⟨dst,.call ⟨.builtin b,⟨args⟩,tys⟩,type,pos,after,guard⟩ mn args=mW P ρ' ⟨dst,.call ⟨.builtin b,⟨args⟩,tys⟩,type,pos,after,guard⟩ mn args:=by
    intro mn
    unfold mW
    rw[hsc,Hm (l:=args) fun x hx=>h x (by simp_all)]
   cases b<;>simp only[pD] at hq<;>simp only[hmm]
   cases args with
   |nil=>rfl
   |cons x r=>cases r with
    |nil=>simp only[h x (by simp)]
    |cons _ _=>rfl
theorem vL (st:St) (dst:Option Tmp) (v:AV) (t:Nat):look (put st dst v).tm t=if dst=some t then v else look st.tm t:=by
 cases dst with
 |none=>simp[put]
 |some d=>simp only[put,mO,kb]
theorem FO (st:St) (dst:Option Tmp) (v:AV):(put st dst v).mem=st.mem∧(put st dst v).nt=st.nt∧(put st dst v).fix=st.fix:=by
 cases dst<;>exact⟨rfl,rfl,rfl⟩
theorem pX {a b:List Nat} (h:meet a b=false) {i:Nat} (ha:i∈a) (hb:i∈b):False:=by
 simp only[meet,List.any_eq_false] at h
 have:=h i ha
 simp only[List.any_eq_true,not_exists,not_and] at this
 exact this i hb (rl i)
theorem G8 : ∀(l:List Oper) (acc:List Nat),∃M,masks acc l=acc++M∧M.length=l.length ∧ ∀i o,l[i]? = some o→M[i]? = some (ux (acc++M.take i) o)
 |[],acc=>⟨[],by simp[masks]⟩
 |o::r,acc=>by
  obtain⟨M,h1,h2,h3⟩:=G8 r (acc++[ux acc o])
  refine⟨ux acc o::M,by simp[masks,h1],by simp[h2],?_⟩
  intro i p hp
  cases i with
  |zero=>simp only[ml,kb] at hp;subst hp;simp
  |succ i=>
   simp only[mr] at hp
   have:=h3 i p hp
   simpa using this
theorem JS {acc:List Nat} {o:Oper} {j:Nat} (h:c8 (ux acc o) j=true) : ∃e∈o.after,yi .any e=true∧(e.on=j∨c8 (acc.getD e.on 0) j=true):=by
 unfold ux at h
 have key : ∀(l:List Edge) (s:Nat),c8 (l.foldl (fun s e=>cond (yi .any e) (s|||(2 ^ e.on|||acc.getD e.on 0)) s) s) j=true →
   c8 s j=true ∨ ∃e∈l,yi .any e=true∧(e.on=j∨c8 (acc.getD e.on 0) j=true):=by
  intro l
  induction l with
  |nil=>intro s h;exact .inl h
  |cons e r ih=>
   intro s h
   simp only[List.foldl_cons] at h
   rcases ih _ h with h | ⟨e',he',q⟩
   · cases hb:yi .any e with
     |false=>rw[hb] at h;exact .inl h
     |true=>
      rw[hb] at h
      simp only[cond_true,Nat.testBit_or,j1] at h
      rcases h with h | h | h
      · exact .inl h
      · refine .inr ⟨e,.head _,hb,.inl ?_⟩
        rw[Nat.testBit_two_pow] at h
        exact of_decide_eq_true h
      · exact .inr ⟨e,.head _,hb,.inr h⟩
   · exact .inr ⟨e',.tail _ he',q⟩
 rcases key _ _ h with h | ⟨e,he,q⟩
 · simp at h
 · exact⟨e,by simpa using he,q⟩
theorem tX {q:Oper→Bool} {ops:Array Oper} {L:List Nat} : ∀{r qN:List Oper},mX q ops L qN.length qN r=true →
  ∀i o,(qN++r)[i]? = some o→qN.length≤i →
   q o=true∧(∀e∈o.after,yi .any e=true→e.on<i) ∧ ∀j p,j<i→(qN++r)[j]? = some p→uy ops L i o j p=true
 |[],qN,_,i,o,ho,hi=>by
  simp only[QR] at ho
  rw[dT hi] at ho;cases ho
 |q0::r,qN,h,i,o,ho,hi=>by
  simp only[mX,jn] at h
  obtain⟨⟨⟨h1,h2⟩,h3⟩,h4⟩:=h
  by_cases hc:i=qN.length
  · subst hc
    have:o=q0:=by simpa using ho.symm
    subst this
    refine⟨h1,?_,?_⟩
    · intro e he hb
      have:=QQ.1 h2 e (by simpa using he)
      simp only[hb,xv,xo] at this
      rwa [db] at this
    · intro j p hj hp
      have key : ∀(l:List Oper) (k:Nat),Ac ops L qN.length o k l=true → ∀m p,l[m]? = some p→uy ops L qN.length o (k+m) p=true:=by
       intro l
       induction l with
       |nil=>intro k _ m p hp;simp at hp
       |cons x l ih=>
        intro k hk m p hp
        simp only[Ac,jn] at hk
        cases m with
        |zero=>simp only[ml,kb] at hp;subst hp;exact hk.1
        |succ m=>
         simp only[mr] at hp
         have:=ih (k+1) hk.2 m p hp
         rwa [bm,acu 1 m] at this
      have hp':qN[j]? = some p:=by rwa [od hj] at hp
      simpa using key qN 0 h3 j p hp'
  · have h4':mX q ops L (qN++[q0]).length (qN++[q0]) r=true:=by simpa using h4
    have:=tX h4' i o (by simpa using ho) (by simp;omega)
    simpa using this
def Y6 (P:Program) (E:Env) (rd:Nat→bf) (wr:Bool) (bM:Nat) (ops:Array Oper) (st:St) (o:Oper) (v:AV):Prop:=
 ((fA ops st.tm o = .yes ∨ ∃d b want,fA ops st.tm o = .ask d b want∧(b==want)=true)∧yJ P rd wr bM (ev E st.tm) o=some (v,[],true)) ∨
 ((fA ops st.tm o = .no ∨ ∃d b want,fA ops st.tm o = .ask d b want∧(b==want)=false)∧v = .aD [])
inductive FP (P:Program) (E:Env) (rd:Nat→bf) (wr:Bool) (bM:Nat) (ops:Array Oper):List Oper→St→List AV→St→Prop
 |nil (st:St):FP P E rd wr bM ops [] st [] st
 |cons (o:Oper) (r:List Oper) (st:St) (v:AV) (vs:List AV) (st':St) (hf:fits st o.dst=true) (h:Y6 P E rd wr bM ops st o v)
   (hr:FP P E rd wr bM ops r (put st o.dst v) vs st'):FP P E rd wr bM ops (o::r) st (v::vs) st'
theorem rL {rd:Nat→bf} {wr:Bool} {bM:Nat} {ops:Array Oper} : ∀{l:List Oper} {st st':St},nU P E rd wr bM ops l st=some (st',true) → ∃vs,FP P E rd wr bM ops l st vs st'
 |[],st,st',h=>by
  simp only[nU,kb,kp,and_true] at h
  subst h
  exact⟨[],.nil st⟩
 |o::r,st,st',h=>by
  have skip:(match nU P E rd wr bM ops r (put st o.dst (.aD [])) with
   |some (st',ok)=>some (st',fits st o.dst&&ok)
   |none=>none)=some (st',true)→fits st o.dst=true ∧ ∃vs,FP P E rd wr bM ops r (put st o.dst (.aD [])) vs st':=by
   intro h
   split at h
   · rename_i Wv ok hq
     simp only[kb,kp,jn] at h
     obtain⟨rfl,h1,rfl⟩:=h
     exact⟨h1,rL hq⟩
   · cases h
  have vk:(match yJ P rd wr bM (ev E st.tm) o with
   |some (v,[],ok)=>match nU P E rd wr bM ops r (put st o.dst v) with
    |some (st',ok')=>some (st',ok&&(fits st o.dst&&ok'))
    |none=>none
   |_=>none)=some (st',true) → ∃v,yJ P rd wr bM (ev E st.tm) o=some (v,[],true)∧fits st o.dst=true ∧ ∃vs,FP P E rd wr bM ops r (put st o.dst v) vs st':=by
   intro h
   split at h
   · rename_i v ok hop
     split at h
     · rename_i Wv ok' hq
       simp only[kb,kp,jn] at h
       obtain⟨rfl,rfl,h1,rfl⟩:=h
       exact⟨v,hop,h1,rL hq⟩
     · cases h
   · cases h
  unfold nU at h
  dsimp only at h
  cases hw:fA ops st.tm o with
  |yes=>
   rw[hw] at h
   obtain⟨v,h1,h2,vs,h3⟩:=vk h
   exact⟨v::vs,.cons o r st v vs st' h2 (.inl ⟨.inl hw,h1⟩) h3⟩
  |no=>
   rw[hw] at h
   obtain⟨h2,vs,h3⟩:=skip h
   exact⟨.aD []::vs,.cons o r st _ vs st' h2 (.inr ⟨.inl hw,rfl⟩) h3⟩
  |lost=>rw[hw] at h;cases h
  |ask d b want=>
   rw[hw] at h
   dsimp only at h
   cases hb:b==want with
   |true=>
    rw[hb] at h
    obtain⟨v,h1,h2,vs,h3⟩:=vk h
    exact⟨v::vs,.cons o r st v vs st' h2 (.inl ⟨.inr ⟨d,b,want,hw,hb⟩,h1⟩) h3⟩
   |false=>
    rw[hb] at h
    obtain⟨h2,vs,h3⟩:=skip h
    exact⟨.aD []::vs,.cons o r st _ vs st' h2 (.inr ⟨.inr ⟨d,b,want,hw,hb⟩,rfl⟩) h3⟩
def G9 (l:List Oper):Prop:= ∀(i j:Nat) (p q:Oper) (t:Tmp),i<j→l[i]? = some p→l[j]? = some q→p.dst=some t→q.dst≠some t
def ez (l:List Oper) (vs:List AV) (st:St) (i:Nat) (lp:St):Prop:=
 lp.mem=st.mem∧lp.nt=st.nt∧lp.fix=st.fix∧(∀j p v t,j<i→l[j]? = some p→vs[j]? = some v→p.dst=some t→look lp.tm t=v) ∧
 (∀t,(∀j p,j<i→l[j]? = some p→p.dst≠some t)→look lp.tm t=look st.tm t)
theorem ez.cons {o:Oper} {r:List Oper} {v:AV} {vs:List AV} {st lp:St} {i:Nat} (hu:G9 (o::r)) (h:ez r vs (put st o.dst v) i lp):ez (o::r) (v::vs) st (i+1) lp:=by
 obtain⟨h1,h2,h3,h4,h5⟩:=h
 obtain⟨q1,q2,q3⟩:=FO st o.dst v
 refine⟨h1.trans q1,h2.trans q2,h3.trans q3,?_,?_⟩
 · intro j p w t hj hp hw ht
   cases j with
   |zero=>
    simp only[ml,kb] at hp hw
    subst hp;subst hw
    rw[h5 t fun j p _ hp=>hu 0 (j+1) o p t (by omega) rfl (by simpa using hp) ht,vL,if_pos ht]
   |succ j=>exact h4 j p w t (by omega) (by simpa using hp) (by simpa using hw) ht
 · intro t ht
   rw[h5 t fun j p hj hp=>ht (j+1) p (by omega) (by simpa using hp),vL,if_neg (ht 0 o (by omega) rfl)]
theorem FP.spec {rd:Nat→bf} {wr:Bool} {bM:Nat} {ops:Array Oper} {l:List Oper} {st st':St} {vs:List AV} (h:FP P E rd wr bM ops l st vs st') (hu:G9 l) :
  vs.length=l.length∧ez l vs st l.length st' ∧ ∀i o,l[i]? = some o → ∃v lp,vs[i]? = some v∧Y6 P E rd wr bM ops lp o v∧fits lp o.dst=true∧ez l vs st i lp:=by
 induction h with
 |nil st=>exact⟨rfl,⟨rfl,rfl,rfl,fun j _ _ _ hj=>absurd hj (rr _),fun _ _=>rfl⟩,fun i o ho=>by simp at ho⟩
 |cons o r st v vs st' hf hk hr ih=>
  have VX:G9 r:=fun i j p q t hij hp hq=>hu (i+1) (j+1) p q t (by omega) (by simpa using hp) (by simpa using hq)
  obtain⟨h1,h2,h3⟩:=ih VX
  refine⟨by simp[h1],h2.cons hu,?_⟩
  intro i p hp
  cases i with
  |zero=>
   simp only[ml,kb] at hp
   subst hp
   exact⟨v,st,rfl,hk,hf,rfl,rfl,rfl,fun j _ _ _ hj=>absurd hj (rr _),fun _ _=>rfl⟩
  |succ i=>
   obtain⟨w,lp,q1,q2,q3,q4⟩:=h3 i p (by simpa using hp)
   exact⟨w,lp,by simpa using q1,q2,q3,q4.cons hu⟩
structure qO (ops:Array Oper) (L:List Nat) (vs:List AV) (jt fK:St) (S:Array Bool):Prop where
 size:S.size=ops.size
 mem:fK.mem=jt.mem
 nt:fK.nt=jt.nt
 fix:fK.fix=jt.fix
 a : ∀(j:Nat) (p:Oper) (v:AV) (t:Tmp),S.getD j false=true→ops.toList[j]? = some p→vs[j]? = some v→p.dst=some t→look fK.tm t=v
 b : ∀t:Tmp,(∀(j:Nat) (p:Oper),S.getD j false=true→ops.toList[j]? = some p→p.dst≠some t)→look fK.tm t=look jt.tm t
 cl : ∀i j:Nat,S.getD i false=true→c8 (L.getD i 0) j=true→S.getD j false=true
structure zP (ops:Array Oper) (L:List Nat):Prop where
 mask : ∀i o,ops.toList[i]? = some o→L[i]? = some (ux (L.take i) o)
 low : ∀(i:Nat) o,ops.toList[i]? = some o → ∀e∈o.after,yi .any e=true→e.on<i
 pair : ∀(i:Nat) o,ops.toList[i]? = some o → ∀j p,j<i→ops.toList[j]? = some p→uy ops L i o j p=true
theorem zP.of {q:Oper→Bool} {ops:Array Oper} (h:mX q ops (masks [] ops.toList) 0 [] ops.toList=true):zP ops (masks [] ops.toList) ∧ ∀(i:Nat) o,ops.toList[i]? = some o→q o=true:=by
 obtain⟨M,h1,_,h3⟩:=G8 ops.toList []
 simp only[H0] at h1 h3
 rw[h1] at h ⊢
 have hs:=fun i o ho=>tX (qN:=[]) h i o ho (acb _)
 exact⟨⟨h3,fun i o ho=>(hs i o ho).2.1,fun i o ho=>(hs i o ho).2.2⟩,fun i o ho=>(hs i o ho).1⟩
theorem zP.uniq {ops:Array Oper} {L:List Nat} (h:zP ops L):G9 ops.toList:=by
 intro i j p q t hij hp hq ht ht'
 have:=h.pair j q hq i p hij hp
 simp only[uy,jn,ka] at this
 exact pX this.1 (i:=t) (by simp[ht']) (by simp[ht])
theorem oM {S:Array Bool} {j:Nat} (h:j<S.size) (d d':Bool):S.getD j d=S.getD j d':=by
 simp[lv,ic h]
theorem Ww {S:Array Bool} {j:Nat} (h:S.getD j false=true):j<S.size:=by
 rcases be j S.size with q | q
 · exact q
 · rw[lv,il q] at h;cases h
section
variable {ops:Array Oper} {L:List Nat} {vs:List AV} {jt fK lp:St} {S:Array Bool}
theorem qO.ahead (hI:qO ops L vs jt fK S) (hO:zP ops L) {i:Nat} (hi:i∈yb .any ops S) {j:Nat} (hb:c8 (L.getD i 0) j=true):S.getD j false=true:=by
 obtain⟨_,o,ho,hr⟩:=mem_ready.1 hi
 have ho':ops.toList[i]? = some o:=by simpa using ho
 have hm:=hO.mask i o ho'
 rw[de,hm,km] at hb
 obtain⟨e,he,Cr,h⟩:=JS hb
 rcases h with h | h
 · exact h▸hr e he Cr
 · have hlt:=hO.low i o ho' e he Cr
   refine hI.cl e.on j (hr e he Cr) ?_
   rw[de,di,if_pos hlt,←de] at h
   exact h
theorem qO.slots (hI:qO ops L vs jt fK S) (hO:zP ops L) {i:Nat} {o:Oper} (ho:ops.toList[i]? = some o) (hi:i∈yb .any ops S) (hl:vs.length=ops.toList.length) (JT:ez ops.toList vs jt i lp)
  {t:Tmp} (ht:t∈Am.slots ops o):look fK.tm t=look lp.tm t:=by
 obtain⟨_,_,_,hA,hB⟩:=JT
 have hu:=hO.uniq
 have hni:S.getD i false=false:=by
  obtain⟨h,_⟩:=mem_ready.1 hi
  cases hq:S.getD i false with
  |false=>rfl
  |true=>rw[oM (Ww hq) false true,h] at hq;cases hq
 by_cases hw : ∃(j:Nat) (p:Oper),ops.toList[j]? = some p∧p.dst=some t
 · obtain⟨j,p,hp,hd⟩:=hw
   have only : ∀(k:Nat) (q:Oper),ops.toList[k]? = some q→q.dst=some t→k=j:=by
    intro k q hq VY
    rcases aca k j with h | h | h
    · exact absurd hd (hu k j q p t h hq hp VY)
    · exact h
    · exact absurd VY (hu j k p q t h hp hq hd)
   rcases aca j i with h | h | h
   · have He:=hO.pair i o ho j p h hp
     simp only[uy,jn,j1,ka] at He
     have Z0:c8 (L.getD i 0) j=true:=by
      rcases He.2 with q | q
      · exact q
      · exact(pX q.1 (i:=t) (by simp[hd]) ht).elim
     have hS:=hI.ahead hO hi Z0
     have P7 : ∃v,vs[j]? = some v:=by
      have:j<vs.length:=by rw[hl];exact(dt.1 hp).1
      exact⟨vs[j],df this⟩
     obtain⟨v,hv⟩:=P7
     rw[hI.a j p v t hS hp hv hd,hA j p v t h hp hv hd]
   · subst h
     rw[hI.b t,hB t]
     · intro k q hk hq VY
       have:=only k q hq VY
       omega
     · intro k q hk hq VY
       have:=only k q hq VY
       subst this
       rw[hni] at hk;cases hk
   · have He:=hO.pair j p hp i o h ho
     simp only[uy,jn,j1,ka] at He
     have Z0:c8 (L.getD j 0) i=true:=by
      rcases He.2 with q | q
      · exact q
      · exact(pX q.2 (i:=t) (by simp[hd]) ht).elim
     rw[hI.b t,hB t]
     · intro k q hk hq VY
       have:=only k q hq VY
       omega
     · intro k q hk hq VY
       have:=only k q hq VY
       subst this
       have:=hI.cl k i hk Z0
       rw[hni] at this;cases this
 · have hno : ∀(k:Nat) (q:Oper),ops.toList[k]? = some q→q.dst≠some t:=fun k q hq hd=>hw ⟨k,q,hq,hd⟩
   rw[hI.b t fun k q _ hq=>hno k q hq,hB t fun k q _ hq=>hno k q hq]
theorem qO.step (hI:qO ops L vs jt fK S) (hO:zP ops L) {i:Nat} {o:Oper} {v:AV} (ho:ops.toList[i]? = some o) (hv:vs[i]? = some v) (hi:i∈yb .any ops S) :
  qO ops L vs jt (put fK o.dst v) (S.setIfInBounds i true):=by
 obtain⟨q1,q2,q3⟩:=FO fK o.dst v
 have hu:=hO.uniq
 have Cz : ∀j,(S.setIfInBounds i true).getD j false=true→j=i∨S.getD j false=true:=by
  intro j hj
  by_cases h:i=j
  · exact .inl h.symm
  · rw[getD_set_ne false h] at hj;exact .inr hj
 have hup : ∀j,S.getD j false=true→(S.setIfInBounds i true).getD j false=true:=fun j hj=>getD_set_true hj
 refine⟨by simp[hI.size],q1.trans hI.mem,q2.trans hI.nt,q3.trans hI.fix,?_,?_,?_⟩
 · intro j p w t hj hp hw hd
   rw[vL]
   by_cases hji:j=i
   · subst hji
     rw[ho] at hp;cases hp
     rw[hv] at hw;cases hw
     rw[if_pos hd]
   · have hne:o.dst≠some t:=by
      rcases Nat.lt_or_gt_of_ne hji with h | h
      · exact hu j i p o t h hp ho hd
      · exact fun hod=>hu i j o p t h ho hp hod hd
     rw[if_neg hne]
     rcases Cz j hj with h | h
     · exact absurd h hji
     · exact hI.a j p w t h hp hw hd
 · intro t ht
   have Cq:i<S.size:=by rw[hI.size];have:=(dt.1 ho).1;simpa using this
   have hne:o.dst≠some t:=ht i o (by simp[lv,Cq]) ho
   rw[vL,if_neg hne]
   exact hI.b t fun j p hj hp=>ht j p (hup j hj) hp
 · intro k j hk hb
   rcases Cz k hk with h | h
   · subst h;exact hup j (hI.ahead hO hi hb)
   · exact hup j (hI.cl k j h hb)
theorem qO.all (hI:qO ops L vs jt fK S) (hO:zP ops L) (hr:yb .any ops S=[]) : ∀i,i<ops.size→S.getD i false=true:=by
 intro i
 induction i using acs with
 |ind i ih=>
  intro hi
  have ho:ops[i]? = some ops[i]:=ic hi
  have ho':ops.toList[i]? = some ops[i]:=by simp[hi]
  cases hq:S.getD i false with
  |true=>rfl
  |false=>
   have:i∈yb .any ops S:=mem_ready.2 ⟨by rw[oM (by rw[hI.size];exact hi) true false];exact hq,ops[i],ho,fun e he hb=>ih e.on (hO.low i _ ho' e he hb) (by have:=hO.low i _ ho' e he hb;omega)⟩
   rw[hr] at this;cases this
theorem qO.ends (hI:qO ops L vs jt fK S) (hl:vs.length=ops.toList.length) {st':St} (hst:ez ops.toList vs jt ops.toList.length st') (hall : ∀i,i<ops.size→S.getD i false=true) :
  fK.mem=st'.mem∧fK.nt=st'.nt∧fK.fix=st'.fix ∧ ∀t,look fK.tm t=look st'.tm t:=by
 obtain⟨h1,h2,h3,hA,hB⟩:=hst
 refine⟨hI.mem.trans h1.symm,hI.nt.trans h2.symm,hI.fix.trans h3.symm,fun t=> ?_⟩
 by_cases hw : ∃(j:Nat) (p:Oper),ops.toList[j]? = some p∧p.dst=some t
 · obtain⟨j,p,hp,hd⟩:=hw
   have hjl:=(dt.1 hp).1
   have P7:vs[j]? = some vs[j]:=df (by rw[hl];exact hjl)
   rw[hI.a j p _ t (hall j (by simpa using hjl)) hp P7 hd,hA j p _ t hjl hp P7 hd]
 · rw[hI.b t fun k q _ hq hd=>hw ⟨k,q,hq,hd⟩,hB t fun k q _ hq hd=>hw ⟨k,q,hq,hd⟩]
end
theorem dc.same {g:Gh} {w:World} {st st':St} {a:Act} (h:dc E g st a w) (h1:st.mem=st'.mem) (h2:st.nt=st'.nt) (h3:st.fix=st'.fix) (h4 : ∀t,look st.tm t=look st'.tm t):dc E g st' a w:=
 ⟨fun k=>h4 k▸h.tm k,h2▸h.nt,h1▸h.rel,by rw[←h1,←h3];exact h.fix,h.cX⟩
theorem yY {ops:Array Oper} {tm tm':zV} {o:Oper} (h : ∀t∈slots ops o,look tm t=look tm' t):fA ops tm o=fA ops tm' o:=by
 unfold fA
 unfold slots at h
 cases hg:o.guard with
 |none=>rfl
 |some q=>
  obtain⟨j,want⟩:=q
  simp only[hg] at h
  dsimp only
  cases hj:ops[j]? with
  |none=>rfl
  |some oj=>
   simp only[hj] at h
   dsimp only
   cases hd:oj.dst with
   |none=>rfl
   |some d=>simp only[h d (by simp[hd])]
theorem Hf {tm tm':zV} {ops:Array Oper} {o:Oper} (h : ∀t∈slots ops o,look tm t=look tm' t) : ∀x∈o.op.operands,ev E tm x=ev E tm' x:=by
 intro x hx
 cases x with
 |tmp t=>exact h t (Hd _ (List.mem_filterMap.2 ⟨.tmp t,by simpa using hx,rfl⟩))
 |_=>rfl
theorem Nb {b:Frame} {k:List Item} {ops:Array Oper} {L:List Nat} {vs:List AV} {jt st':St} {wr:Bool} {bM:Nat} (hO:zP ops L) (hQ : ∀(i:Nat) o,ops.toList[i]? = some o→jo o=true) (hn:jt.mem[bM]? = some .free)
  (hrun:FP P E (fun i=>jt.mem.getD i .dead) wr bM ops ops.toList jt vs st') : ∀(fuel t:Nat) (S:Array Bool) (fK:St) (a:Act) (g:Gh) (w:World) (u:List Nat),
    qO ops L vs jt fK S→dc E g fK a w→u.length=fuel→(∀i,i<ops.size→S.getD i false=false→i∈u) →
    ∃g' a' w',(∀cs,Steps P (lone (b.atR a (.inRegion ops (acz .any ops fuel t S [])::k)) cs w) (lone (b.atR a' (.inRegion ops []::k)) cs w'))∧a'.defers=a.defers∧dc E g' st' a' w' ∧
     dU g jt.mem w g' jt.mem w'∧bZ g g' jt.fix ∧ ∀i c,g.cm i=some c→g'.cm i=some c:=by
 obtain⟨hl,hend,hspec⟩:=hrun.spec hO.uniq
 intro fuel
 induction fuel with
 |zero=>
  intro t S fK a g w u hI hs Z1 hu
  have hall : ∀i,i<ops.size→S.getD i false=true:=by
   intro i hi
   cases hq:S.getD i false with
   |true=>rfl
   |false=>
    have:=hu i hi hq
    rw[Ps Z1] at this;cases this
  obtain⟨e1,e2,e3,e4⟩:=hI.ends hl hend hall
  exact⟨g,a,w,fun cs=>acA _ _,rfl,hs.same e1 e2 e3 e4,dU.refl _ _ _,bZ.refl _ _,fun _ _ h=>h⟩
 |succ fuel ih=>
  intro t S fK a g w u hI hs Z1 hu
  simp only[acz]
  show ∃g' a' w',(∀cs,Steps P (lone (b.atR a (.inRegion ops (match(yb .any ops S)[t%(yb .any ops S).length]? with
   |some i=>acz .any ops fuel (t / (yb .any ops S).length) (S.setIfInBounds i true) [i]
   |none=>[].reverse)::k)) cs w) (lone (b.atR a' (.inRegion ops []::k)) cs w'))∧_
  cases hi:(yb .any ops S)[t%(yb .any ops S).length]? with
  |none=>
   have Qt:yb .any ops S=[]:=by
    cases hr:yb .any ops S with
    |nil=>rfl
    |cons x xs=>
     rw[hr] at hi
     have hlt:t%(x::xs).length<(x::xs).length:=rv _ (by simp)
     rw[df hlt] at hi;cases hi
   obtain⟨e1,e2,e3,e4⟩:=hI.ends hl hend (hI.all hO Qt)
   exact⟨g,a,w,fun cs=>acA _ _,rfl,hs.same e1 e2 e3 e4,dU.refl _ _ _,bZ.refl _ _,fun _ _ h=>h⟩
  |some i=>
   have Wx:=mf hi
   obtain⟨hSi,o,ho,_⟩:=mem_ready.1 Wx
   have ho':ops.toList[i]? = some o:=by simpa using ho
   obtain⟨v,lp,hv,hk,hf,JT⟩:=hspec i o ho'
   have Bc : ∀t∈slots ops o,look fK.tm t=look lp.tm t:=fun t ht=>hI.slots hO ho' Wx hl JT ht
   have hilt:i<ops.size:=(Ha.1 ho).1
   have Qu:i∈u:=hu i hilt (by rw[oM (by rw[hI.size];exact hilt) false true];exact hSi)
   have VX : ∀j,j<ops.size→(S.setIfInBounds i true).getD j false=false→j∈u.erase i:=by
    intro j hj hq
    have hne:j≠i:=by
     intro e
     subst e
     rw[show(S.setIfInBounds j true).getD j false=true by simp[lv,hI.size,hj]] at hq
     cases hq
    rw[getD_set_ne false (fun e=>hne e.symm)] at hq
    exact(aax hne).2 (hu j hj hq)
   have Wy:(u.erase i).length=fuel:=by rw[QP Qu,Z1];rfl
   have hI':=hI.step hO ho' hv Wx
   have hfA:fits fK o.dst=true:=by
    have:fits fK o.dst=fits lp o.dst:=by unfold fits;rw[hI.nt,JT.2.1]
    rw[this];exact hf
   dsimp only
   rw[linearise_go_acc,H2,H3]
   have JU:=yY Bc
   obtain⟨w1,w2,w3⟩:=sY hs (ops:=ops) (o:=o)
   rcases hk with⟨hw,hop⟩ | ⟨hw,rfl⟩
   · have lq:xf o (yielded ops a.tmps)=true:=by
      rcases hw with hw | ⟨d,b',want,hw,hb⟩
      · exact w1 (JU.trans hw)
      · rw[(w3 d b' want (JU.trans hw)).1];exact hb
     have ae3:yJ P (fun i=>fK.mem.getD i .dead) wr bM (ev E fK.tm) o=some (v,[],true):=by
      rw[hI.mem,Dq (hQ i o ho') (Hf Bc)];exact hop
     obtain⟨cv,w',g',k1,k2,k3,k4,k5⟩:=sX hs.rel (iY hs) (fun _=>rfl) (fun _=>by rw[hI.mem];exact hn) ae3
     have hs':=hs.put hfA k2 k4 k3 hs.fix
     obtain⟨g2,a2,w2',r1,r2,r3,r4,r5,r6⟩:=ih (t / (yb .any ops S).length) _ _ _ _ _ _ hI' hs' Wy VX
     refine⟨g2,a2,w2',fun cs=> .head (vK ho lq k1) (r1 cs),r2.trans put_defers,r3,?_,(bZ.vI k4 _).trans r5,fun i c q=>r6 i c (k4.cm i c q).1⟩
     have k5':dU g jt.mem w g' jt.mem w':=by rw[←hI.mem];exact k5
     exact k5'.trans r4
   · have lq:xf o (yielded ops a.tmps)=false:=by
      rcases hw with hw | ⟨d,b',want,hw,hb⟩
      · exact w2 (JU.trans hw)
      · rw[(w3 d b' want (JU.trans hw)).1];exact hb
     have hs':=hs.put (v:= .aD []) (cv:=undef) hfA (VA.pP.2 trivial) (Ext.refl g w) hs.rel hs.fix
     obtain⟨g2,a2,w2',r1,r2,r3,r4,r5,r6⟩:=ih (t / (yb .any ops S).length) _ _ _ _ _ _ hI' hs' Wy VX
     refine⟨g2,a2,w2',fun cs=> .head ?_ (r1 cs),r2.trans put_defers,r3,r4,r5,r6⟩
     have hst:=stepR_op_skip (P:=P) (b:=b) (a:=a) (k:=k) (cs:=cs) (w:=w) (ops:=ops) (i:=i) (rest:=acz .any ops fuel (t / (yb .any ops S).length) (S.setIfInBounds i true) []) (by simp[ho,lq])
     simpa only[ho,s0] using hst
theorem dc.drew {g:Gh} {w:World} {st:St} {a:Act} (h:dc E g st a w) (n:Nat):dc E g st a {w with drawn:=n}:=by
 have he:Ext g w g {w with drawn:=n}:=⟨fun _ _ e=>⟨e,rfl,rfl⟩,fun _ _ e=>⟨e,rfl⟩⟩
 refine⟨fun k=>(h.tm k).mono he,h.nt,(h.rel.oI (w':={w with drawn:=n}) rfl rfl rfl rfl).1,h.fix,h.cX.mono he.pure⟩
theorem Wz {g:Gh} {w:World} {b:Frame} {a:Act} {k:List Item} {ops:Array Oper} {f cO:Nat} {st st':St} (hs:dc E g st a w) (h:AE P E f cO ops st=some (st',true)) :
  ∃g' a' w',(∀cs,Steps P (lone (b.atR a (.code (.region cO ops true)::k)) cs w) (lone (b.atR a' k) cs w'))∧a'.defers=a.defers∧dc E g' st' a' w' ∧
   dU g st.mem w g' st'.mem w'∧bZ g g' st.fix∧st'.fix=st.fix ∧ ∀i c,g.cm i=some c→g'.cm i=some c:=by
 unfold AE at h
 dsimp only at h
 split at h
 · rename_i Wv ok hq
   cases Qv:(ops.toList.all jo&&PW E f ops) with
   |false=>rw[Qv] at hq;cases hq
   |true=>
   rw[Qv] at hq
   simp only[cond_true] at hq
   have hall:ops.toList.all jo=true:=(jn _ _▸Qv).1
   simp only[kb,kp,jn] at h
   obtain⟨rfl,rfl,Qw,Z2⟩:=h
   obtain⟨vs,hrun⟩:=rL hq
   obtain⟨hO,hQ⟩:=zP.of Qw
   obtain⟨CN,hr2⟩:=hs.rel.reserve
   have hs1:dc E g {st with mem:=st.mem++[.free]} a w:=⟨hs.tm,hs.nt,CN,by simp;have:=hs.fix;omega,hs.cX⟩
   have hgd : ∀j,(zt ops.size false).getD j false=false:=by
    intro j
    rw[lv,Hb]
    split<;>rfl
   have hI:qO ops (masks [] ops.toList) vs {st with mem:=st.mem++[.free]} {st with mem:=st.mem++[.free]} (zt ops.size false):=
    ⟨by simp,rfl,rfl,rfl,fun j _ _ _ hj=>(by rw[hgd] at hj;cases hj),fun _ _=>rfl,fun i _ hi=>(by rw[hgd] at hi;cases hi)⟩
   have hs2:=hs1.drew (w.drawn+1)
   obtain⟨g',a',w',r1,r2,r3,r4,r5,r6⟩:=Nb (P:=P) (E:=E) (b:=b) (k:=k) hO hQ (by simp) hrun ops.size (w.tape w.drawn (.order b.fn cO)) _ _ a g _ (fh ops.size) hI hs2 (by simp) (fun i hi _=>abk.2 hi)
   have hend:=(hrun.spec hO.uniq).2.1
   refine⟨g',a',w',fun cs=> ?_,r2,r3,?_,r5,hend.2.2.1,r6⟩
   · refine .head stepR_region_draw ?_
     have Qx:ye (P.follows .mixedOrders) ops (w.tape w.drawn (.order b.fn cO))=acz .any ops ops.size (w.tape w.drawn (.order b.fn cO)) (zt ops.size false) []:=by
      simp only[ye,Z2,if_true,yn]
     rw[Qx]
     exact(r1 cs).trans (.one stepR_region_end)
   · rw[hend.1]
     have hst:dU g (st.mem++[.free]) w g (st.mem++[.free]) {w with drawn:=w.drawn+1}:=⟨aw _,fun _ _ _=>rfl,fun _ _ h=>⟨h,rfl⟩,fun _ _ h=> .inl h,fun _ h=> .inl h,rfl,rfl,rfl⟩
     exact(hr2.trans hst).trans r4
 · cases h
end
set_option linter.unusedSimpArgs false
open Go.RowKit
section
variable {P:Program} {E:Env}
theorem tY {rd rd':Nat→bf} {a:AV} (h : ∀b∈refs a,rd b=rd' b) (n:Nat):pI rd a n=pI rd' a n:=by
 cases a with
 |mp b off=>simp only[pI,h b (by simp[refs])]
 |p v=>cases v<;>rfl
 |_=>rfl
theorem hU {rd rd':Nat→bf} {a:AV} (h : ∀b∈refs a,rd b=rd' b) (sz:Nat):contents rd sz a=contents rd' sz a:=by
 cases a with
 |ms b off len s c=>
  cases c with
  |none=>simp only[contents,h b (by simp[refs])]
  |some c=>simp only[contents,h b (by simp[refs])]
 |p v=>
  cases v with
  |sc v=>cases v<;>rfl
  |_=>rfl
 |_=>rfl
theorem zQ {rd rd':Nat→bf} {a:AV} (h : ∀b∈refs a,rd b=rd' b) (sz:Nat):fU rd sz a=fU rd' sz a:=by
 have hc:=hU h sz
 unfold fU
 rw[hc]
 cases contents rd' sz a with
 |some r=>rfl
 |none=>
  cases a with
  |ms b off len s c=>
   cases c with
   |none=>rfl
   |some c=>simp only[h b (by simp[refs])]
  |_=>rfl
theorem uF {rd rd':Nat→bf} {x n:AV} (h : ∀b∈refs x,rd b=rd' b) {ts:List TypeId}:fW P rd ts x n=fW P rd' ts x n:=by
 have hg:ZB rd x=ZB rd' x:=by
  cases x with
  |mp b off=>cases off with
   |zero=>simp only[ZB,h b (by simp[refs])]
   |succ _=>rfl
  |_=>rfl
 unfold fW
 simp only[hg]
theorem CO {rd rd':Nat→bf} {a:AV} (h : ∀b∈refs a,rd b=rd' b) {bM:Nat} {ρ:Operand→AV} {o:Oper} {s d:TypeId}:convertOp P rd bM ρ o s d a=convertOp P rd' bM ρ o s d a:=by
 have hc:=fun sz=>hU (a:=a) h sz
 unfold convertOp
 split<;>first
  |rfl
  |(rename_i b off len sz cap hd;have hb:=h b (by simp[refs]);simp only[hb];done)
  |(rename_i b off hd;have hb:=h b (by simp[refs]);simp only[hb];done)
  |(rename_i u b hd;have hb:=h b (by simp[refs]);simp only[hb];done)
  |simp only[hc]
theorem append_congr {rd rd':Nat→bf} {s x:AV} (h : ∀b∈refs s++refs x,rd b=rd' b) {bM:Nat} {ts:Array TypeId}:lB P rd bM ts s x=lB P rd' bM ts s x:=by
 have hc:=fun sz=>hU (a:=x) (fun b hb=>h b (Hd _ hb)) sz
 have ht : ∀tok len sz cs,s = .os tok len sz cs→sO rd bM tok=sO rd' bM tok:=by
  rintro tok len sz cs rfl
  cases tok with
  |none=>rfl
  |some t=>simp only[sO,h t (by simp[refs])]
 unfold lB
 simp only[hc]
 repeat' first | rfl | split
 all_goals first
  |rfl
  |(rw[ht _ _ _ _ rfl])
  |simp_all
theorem Bd {rd rd':Nat→bf} {s x:AV} (h : ∀b∈refs s++refs x,rd b=rd' b) {bM:Nat} {ts:Array TypeId}:gW P rd bM ts s x=gW P rd' bM ts s x:=by
 have hc:=fun sz=>zQ (a:=x) (fun b hb=>h b (Hd _ hb)) sz
 have hp : ∀sz,mT rd sz x=mT rd' sz x:=fun sz=>by unfold mT;rw[hU (a:=x) (fun b hb=>h b (Hd _ hb)) sz]
 cases s with
 |ms b off len sz cap=>
  have hb:=h b (by simp[refs])
  unfold gW
  simp only[hc,hp]
  cases off with
  |zero=>cases cap<;>simp only[hb]
  |succ off=>rfl
 |os tok len sz cells=>
  cases tok with
  |none=>
   unfold gW
   simp only[hc,hp]
  |some t=>
   unfold gW
   simp only[hc]
 |_=>
  unfold gW
  simp only[hc]
theorem xK {rd rd':Nat→bf} {wr:Bool} {s x:AV} (h : ∀b∈refs s++refs x,rd b=rd' b) {bM:Nat} {ts:Array TypeId} :
  (match ZA s||wr with | true=>gW P rd bM ts (qU s) x | false=>lB P rd bM ts (qU s) x)=(match ZA s||wr with | true=>gW P rd' bM ts (qU s) x | false=>lB P rd' bM ts (qU s) x):=by
 have hs : ∀b∈refs (qU s),b∈refs s:=by
  intro b hb
  unfold qU at hb
  split at hb
  · simp[refs] at hb
  · exact hb
 have h' : ∀b∈refs (qU s)++refs x,rd b=rd' b:=fun b hb=>h b ((oE.1 hb).elim (fun q=>Hk _ (hs b q)) fun q=>Hd _ q)
 rw[Bd h',append_congr h']
theorem JV {rd rd':Nat→bf} {d s:AV} (h : ∀b∈refs d++refs s,rd b=rd' b) {ts:Array TypeId}:xy P rd ts d s=xy P rd' ts d s:=by
 have hc:=fun sz=>hU (a:=s) (fun b hb=>h b (Hd _ hb)) sz
 have ht : ∀b off len sz cap,d = .ms b off len sz cap→rd b=rd' b:=by
  rintro b off len sz cap rfl
  exact h b (by simp[refs])
 unfold xy
 simp only[hc]
 repeat' first | rfl | split
 all_goals first
  |rfl
  |(rename_i h1 h2;rw[ht _ _ _ _ _ rfl] at h1;simp_all)
  |(rename_i h1;rw[ht _ _ _ _ _ rfl] at h1;simp_all)
  |simp_all
theorem FQ {rd rd':Nat→bf} {x:AV} (h : ∀b∈refs x,rd b=rd' b) {t:TypeId} {k:AV} {ok:Bool}:oG P rd t x k ok=oG P rd' t x k ok:=by
 have hm:mapOf rd x=mapOf rd' x:=by
  cases x with
  |vm b=>simp only[mapOf,h b (by simp[refs])]
  |p v=>
   cases v with
   |sc v=>
    cases v with
    |map r=>cases r<;>rfl
    |_=>rfl
   |_=>rfl
  |_=>rfl
 have hu:JC rd x=JC rd' x:=by
  cases x with
  |vm b=>simp only[JC,h b (by simp[refs])]
  |_=>rfl
 unfold oG z7
 simp only[hm,hu]
theorem zR {rd rd':Nat→bf} {x:AV} (h : ∀b∈refs x,rd b=rd' b) {t:TypeId} {k v:AV}:jE P rd t x k v=jE P rd' t x k v:=by
 cases x with
 |vm b=>
  have hb:=h b (by simp[refs])
  cases k with
  |p u=>
   cases u with
   |sc u=>simp only[jE,hb]
   |_=>rfl
  |agg l=>
   show kH P rd t (.vm b) (.agg l) v=kH P rd' t (.vm b) (.agg l) v
   unfold kH
   generalize MS (AV.agg l)=kk
   generalize P.underlying t=tt
   cases kk with
   |none=>rfl
   |some key=>
    cases tt with
    |none=>rfl
    |some d=>cases d<;>first
     |rfl
     |simp only[hb]
  |_=>rfl
 |_=>cases k<;>rfl
theorem Be {rd rd':Nat→bf} {x:AV} (h : ∀b∈refs x,rd b=rd' b):uw rd x=uw rd' x:=by
 cases x with
 |vm b=>simp only[uw,h b (by simp[refs])]
 |_=>rfl
theorem JW {rd rd':Nat→bf} {x:AV} (h : ∀b∈refs x,rd b=rd' b) {t:TypeId} {k:AV} {ok:Bool}:xA P rd t x k ok=xA P rd' t x k ok:=by
 unfold xA
 rw[Be h,FQ h]
theorem Dr {rd rd':Nat→bf} {x:AV} (h : ∀b∈refs x,rd b=rd' b) {t:TypeId} {k v:AV}:Az P rd t x k v=Az P rd' t x k v:=by
 unfold Az
 rw[Be h,zR h]
theorem WA {rd rd':Nat→bf} {wr:Bool} {bM:Nat} {ρ ρ':Operand→AV} {o:Oper} (hq:Dd o=true) (h : ∀x∈o.op.operands,ρ x=ρ' x) (hrd : ∀b∈MW ρ o,rd b=rd' b):yJ P rd wr bM ρ o=yJ P rd' wr bM ρ' o:=by
 have h1:yJ P rd wr bM ρ o=yJ P rd' wr bM ρ o:=by
  obtain⟨dst,op,type,pos,after,guard⟩:=o
  cases op<;>try rfl
  case load t a=>simp only[yJ,oo,tY (a:=ρ a) hrd]
  case store t a v=>
   simp only[yJ,vg]
   have hrd : ∀b∈refs (ρ a),rd b=rd' b:=hrd
   generalize ρ a=x at hrd ⊢
   cases x with
   |mp b off=>
    cases iU P t with
    |none=>rfl
    |some n=>simp only[hrd b (by simp[refs])]
   |_=>rfl
  case convert s d x=>exact CO hrd
  case lookup t x i ok=>exact congrArg mw (JW hrd)
  case mapUpdate t x k v=>exact Dr hrd
  case insert t x k v=>exact Dr hrd
  case next=>simp[Dd,jo] at hq
  case call c=>
   obtain⟨callee,args,tys⟩:=c
   cases callee with
   |value _=>rfl
   |invoke _ _=>rfl
   |builtin b=>cases b<;>first
    |rfl
    |(obtain⟨args⟩:=args;rcases args with _ | ⟨x,_ | ⟨y,r⟩⟩<;>rfl)
    |(obtain⟨args⟩:=args;rcases args with _ | ⟨x,_ | ⟨y,_ | ⟨z,r⟩⟩⟩<;>first | rfl | exact xK fun b hb=>hrd b (by simpa[MW,kq] using hb) | exact JV fun b hb=>hrd b (by simpa[MW,kq] using hb) | exact uF fun b hb=>hrd b (by simp[MW,kq,hb]))
    |simp[Dd,jo] at hq
  case makeMap t r=>cases r<;>rfl
 rw[h1]
 cases hqq:jo o with
 |true=>exact Dq hqq h
 |false=>
  simp only[Dd,hqq,xo] at hq
  obtain⟨dst,op,type,pos,after,guard⟩:=o
  cases op<;>simp only[pD] at hq<;>simp only[acx] at h<;>simp only[yJ]
  case box t v=>rw[h v (by simp)]
  case buildSlice t n ps=>
   have:ps.toList.map (fun q=>(q.1,ρ q.2))=ps.toList.map fun q=>(q.1,ρ' q.2):=
    Hm fun q hq=>by rw[h q.2 (by simp only[abj,fg];exact⟨q,hq,rfl⟩)]
   rw[this]
  case makeSlice t l c=>rw[h l (by simp),h c (by simp)]
  case store t a v=>rw[h a (by simp),h v (by simp)]
  case makeMap t r=>cases r<;>rfl
  case lookup t x i ok=>rw[h x (by simp),h i (by simp)]
  case mapUpdate t x k v=>rw[h x (by simp),h k (by simp),h v (by simp)]
  case insert t x k v=>rw[h x (by simp),h k (by simp),h v (by simp)]
  case call c=>
   obtain⟨callee,args,tys⟩:=c
   cases callee with
   |value _=>simp at hq
   |invoke _ _=>simp at hq
   |builtin b=>
    simp only[Call.operands] at h
    obtain⟨args⟩:=args
    cases b<;>simp only[pD] at hq
    all_goals
     rcases args with _ | ⟨x,_ | ⟨y,_ | ⟨z,r⟩⟩⟩<;>first | rfl | simp only[h x (by simp),h y (by simp)] | simp only[h x (by simp)]
theorem FR {ρ ρ':Operand→AV} {o:Oper} (h : ∀x∈o.op.operands,ρ x=ρ' x):target ρ o=target ρ' o:=by
 obtain⟨dst,op,type,pos,after,guard⟩:=o
 cases op<;>try rfl
 case call c=>
  obtain⟨callee,args,tys⟩:=c
  cases callee with
  |value f=>
   simp only[acx,Call.operands] at h
   have h1:ρ f=ρ' f:=h f (by simp)
   have h2:args.toList.map ρ=args.toList.map ρ':=Hm fun x hx=>h x (by simp_all)
   simp only[target,h1,h2]
  |_=>rfl
theorem kM : ∀(us:qR) (m:Mem) (b:Nat),b∉us.map (·.1)→(apply m us)[b]? = m[b]?
 |[],_,_,_=>rfl
 |(i,x)::us,m,b,h=>by
  simp only[mi,pB,not_or] at h
  simp only[apply]
  rw[kM us _ b h.2,oe (fun e=>h.1 e.symm)]
theorem Hg : ∀(us:qR) (m m':Mem) (b:Nat),m.length=m'.length→b∈us.map (·.1)→(apply m us)[b]? = (apply m' us)[b]?
 |(i,x)::us,m,m',b,hl,h=>by
  simp only[apply]
  by_cases hb:b∈us.map (·.1)
  · exact Hg us _ _ b (by simp[hl]) hb
  · rw[kM us _ b hb,kM us _ b hb]
    simp only[mi,pB] at h
    have:b=i:=h.resolve_right hb
    subst this
    simp only[List.getElem?_set,hl,if_true]
abbrev jF.w (d:jF):List Nat:=d.us.map (·.1)
structure ng (ds:List jF) (base:Mem) (S:Nat→Prop) (M:Mem):Prop where
 len:M.length=base.length
 out : ∀b,(∀j d,S j→ds[j]? = some d→b∉d.w)→M[b]? = base[b]?
 last : ∀j d b,S j→ds[j]? = some d→b∈d.w→(∀k e,S k→j<k→ds[k]? = some e→b∉e.w)→M[b]? = (apply base d.us)[b]?
theorem ng.nil {ds:List jF} {base:Mem} {S:Nat→Prop} (h : ∀j,¬S j):ng ds base S base:=⟨rfl,fun _ _=>rfl,fun j _ _ hj=>absurd hj (h j)⟩
theorem ng.step {ds:List jF} {base M:Mem} {S S':Nat→Prop} {i:Nat} {d:jF} (h:ng ds base S M) (hd:ds[i]? = some d) (hS : ∀j,S' j↔S j∨j=i) (hi : ¬S i)
  (ae5 : ∀j e,S j→i<j→ds[j]? = some e → ∀b∈d.w,b∉e.w):ng ds base S' (apply M d.us):=by
 refine⟨by rw[fG];exact h.len,fun b hb=> ?_,fun j e b hj he Cr hl=> ?_⟩
 · rw[kM _ _ _ (hb i d ((hS i).2 (.inr rfl)) hd)]
   exact h.out b fun j e hj he=>hb j e ((hS j).2 (.inl hj)) he
 · rcases(hS j).1 hj with hj' | rfl
   · have hbd:b∉d.w:=by
      intro q
      rcases aca j i with hlt | heq | hgt
      · exact hl i d ((hS i).2 (.inr rfl)) hlt hd q
      · subst heq;exact hi hj'
      · exact ae5 j e hj' hgt he b q Cr
     rw[kM _ _ _ hbd]
     exact h.last j e b hj' he Cr fun k x hk VZ hx=>hl k x ((hS k).2 (.inl hk)) VZ hx
   · rw[hd] at he;cases he
     exact Hg _ _ _ _ h.len Cr
theorem L4 {p:Nat→Prop} {n:Nat} (hb : ∀k,p k→k<n) : ∀(r j:Nat),n-j=r→p j → ∃j,p j ∧ ∀k,p k → ¬j<k:=by
 intro r
 induction r using acs with
 |ind r ih=>
  intro j hr hj
  by_cases h : ∃k,p k∧j<k
  · obtain⟨k,hk,VZ⟩:=h
    have:=hb k hk
    exact ih (n-k) (by omega) k rfl hk
  · exact⟨j,hj,fun k hk VZ=>h ⟨k,hk,VZ⟩⟩
theorem ng.agree {ds:List jF} {base M M':Mem} {S T:Nat→Prop} (h:ng ds base S M) (h':ng ds base T M') {b:Nat} (hST : ∀j d,ds[j]? = some d→b∈d.w→(S j↔T j)):M[b]? = M'[b]? :=by
 by_cases hw : ∃j d,S j∧ds[j]? = some d∧b∈d.w
 · obtain⟨j0,d0,q1,q2,q3⟩:=hw
   obtain⟨j,⟨hj,d,hd,hbd⟩,hl⟩:=L4 (p:=fun j=>S j ∧ ∃d,ds[j]? = some d∧b∈d.w) (n:=ds.length) (fun k ⟨_,d,hd,_⟩=>(dt.1 hd).1) _ j0 rfl ⟨q1,d0,q2,q3⟩
   rw[h.last j d b hj hd hbd fun k e hk VZ he Cr=>hl k ⟨hk,e,he,Cr⟩ VZ,
    h'.last j d b ((hST j d hd hbd).1 hj) hd hbd fun k e hk VZ he Cr=>hl k ⟨(hST k e he Cr).2 hk,e,he,Cr⟩ VZ]
 · rw[h.out b fun j d hj hd hbd=>hw ⟨j,d,hj,hd,hbd⟩,h'.out b fun j d hj hd hbd=>hw ⟨j,d,(hST j d hd hbd).2 hj,hd,hbd⟩]
def qD (m:Mem):List jF→Mem
 |[]=>m
 |d::r=>qD (apply m d.us) r
theorem vN (m:Mem) : ∀(ds es:List jF),qD m (ds++es)=qD (qD m ds) es
 |[],_=>rfl
 |d::ds,es=>vN (apply m d.us) ds es
theorem Bf (ds:List jF) (base:Mem) : ∀i,i≤ds.length→ng ds base (· < i) (qD base (ds.take i))
 |0,_=>ng.nil fun _ h=>absurd h (rr _)
 |i+1,h=>by
  have hi:i<ds.length:=h
  rw[List.take_succ_eq_append_getElem hi,vN]
  exact(Bf ds base i (by omega)).step (d:=ds[i]) (df hi) (fun j=>by omega) (by omega) fun j e hj hij=>absurd hj (by omega)
def oN (nx:Nat) (m:Mem):Prop:= ∀i,nx≤i→i<m.length→m[i]? = some .free
def LDo (P:Program) (E:Env) (wr:Oper→Bool) (st:St) (nx:Nat) (o:Oper) (d:jF) (mY:Nat):Prop:=
 (∃g args v m1,target (ev E st.tm) o=some (g,args)∧an P E g (fL (idx (close st.mem 0 args)) args) (pack st.mem (close st.mem 0 args)) v m1∧(close st.mem 0 args).length≤m1.length ∧
   (∀i∈close st.mem 0 args,i<nx)∧mY=nx+(m1.length-(close st.mem 0 args).length)∧mY≤st.mem.length∧d=sS st.mem.length nx (close st.mem 0 args) v m1) ∨
 (target (ev E st.tm) o=none∧Dd o=true∧yJ P (fun i=>st.mem.getD i .dead) (wr o) nx (ev E st.tm) o=some (d.v,d.us,true)∧d.fp=d.w++(MW (ev E st.tm) o++cond (makes o) [nx] []) ∧
   (∀b∈d.w,b<mY)∧mY=cond (makes o) (nx+1) nx∧mY≤st.mem.length∧d.ld=ZD P (ev E st.tm) o d.v)
def Hh (P:Program) (E:Env) (wr:Oper→Bool) (ops:Array Oper) (st:St) (nx:Nat) (o:Oper) (d:jF) (mY:Nat):Prop:=
 ((fA ops st.tm o = .yes ∨ ∃s b want,fA ops st.tm o = .ask s b want∧(b==want)=true)∧LDo P E wr st nx o d mY) ∨
 ((fA ops st.tm o = .no ∨ ∃s b want,fA ops st.tm o = .ask s b want∧(b==want)=false)∧d=⟨.aD [],[],[],fun _ _=>false⟩∧mY=nx)
inductive CP (P:Program) (E:Env) (wr:Oper→Bool) (ops:Array Oper):List Oper→St→Nat→List jF→St→Nat→Prop
 |nil (st:St) (nx:Nat):CP P E wr ops [] st nx [] st nx
 |cons (o:Oper) (r:List Oper) (st:St) (nx:Nat) (d:jF) (mY:Nat) (ds:List jF) (st':St) (tU:Nat) (hf:fits st o.dst=true) (h:Hh P E wr ops st nx o d mY)
   (hr:CP P E wr ops r (put {st with mem:=apply st.mem d.us} o.dst d.v) mY ds st' tU):CP P E wr ops (o::r) st nx (d::ds) st' tU
theorem JX {t:Option AV} {r:Option (jF×Nat×Bool)} {d:jF} {nx:Nat} (h:LO t r=some (d,nx,true)):r=some (d,nx,true):=by
 unfold LO at h
 split at h
 · exact h
 · split at h
   · rename_i v d0 n0 ok
     simp only[kb,kp,jn] at h
     obtain⟨rfl,rfl,h1,h2⟩:=h
     have e:=kZ h2
     subst h1
     obtain⟨v0,us,fp,ld⟩:=d0
     simp only at e
     subst e
     rfl
   · cases h
theorem Nc {f cO:Nat} {O:FuncId→List AV→Mem→Option (AV×Mem)} (hO : ∀g args m v m1,O g args m=some (v,m1)→an P E g args m v m1) {nx mY:Nat} {o:Oper} {st:St} {d:jF}
  (h:lQ P E f cO O nx o st=some (d,mY,true)):LDo P E (fun o=>E.wr f (o.dst.getD 0)) st nx o d mY:=by
 have h:=JX h
 unfold sU at h
 split at h
 · rename_i g args ht
   dsimp only at h
   split at h
   · rename_i v m1 ho
     simp only[kb,kp,jn] at h
     obtain⟨rfl,rfl,h1,h2,h3⟩:=h
     exact .inl ⟨g,args,v,m1,ht,hO _ _ _ _ _ ho,ae h1,iz h2,rfl,ae h3,rfl⟩
   · cases h
 · rename_i ht
   split at h
   · rename_i v us ok hop
     simp only[kb,kp,jn] at h
     obtain⟨rfl,rfl,rfl,h1,h2,h3⟩:=h
     exact .inr ⟨ht,h1,hop,rfl,iz h2,rfl,ae h3,rfl⟩
   · cases h
theorem xL {f cO:Nat} {O:FuncId→List AV→Mem→Option (AV×Mem)} (hO : ∀g args m v m1,O g args m=some (v,m1)→an P E g args m v m1) {ops:Array Oper} : ∀{l:List Oper} {nx tU:Nat} {st st':St} {ds:List jF},
  kA P E f cO O ops l nx st=some (st',tU,ds,true)→CP P E (fun o=>E.wr f (o.dst.getD 0)) ops l st nx ds st' tU
 |[],nx,tU,st,st',ds,h=>by
  simp only[kA,kb,kp,and_true] at h
  obtain⟨rfl,rfl,rfl⟩:=h
  exact .nil st nx
 |o::r,nx,tU,st,st',ds,h=>by
  have skip:(match kA P E f cO O ops r nx (put st o.dst (.aD [])) with
   |some (st',tU,ds,ok)=>some (st',tU,(⟨.aD [],[],[],fun _ _=>false⟩:jF)::ds,fits st o.dst&&ok)
   |none=>none)=some (st',tU,ds,true)→(fA ops st.tm o = .no ∨ ∃s b want,fA ops st.tm o = .ask s b want∧(b==want)=false)→CP P E (fun o=>E.wr f (o.dst.getD 0)) ops (o::r) st nx ds st' tU:=by
   intro h hw
   split at h
   · rename_i Wv mY ds1 ok hq
     simp only[kb,kp,jn] at h
     obtain⟨rfl,rfl,rfl,h1,rfl⟩:=h
     exact .cons o r st nx _ nx _ _ _ h1 (.inr ⟨hw,rfl,rfl⟩) (xL hO hq)
   · cases h
  have vk:(match lQ P E f cO O nx o st with
   |some (d,mY,ok)=>match kA P E f cO O ops r mY (put {st with mem:=apply st.mem d.us} o.dst d.v) with
    |some (st',tU,ds,ok')=>some (st',tU,d::ds,ok&&(fits st o.dst&&ok'))
    |none=>none
   |none=>none)=some (st',tU,ds,true)→(fA ops st.tm o = .yes ∨ ∃s b want,fA ops st.tm o = .ask s b want∧(b==want)=true)→CP P E (fun o=>E.wr f (o.dst.getD 0)) ops (o::r) st nx ds st' tU:=by
   intro h hw
   split at h
   · rename_i d mY ok hop
     split at h
     · rename_i Wv nx2 ds1 ok' hq
       simp only[kb,kp,jn] at h
       obtain⟨rfl,rfl,rfl,rfl,h1,rfl⟩:=h
       exact .cons o r st nx d mY _ _ _ h1 (.inl ⟨hw,Nc hO hop⟩) (xL hO hq)
     · cases h
   · cases h
  unfold kA at h
  dsimp only at h
  cases hw:fA ops st.tm o with
  |yes=>rw[hw] at h;exact vk h (.inl hw)
  |no=>rw[hw] at h;exact skip h (.inl hw)
  |lost=>rw[hw] at h;cases h
  |ask s b want=>
   rw[hw] at h
   dsimp only at h
   cases hb:b==want with
   |true=>rw[hb] at h;exact vk h (.inr ⟨s,b,want,hw,hb⟩)
   |false=>rw[hb] at h;exact skip h (.inr ⟨s,b,want,hw,hb⟩)
theorem Ds {N nx:Nat} {ord:List Nat} {v:AV} {m1:Mem} {b:Nat} (h:b∈(sS N nx ord v m1).w):b∈(sS N nx ord v m1).fp:=by
 simp only[sS,jF.w,fg] at h ⊢
 obtain⟨q,hq,rfl⟩:=h
 exact(List.of_mem_zip hq).1
theorem LDo.facts {wr:Oper→Bool} {st:St} {nx mY:Nat} {o:Oper} {d:jF} (h:LDo P E wr st nx o d mY):nx≤mY∧mY≤st.mem.length∧(∀b∈d.w,b<mY) ∧ ∀b∈d.w,b∈d.fp:=by
 rcases h with⟨g,args,v,m1,_,_,h1,h2,rfl,h3,rfl⟩ | ⟨_,_,_,h1,h2,rfl,h3,_⟩
 · refine⟨by omega,h3,fun b hb=> ?_,fun b hb=>Ds hb⟩
   have:=Ds hb
   simp only[sS,oE,Lk] at this
   rcases this with q | q
   · have:=h2 b q;omega
   · omega
 · refine⟨by cases makes o<;>simp,h3,h2,fun b hb=> ?_⟩
   rw[h1]
   exact Hk _ hb
theorem Hh.facts {wr:Oper→Bool} {ops:Array Oper} {st:St} {nx mY:Nat} {o:Oper} {d:jF} (h:Hh P E wr ops st nx o d mY) (hn:nx≤st.mem.length):nx≤mY∧mY≤st.mem.length∧(∀b∈d.w,b<mY) ∧ ∀b∈d.w,b∈d.fp:=by
 rcases h with⟨_,h⟩ | ⟨_,rfl,rfl⟩
 · exact h.facts
 · exact⟨aw _,hn,by simp,by simp⟩
theorem ez.Bg {l:List Oper} {vs:List AV} {S S' T T':St} {i:Nat} (h:ez l vs S i T) (h1:S'.tm=S.tm) (h2:S'.nt=S.nt) (h3:S'.fix=S.fix) (h4:T'.tm=T.tm) (h5:T'.nt=T.nt) (h6:T'.fix=T.fix) (h7:T'.mem=S'.mem):ez l vs S' i T':=by
 obtain⟨_,q2,q3,q4,q5⟩:=h
 refine⟨h7,by rw[h5,h2];exact q2,by rw[h6,h3];exact q3,?_,?_⟩
 · intro j p v t a b c d;rw[h4];exact q4 j p v t a b c d
 · intro t ht;rw[h4,h1];exact q5 t ht
theorem yZ (st:St) (m:Mem) (dst:Option Tmp) (v:AV):put {st with mem:=m} dst v={put st dst v with mem:=m}:=by cases dst<;>rfl
theorem CP.spec {wr:Oper→Bool} {ops:Array Oper} {l:List Oper} {st st':St} {nx tU:Nat} {ds:List jF} (h:CP P E wr ops l st nx ds st' tU) (hu:G9 l) (hn:nx≤st.mem.length) (hfr:oN nx st.mem) :
  ds.length=l.length∧ez l (ds.map (·.v)) st l.length {st' with mem:=st.mem}∧st'.mem=qD st.mem ds∧st'.dj=st.dj ∧
    ∀(i:Nat) (o:Oper),l[i]? = some o → ∃d lp Bh Hi,ds[i]? = some d∧Hh P E wr ops lp Bh o d Hi∧fits lp o.dst=true∧ez l (ds.map (·.v)) st i {lp with mem:=st.mem}∧lp.mem=qD st.mem (ds.take i)∧oN Bh lp.mem∧Bh≤lp.mem.length:=by
 induction h with
 |nil st nx=>exact⟨rfl,⟨rfl,rfl,rfl,fun j _ _ _ hj=>absurd hj (rr _),fun _ _=>rfl⟩,rfl,rfl,fun i o ho=>by simp at ho⟩
 |cons o r st nx d mY ds st' tU hf hk hr ih=>
  have VX:G9 r:=fun i j p q t hij hp hq=>hu (i+1) (j+1) p q t (by omega) (by simpa using hp) (by simpa using hq)
  obtain⟨f1,f2,f3,f4⟩:=hk.facts hn
  have hm:(put {st with mem:=apply st.mem d.us} o.dst d.v).mem=apply st.mem d.us:=by rw[yZ]
  have ae8:oN mY (apply st.mem d.us):=by
   intro i hi hl
   rw[fG] at hl
   rw[kM _ _ _ fun q=>by have:=f3 i q;omega]
   exact hfr i (by omega) hl
  obtain⟨h1,h2,h3,h5,h4⟩:=ih VX (by rw[hm,fG];exact f2) (by rw[hm];exact ae8)
  have shift : ∀{i:Nat} {T:St},ez r (ds.map (·.v)) (put {st with mem:=apply st.mem d.us} o.dst d.v) i {T with mem:=(put {st with mem:=apply st.mem d.us} o.dst d.v).mem} →
    ez (o::r) ((d::ds).map (·.v)) st (i+1) {T with mem:=st.mem}:=by
   intro i T hs
   refine ez.cons (vs:=ds.map (·.v)) (v:=d.v) hu (hs.Bg (S':=put st o.dst d.v) (T':={T with mem:=st.mem}) ?_ ?_ ?_ rfl rfl rfl ?_)
   · cases o.dst<;>rfl
   · cases o.dst<;>rfl
   · cases o.dst<;>rfl
   · exact(FO st o.dst d.v).1.symm
  refine⟨by simp[h1],shift h2,by rw[h3,hm];rfl,h5.trans (by cases o.dst<;>rfl),?_⟩
  intro i p hp
  cases i with
  |zero=>
   simp only[ml,kb] at hp
   subst hp
   exact⟨d,st,nx,mY,rfl,hk,hf,⟨rfl,rfl,rfl,fun j _ _ _ hj=>absurd hj (rr _),fun _ _=>rfl⟩,rfl,hfr,hn⟩
  |succ i=>
   obtain⟨e,lp,Bh,Hi,q1,q2,q3,q4,q5,q6,q7⟩:=h4 i p (by simpa using hp)
   refine⟨e,lp,Bh,Hi,by simpa using q1,q2,q3,shift q4,?_,q6,q7⟩
   rw[q5,hm];rfl
def WB (d e:jF):Prop:=e.us=[] ∧ ∀b∈d.w,b∈e.fp → ∃x,AF d.us b=some x∧e.ld b x=true
theorem Bi : ∀{l:List Nat} {i:Nat},i∈l→has l i=true
 |j::r,i,h=>by
  simp only[has]
  cases hb:ai j i with
  |true=>rfl
  |false=>
   rcases pB.1 h with e | h
   · subst e;rw[rl] at hb;cases hb
   · exact Bi h
theorem JY {d e:jF} (h:Ft d e=true):WB d e:=by
 simp only[Ft,jn,QQ] at h
 refine⟨?_,fun b hb hf=> ?_⟩
 · have h1:=h.1
   cases hu:e.us with
   |nil=>rfl
   |cons _ _=>rw[hu] at h1;cases h1
 · have:=h.2 b hb
   rw[Bi hf,xv,xo] at this
   split at this
   · rename_i x hx
     exact⟨x,hx,this⟩
   · cases this
theorem Bj : ∀{us:qR} {b:Nat},AF us b=none→b∉us.map (·.1)
 |[],_,_=>by simp
 |(i,x)::r,b,h=>by
  simp only[AF] at h
  split at h
  · cases h
  · rename_i hr
    cases hb:ai i b with
    |true=>rw[hb] at h;cases h
    |false=>
     simp only[mi,pB,not_or]
     exact⟨fun e=>(by subst e;rw[rl] at hb;cases hb),Bj hr⟩
theorem Bk : ∀{us:qR} {m:Mem} {b:Nat} {x:bf},AF us b=some x→b<m.length→(apply m us)[b]? = some x
 |(i,y)::r,m,b,x,h,hb=>by
  simp only[AF] at h
  simp only[apply]
  split at h
  · rename_i z hz
    simp only[kb] at h
    subst h
    exact Bk hz (by simpa using hb)
  · rename_i hr
    cases hib:ai i b with
    |false=>rw[hib] at h;cases h
    |true=>
     rw[hib] at h
     simp only[cond_true,kb] at h
     subst h
     have:=ag hib
     subst this
     rw[kM r _ _ (Bj hr),nc hb]
structure LOk (L:List Nat) (ds:List jF):Prop where
 pair : ∀(i j:Nat) (d e:jF),j<i→ds[i]? = some d→ds[j]? = some e→c8 (L.getD i 0) j=true∨((∀b∈e.w,b∉d.fp)∧((∀b∈d.w,b∉e.fp)∨WB d e))
theorem xM {a b:List Nat} (h:meet a b=false) : ∀i∈a,i∉b:=fun _ ha hb=>pX h ha hb
theorem za {L:List Nat} : ∀{r qN:List jF},AG L qN.length qN r=true → ∀(i j:Nat) (d e:jF),qN.length≤i→j<i→(qN++r)[i]? = some d→(qN++r)[j]? = some e →
  c8 (L.getD i 0) j=true∨((∀b∈e.w,b∉d.fp)∧((∀b∈d.w,b∉e.fp)∨WB d e))
 |[],qN,_,i,j,d,e,hi,_,hd,_=>by
  simp only[QR] at hd
  rw[dT hi] at hd;cases hd
 |d0::r,qN,h,i,j,d,e,hi,hj,hd,he=>by
  simp only[AG,jn] at h
  by_cases hc:i=qN.length
  · subst hc
    have:d=d0:=by simpa using hd.symm
    subst this
    have key : ∀(l:List jF) (k:Nat),vn L qN.length d k l=true → ∀m x,l[m]? = some x→Fv L qN.length d (k+m) x=true:=by
     intro l
     induction l with
     |nil=>intro k _ m x hx;simp at hx
     |cons y l ih=>
      intro k hk m x hx
      simp only[vn,jn] at hk
      cases m with
      |zero=>simp only[ml,kb] at hx;subst hx;exact hk.1
      |succ m=>
       simp only[mr] at hx
       have:=ih (k+1) hk.2 m x hx
       rwa [bm,acu 1 m] at this
    have he':qN[j]? = some e:=by rwa [od hj] at he
    have:=key qN 0 h.1 j e he'
    simp only[Fv,Nat.zero_add,j1,jn,ka] at this
    rcases this with q | ⟨q1,q2 | q2⟩
    · exact .inl q
    · exact .inr ⟨xM q1,.inl (xM q2)⟩
    · exact .inr ⟨xM q1,.inr (JY q2)⟩
  · have h':AG L (qN++[d0]).length (qN++[d0]) r=true:=by simpa using h.2
    exact za h' i j d e (by simp;omega) hj (by simpa using hd) (by simpa using he)
theorem zb {m m':Mem} : ∀(f:Nat) (ord:List Nat) (k:Nat),ord.Nodup→(∀i∈reach m f ord k,m.getD i .dead=m'.getD i .dead)→reach m' f ord k=reach m f ord k
 |0,_,_,_,_=>rfl
 |f+1,ord,k,hnd,h=>by
  simp only[reach] at h ⊢
  cases hk:ord[k]? with
  |none=>rfl
  |some i=>
   simp only[hk] at h
   dsimp only
   have JO:=(eL (C9 (m.getD i .dead)) ord hnd).1
   obtain⟨t1,h1⟩:=(eL (C9 (m.getD i .dead)) ord hnd).2
   obtain⟨t2,h2⟩:=(pV m f _ (k+1) JO).2
   have hi:m.getD i .dead=m'.getD i .dead:=h i (by rw[h2,h1];exact Hk _ (Hk _ (mf hk)))
   rw[←hi]
   exact zb f _ (k+1) JO h
theorem Hj {m m':Mem} {args:List AV} (hl:m.length=m'.length) (h : ∀i∈close m 0 args,m.getD i .dead=m'.getD i .dead):close m' 0 args=close m 0 args:=by
 unfold close at h ⊢
 rw[←hl]
 exact zb _ _ _ (eL _ _ (m9 0)).1 h
theorem JZ {m m':Mem} {ord:List Nat} (h : ∀i∈ord,m.getD i .dead=m'.getD i .dead):pack m' ord=pack m ord:=by
 unfold pack
 exact Hm fun i hi=>by rw[h i hi]
theorem tZ (ρ:Nat→Option Nat) : ∀(ord:List Nat) (m1 m:Mem),ord.length=m1.length→dR ρ ord m1 m=apply m (ord.zip (m1.map (gX ρ)))
 |[],[],m,_=>by simp[dR,apply]
 |i::ord,b::m1,m,h=>by
  simp only[dR,mi,PQ,apply]
  exact tZ ρ ord m1 _ (by simpa using h)
 |[],_::_,_,h=>by simp at h
 |_::_,[],_,h=>by simp at h
theorem Rel.Z3 {g g1:Gh} {m m1:Mem} {w w':World} (h:Rel g m w) {ord R:List Nat} (hnd:(ord++R).Nodup) (hlt : ∀i∈ord++R,i<m.length) (hR : ∀i∈R,m[i]? = some .free)
  (h1:Rel g1 m1 w') (hs:dU (g.pack ord) (Am.pack m ord) w g1 m1 w') (hf:bZ (g.pack ord) g1 ord.length) (hl:(ord++R).length=m1.length) :
  ∃g',Rel g' (apply m ((ord++R).zip (m1.map (gX (bI (ord++R) m.length))))) w'∧Ext g w g' w'∧dU g m w g' (apply m ((ord++R).zip (m1.map (gX (bI (ord++R) m.length))))) w'∧dS (bI (ord++R) m.length) g1 g':=by
 have own : ∀c,jU (g.pack ord) (Am.pack m ord) c→jU (g.pack (ord++R)) (Am.pack m (ord++R)) c:=by
  rintro c ⟨k,b,hk,ho,hc⟩
  obtain⟨i,hi,rfl⟩:=m8 hk
  have hi':(ord++R)[k]? = some i:=by rw[od (bX hi)];exact hi
  refine⟨k,gX (idx (ord++R)) (m.getD i .dead),?_,by rw[oL] at ho ⊢;exact ho,?_⟩
  · simp only[Am.pack,en,hi',kl]
  · simpa[Gh.pack,hi,hi'] using hc
 have hs':dU (g.pack (ord++R)) (Am.pack m (ord++R)) w g1 m1 w':=
  ⟨hs.size,fun c hc hn=>hs.keep c hc fun q=>hn (own c q),hs.pure,fun c o p=>(hs.fresh c o p).imp id fun q=>q.imp (own c) id,fun c ho=>(hs.owned c ho).imp (own c) id,hs.os,hs.tape,hs.output⟩
 have hf':bZ (g.pack (ord++R)) g1 (ord++R).length:=by
  intro k c hk hc
  rcases be k ord.length with q | q
  · have e:(ord++R)[k]? = ord[k]? :=od q
    have:=hf k c q (by simpa[Gh.pack,e] using hc)
    simpa[Gh.pack,e] using this
  · have e:(ord++R)[k]? = R[k-ord.length]? :=Hn q
    simp only[Gh.pack,e] at hc
    cases hr:R[k-ord.length]? with
    |none=>rw[hr] at hc;cases hc
    |some i=>
     rw[hr] at hc
     simp only[s0] at hc
     rw[h.free i (hR i (mf hr))] at hc;cases hc
 obtain⟨r1,r2,r3,r4⟩:=h.back hnd hlt h1 hs' hf' (by omega)
 rw[tZ _ _ _ _ hl] at r1 r3
 exact⟨_,r1,r2,r3,r4⟩
theorem Bl {m m':Mem} {i:Nat} (h:m[i]? = m'[i]?):m.getD i .dead=m'.getD i .dead:=by
 rw[de,de,h]
end
section
variable {P:Program} {E:Env}
theorem pY : ∀(ds:List jF) (m:Mem),(qD m ds).length=m.length
 |[],_=>rfl
 |d::ds,m=>by rw[qD,pY ds,fG]
structure Y7 (P:Program) (E:Env) (wr:Oper→Bool) (ops:Array Oper) (m:Nat) (jt:St) (ds:List jF) (st':St):Prop where
 len:ds.length=ops.toList.length
 ends:ez ops.toList (ds.map (·.v)) jt m {st' with mem:=jt.mem}
 mem:st'.mem=qD jt.mem (ds.take m)
 each : ∀(i:Nat) (o:Oper),ops.toList[i]? = some o→i<m → ∃d lp Bh Hi,ds[i]? = some d∧Hh P E wr ops lp Bh o d Hi∧fits lp o.dst=true∧ez ops.toList (ds.map (·.v)) jt i {lp with mem:=jt.mem}∧lp.mem=qD jt.mem (ds.take i)∧oN Bh lp.mem∧Bh≤lp.mem.length
 dum : ∀(i:Nat) (e:jF),m≤i→ds[i]? = some e→e.us=[]
theorem qO.acV {ops:Array Oper} {L:List Nat} {vs:List AV} {jt fK:St} {S:Array Bool} (hI:qO ops L vs jt fK S) (hl:vs.length=ops.toList.length) {st':St} {m:Nat} (hst:ez ops.toList vs jt m st') (hall : ∀i,i<m→S.getD i false=true) (hnot : ∀i,m≤i→S.getD i false=false) :
  fK.mem=st'.mem∧fK.nt=st'.nt∧fK.fix=st'.fix ∧ ∀t,look fK.tm t=look st'.tm t:=by
 obtain⟨h1,h2,h3,hA,hB⟩:=hst
 have lt : ∀j,S.getD j false=true→j<m:=fun j hj=>by
  rcases be j m with q | q
  · exact q
  · rw[hnot j q] at hj;cases hj
 refine⟨hI.mem.trans h1.symm,hI.nt.trans h2.symm,hI.fix.trans h3.symm,fun t=> ?_⟩
 by_cases hw : ∃(j:Nat) (p:Oper),j<m∧ops.toList[j]? = some p∧p.dst=some t
 · obtain⟨j,p,hj,hp,hd⟩:=hw
   have hjl:=(dt.1 hp).1
   have P7:vs[j]? = some vs[j]:=df (by rw[hl];exact hjl)
   rw[hI.a j p _ t (hall j hj) hp P7 hd,hA j p _ t hj hp P7 hd]
 · rw[hI.b t fun k q hk hq hd=>hw ⟨k,q,lt k hk,hq,hd⟩,hB t fun k q hk hq hd=>hw ⟨k,q,hk,hq,hd⟩]
theorem WC {ops:Array Oper} {S:Array Bool} (h : ∀i,i<ops.size→S.getD i false=true) (hs:S.size=ops.size) (fuel t:Nat):acz .any ops fuel t S []=[]:=by
 cases fuel with
 |zero=>rfl
 |succ fuel=>
  have hr:yb .any ops S=[]:=by
   cases hr:yb .any ops S with
   |nil=>rfl
   |cons x xs=>
    have hx:x∈yb .any ops S:=by rw[hr];exact .head _
    obtain⟨h1,o,ho,_⟩:=mem_ready.1 hx
    have hlt:=(Ha.1 ho).1
    have:=h x hlt
    rw[oM (by omega) false true,h1] at this
    cases this
  simp only[acz]
  show(match(yb .any ops S)[t%(yb .any ops S).length]? with
   |some i=>acz .any ops fuel (t / (yb .any ops S).length) (S.setIfInBounds i true) [i]
   |none=>[].reverse)=[]
  rw[hr]
  rfl
theorem WD {b:Frame} {k:List Item} (cs:List Frame) {ops:Array Oper} {L:List Nat} {ds:List jF} {jt st':St} {m:Nat} {wr:Oper→Bool} (hO:zP ops L) (hL:LOk L ds) (hrun:Y7 P E wr ops m jt ds st')
  (hm:m=ops.size∨(m+1=ops.size ∧ ∀j,j<m→c8 (L.getD m 0) j=true)) : ∀(fuel t:Nat) (S:Array Bool) (fK:St) (a:Act) (g:Gh) (w:World) (u:List Nat),
    qO ops L (ds.map (·.v)) jt {fK with mem:=jt.mem} S→ng ds jt.mem (fun j=>S.getD j false=true) fK.mem→dc E g fK a w→u.length=fuel→(∀i,i<ops.size→S.getD i false=false→i∈u)→(∀i,m≤i→S.getD i false=false) →
    ∃g' a' w',Steps P (lone (b.atR a (.inRegion ops (acz .any ops fuel t S [])::k)) cs w) (lone (b.atR a' (.inRegion ops (pw m (ops.size-m))::k)) cs w')∧a'.defers=a.defers∧dc E g' st' a' w' ∧
     dU g fK.mem w g' st'.mem w'∧bZ g g' jt.fix ∧ ∀i c,g.cm i=some c→g'.cm i=some c:=by
 obtain⟨hdl,hend,hmem,hspec,acW⟩:=hrun
 have hl:(ds.map (·.v)).length=ops.toList.length:=by simpa using hdl
 have aiq:ds.length=ops.size:=by simpa using hdl
 have acM:m≤ops.size:=by omega
 have fin : ∀(S:Array Bool) (fK:St) (a:Act) (g:Gh) (w:World),qO ops L (ds.map (·.v)) jt {fK with mem:=jt.mem} S→ng ds jt.mem (fun j=>S.getD j false=true) fK.mem→dc E g fK a w →
   (∀i,i<m→S.getD i false=true)→(∀i,m≤i→S.getD i false=false)→dc E g st' a w∧fK.mem=st'.mem:=by
  intro S fK a g w hI hM hs hall hnot
  obtain⟨_,e2,e3,e4⟩:=hI.acV hl hend hall hnot
  have hm:fK.mem=st'.mem:=by
   apply aaH
   intro i
   rw[hmem]
   have h2:=Bf ds jt.mem m (by omega)
   refine hM.agree h2 fun j d hd _=> ?_
   refine⟨fun hS=> ?_,fun hj=>hall j hj⟩
   rcases be j m with q | q
   · exact q
   · rw[hnot j q] at hS;cases hS
  exact⟨hs.same hm e2 e3 e4,hm⟩
 have full : ∀(S:Array Bool),(∀i,i<ops.size→S.getD i false=true)→(∀i,m≤i→S.getD i false=false)→m=ops.size:=by
  intro S h1 h2
  rcases hm with q | ⟨q,_⟩
  · exact q
  · have:=h1 m (by omega);rw[h2 m (aw _)] at this;cases this
 intro fuel
 induction fuel with
 |zero=>
  intro t S fK a g w u hI hM hs Z1 hu hnot
  have hall : ∀i,i<ops.size→S.getD i false=true:=by
   intro i hi
   cases hq:S.getD i false with
   |true=>rfl
   |false=>
    have:=hu i hi hq
    rw[Ps Z1] at this;cases this
  have Z4:=full S hall hnot
  obtain⟨h1,h2⟩:=fin S fK a g w hI hM hs (fun i hi=>hall i (by omega)) hnot
  refine⟨g,a,w,?_,rfl,h1,by rw[h2];exact dU.refl _ _ _,bZ.refl _ _,fun _ _ h=>h⟩
  rw[Z4,acp,Pl]
  exact acA _ _
 |succ fuel ih=>
  intro t S fK a g w u hI hM hs Z1 hu hnot
  simp only[acz]
  show ∃g' a' w',Steps P (lone (b.atR a (.inRegion ops (match(yb .any ops S)[t%(yb .any ops S).length]? with
   |some i=>acz .any ops fuel (t / (yb .any ops S).length) (S.setIfInBounds i true) [i]
   |none=>[].reverse)::k)) cs w) (lone (b.atR a' (.inRegion ops (pw m (ops.size-m))::k)) cs w')∧_
  cases hi:(yb .any ops S)[t%(yb .any ops S).length]? with
  |none=>
   have Qt:yb .any ops S=[]:=by
    cases hr:yb .any ops S with
    |nil=>rfl
    |cons x xs=>
     rw[hr] at hi
     have hlt:t%(x::xs).length<(x::xs).length:=rv _ (by simp)
     rw[df hlt] at hi;cases hi
   have hall:=hI.all hO Qt
   have Z4:=full S hall hnot
   obtain⟨h1,h2⟩:=fin S fK a g w hI hM hs (fun i hi=>hall i (by omega)) hnot
   refine⟨g,a,w,?_,rfl,h1,by rw[h2];exact dU.refl _ _ _,bZ.refl _ _,fun _ _ h=>h⟩
   rw[Z4,acp,Pl]
   exact acA _ _
  |some i=>
   have Wx:=mf hi
   obtain⟨hSi,o,ho,_⟩:=mem_ready.1 Wx
   have ho':ops.toList[i]? = some o:=by simpa using ho
   have hilt:i<ops.size:=(Ha.1 ho).1
   by_cases him:i<m
   case neg=>
    have hme:i=m∧m+1=ops.size ∧ ∀j,j<m→c8 (L.getD m 0) j=true:=by
     rcases hm with q | ⟨q1,q2⟩
     · omega
     · exact⟨by omega,q1,q2⟩
    obtain⟨rfl,hsz,acX⟩:=hme
    have hall : ∀j,j<i→S.getD j false=true:=fun j hj=>hI.ahead hO Wx (acX j hj)
    obtain⟨h1,h2⟩:=fin S fK a g w hI hM hs hall hnot
    dsimp only
    rw[linearise_go_acc,H2,H3,WC (fun j hj=>by
     by_cases e:i=j
     · subst e;simp[lv,hI.size,hj]
     · rw[getD_set_ne false e];exact hall j (by omega)) (by simp[hI.size])]
    refine⟨g,a,w,?_,rfl,h1,by rw[h2];exact dU.refl _ _ _,bZ.refl _ _,fun _ _ h=>h⟩
    rw[show ops.size-i=1 by omega,List.range'_one]
    exact acA _ _
   obtain⟨d,lp,Bh,Hi,hd,hk,hf,JT,hmi,acY,afb⟩:=hspec i o ho' him
   have hv:(ds.map (·.v))[i]? = some d.v:=by rw[en,hd];rfl
   have Bc : ∀t∈slots ops o,look fK.tm t=look lp.tm t:=fun t ht=>hI.slots hO ho' Wx hl JT ht
   have hid:i<ds.length:=(dt.1 hd).1
   have hni:S.getD i false=false:=by rw[oM (by rw[hI.size];exact hilt) false true];exact hSi
   have Qu:i∈u:=hu i hilt hni
   have VX : ∀j,j<ops.size→(S.setIfInBounds i true).getD j false=false→j∈u.erase i:=by
    intro j hj hq
    have hne:j≠i:=by
     intro e
     subst e
     rw[show(S.setIfInBounds j true).getD j false=true by simp[lv,hI.size,hj]] at hq
     cases hq
    rw[getD_set_ne false (fun e=>hne e.symm)] at hq
    exact(aax hne).2 (hu j hj hq)
   have acZ : ∀j,m≤j→(S.setIfInBounds i true).getD j false=false:=by
    intro j hj
    rw[getD_set_ne false (by omega)]
    exact hnot j hj
   have Wy:(u.erase i).length=fuel:=by rw[QP Qu,Z1];rfl
   have Cz : ∀j,(S.setIfInBounds i true).getD j false=true↔S.getD j false=true∨j=i:=by
    intro j
    by_cases h:i=j
    · subst h
      simp[lv,hI.size,hilt]
    · rw[getD_set_ne false h]
      exact⟨.inl,fun q=>q.resolve_right fun e=>h e.symm⟩
   have hwf : ∀b∈d.w,b∈d.fp:=(hk.facts afb).2.2.2
   have wfp : ∀(j:Nat) (e:jF),ds[j]? = some e → ∀b∈e.w,b∈e.fp:=by
    intro j e he
    have hj:=(dt.1 he).1
    have hoj:ops.toList[j]? = some ops.toList[j]:=df (by omega)
    by_cases hjm:j<m
    case neg=>
     intro b hb
     rw[jF.w,acW j e (by omega) he] at hb
     cases hb
    obtain⟨e',stj,nxj,afd,q1,q2,_,_,_,_,q3⟩:=hspec j _ hoj hjm
    rw[he] at q1;cases q1
    exact(q2.facts q3).2.2.2
   have YZ:=Bf ds jt.mem i (by omega)
   rw[←hmi] at YZ
   have wlt : ∀(j:Nat) (e:jF),ds[j]? = some e → ∀b∈e.w,b<jt.mem.length:=by
    intro j e he b hb
    have hj:=(dt.1 he).1
    have hoj:ops.toList[j]? = some ops.toList[j]:=df (by omega)
    by_cases hjm:j<m
    case neg=>
     rw[jF.w,acW j e (by omega) he] at hb
     cases hb
    obtain⟨e',stj,nxj,afd,q1,q2,_,_,q4,_,q3⟩:=hspec j _ hoj hjm
    rw[he] at q1;cases q1
    have h1:=(q2.facts q3).2.2.1 b hb
    have h2:=(q2.facts q3).2.1
    have h3:=pY (ds.take j) jt.mem
    rw[q4,h3] at h2
    omega
   have hag : ∀b∈d.fp,fK.mem[b]? = lp.mem[b]? ∨ (d.us=[] ∧ ∃x,fK.mem[b]? = some x∧d.ld b x=true):=by
    intro b hb
    by_cases hw : ∃j e,S.getD j false=true∧i<j∧ds[j]? = some e∧b∈e.w
    · obtain⟨j0,e0,q1,q2,q3,q4⟩:=hw
      obtain⟨j,⟨hj,e,he,Cr⟩,hl⟩:=L4 (p:=fun j=>S.getD j false=true ∧ ∃d,ds[j]? = some d∧b∈d.w) (n:=ds.length) (fun k ⟨_,d,hd,_⟩=>(dt.1 hd).1) _ j0 rfl ⟨q1,e0,q3,q4⟩
      have hij:i<j:=by
       rcases be i j with q | q
       · exact q
       · exact absurd (show j<j0 by omega) (hl j0 ⟨q1,e0,q3,q4⟩)
      have Hl:=hM.last j e b hj he Cr fun k x hk VZ hx hbx=>hl k ⟨hk,x,hx,hbx⟩ VZ
      rcases hL.pair j i e d hij he hd with q | ⟨_,q | q⟩
      · have:=hI.cl j i hj q;rw[hni] at this;cases this
      · exact absurd hb (q b Cr)
      · obtain⟨x,hx,hld⟩:=q.2 b Cr hb
        rw[Bk hx (wlt j e he b Cr)] at Hl
        exact .inr ⟨q.1,x,Hl,hld⟩
    · refine .inl (hM.agree YZ fun j e he Cr=> ?_)
      rcases aca j i with hlt | heq | hgt
      · rcases hL.pair i j d e hlt hd he with q | ⟨q,_⟩
        · exact⟨fun _=>hlt,fun _=>hI.ahead hO Wx q⟩
        · exact absurd hb (q b Cr)
      · subst heq
        exact⟨fun q=>(by rw[hni] at q;cases q),fun q=>absurd q (Nat.lt_irrefl _)⟩
      · exact⟨fun q=>absurd ⟨j,e,q,hgt,he,Cr⟩ hw,fun q=>by omega⟩
   have Qy:fK.mem.length=lp.mem.length:=hM.len.trans YZ.len.symm
   have hM':ng ds jt.mem (fun j=>(S.setIfInBounds i true).getD j false=true) (apply fK.mem d.us):=by
    refine hM.step hd Cz (by rw[hni];exact fun q=>by cases q) fun j e hS hij he b hb Cr=> ?_
    rcases hL.pair j i e d hij he hd with q | ⟨q,_⟩
    · have:=hI.cl j i hS q;rw[hni] at this;cases this
    · exact q b hb (wfp j e he b Cr)
   have hI':=hI.step hO ho' hv Wx
   have hfA:fits fK o.dst=true:=by
    have:fits fK o.dst=fits lp o.dst:=by unfold fits;rw[show fK.nt=jt.nt from hI.nt,show lp.nt=jt.nt from JT.2.1]
    rw[this];exact hf
   have ahg:fK.fix=jt.fix:=hI.fix
   have hput : ∀m:Mem,put {fK with mem:=jt.mem} o.dst d.v={put {fK with mem:=m} o.dst d.v with mem:=jt.mem}:=by
    intro m;cases o.dst<;>rfl
   have Y8 : ∀m:Mem,(put {fK with mem:=m} o.dst d.v).mem=m:=by intro m;cases o.dst<;>rfl
   have ac0:fK.fix≤(apply fK.mem d.us).length:=by rw[fG];exact hs.fix
   dsimp only
   rw[linearise_go_acc,H2,H3]
   have JU:=yY Bc
   have CK:=Hf (E:=E) Bc
   obtain⟨w1,w2,w3⟩:=sY hs (ops:=ops) (o:=o)
   have go : ∀(g2:Gh) (cv:Value) (w':World),VA g2 w' d.v cv→Rel g2 (apply fK.mem d.us) w'→Ext g w g2 w'→dU g fK.mem w g2 (apply fK.mem d.us) w' →
     Steps P (lone (b.atR a (.inRegion ops (i::acz .any ops fuel (t / (yb .any ops S).length) (S.setIfInBounds i true) [])::k)) cs w)
      (lone (b.atR (a.put o.dst cv) (.inRegion ops (acz .any ops fuel (t / (yb .any ops S).length) (S.setIfInBounds i true) [])::k)) cs w') →
     ∃g' a' w',Steps P (lone (b.atR a (.inRegion ops (i::acz .any ops fuel (t / (yb .any ops S).length) (S.setIfInBounds i true) [])::k)) cs w) (lone (b.atR a' (.inRegion ops (pw m (ops.size-m))::k)) cs w')∧a'.defers=a.defers∧dc E g' st' a' w' ∧
      dU g fK.mem w g' st'.mem w'∧bZ g g' jt.fix ∧ ∀i c,g.cm i=some c→g'.cm i=some c:=by
    intro g2 cv w' k2 k3 k4 k5 kst
    have hs':=hs.put hfA k2 k4 k3 ac0
    obtain⟨g3,a3,w3',r1,r2,r3,r4,r5,r6⟩:=ih (t / (yb .any ops S).length) (S.setIfInBounds i true) _ _ _ _ (u.erase i) (by rw[←hput];exact hI') (by rw[Y8];exact hM') hs' Wy VX acZ
    rw[Y8] at r4
    refine⟨g3,a3,w3',kst.trans r1,r2.trans put_defers,r3,k5.trans r4,(bZ.vI k4 _).trans r5,fun j c q=>r6 j c (k4.cm j c q).1⟩
   rcases hk with⟨hw,Z5⟩ | ⟨hw,rfl,rfl⟩
   · have lq:xf o (yielded ops a.tmps)=true:=by
      rcases hw with hw | ⟨s',b',want,hw,hb⟩
      · exact w1 (JU.trans hw)
      · rw[(w3 s' b' want (JU.trans hw)).1];exact hb
     rcases Z5 with⟨gf,args,v,m1,ht,gT,h1,h2,h3,h4,h5⟩ | ⟨ht,Z6,hop,hfp,aiA,h3,h4,hld⟩
     · have xN : ∀b∈d.fp,fK.mem[b]? = lp.mem[b]? :=fun b hb=>(hag b hb).resolve_right fun⟨_,x,_,q⟩=>by rw[h5] at q;cases q
       have WE:target (ev E fK.tm) o=some (gf,args):=(FR CK).trans ht
       have Z7:d.fp=close lp.mem 0 args++pw Bh (m1.length-(close lp.mem 0 args).length):=by rw[h5];rfl
       have aff:close fK.mem 0 args=close lp.mem 0 args:=Hj Qy.symm fun j hj=>(Bl (xN j (by rw[Z7];exact Hk _ hj))).symm
       have ac1:pack fK.mem (close lp.mem 0 args)=pack lp.mem (close lp.mem 0 args):=JZ fun j hj=>(Bl (xN j (by rw[Z7];exact Hk _ hj))).symm
       obtain⟨hnd,_⟩:=gu lp.mem 0 args
       generalize close lp.mem 0 args=ord at *
       rw[←ac1] at gT
       have hR : ∀j∈pw Bh (m1.length-ord.length),fK.mem[j]? = some .free:=by
        intro j hj
        rw[xN j (by rw[Z7];exact Hd _ hj)]
        rw[Lk] at hj
        exact acY j hj.1 (by omega)
       have afg:(ord++pw Bh (m1.length-ord.length)).Nodup:=List.nodup_append.2 ⟨hnd,List.nodup_range',fun x hx y hy e=>by
        subst e
        rw[Lk] at hy
        have:=h2 x hx;omega⟩
       have ZH : ∀j∈ord++pw Bh (m1.length-ord.length),j<fK.mem.length:=by
        intro j hj
        rcases oE.1 hj with q | q
        · have:=h2 j q;omega
        · rw[Lk] at q;omega
       obtain⟨⟨fn,Ws,Wt,Wu⟩,gT⟩:=gT
       unfold target at WE
       split at WE
       · rename_i call afh
         split at WE
         · rename_i x CM
           split at WE
           · rename_i f' first captured hx
             simp only[kb,kp] at WE
             obtain⟨rfl,Z8⟩:=WE
             have CE:=iY hs x
             rw[hx,VA.fns] at CE
             obtain⟨fa,ca,CE,ZZ,hca⟩:=CE
             have ac2:=A9 (P:=P) (w:=w) afh CM CE Ws Wt Wu
             have hargs:dz g w args (fa++call.args.map a.eval++ca).toList:=by
              rw[←Z8]
              simp only[Fs,ja]
              exact(ZZ.append (jy (iY hs) _)).append hca
             obtain⟨Ql,Qm⟩:=hs.rel.pack hnd
             have pW:=dS.pack g ord
             obtain⟨w',g',cv,fr,q1,q2,q3,q4,q5,q6,q7,q8⟩:=gT (g.pack ord) w (fa++call.args.map a.eval++ca) (b.atR a (.inRegion ops (i::acz .any ops fuel (t / (yb .any ops S).length) (S.setIfInBounds i true) [])::k)::cs) Ql
              (dz.kr pW hargs) (hs.cX.mono fun _ _ p=>⟨p,rfl⟩)
             have hlen:(Am.pack fK.mem ord).length=ord.length:=by simp[Am.pack]
             rw[hlen] at q7 q8
             obtain⟨g2,r1,r2,r3,r4⟩:=hs.rel.Z3 afg ZH hR q5 q6 q7 (by simp;omega)
             have Pz:d.us=(ord++pw Bh (m1.length-ord.length)).zip (m1.map (gX (bI (ord++pw Bh (m1.length-ord.length)) fK.mem.length))):=by rw[h5,Qy];rfl
             have hdv:d.v=kr (bI (ord++pw Bh (m1.length-ord.length)) fK.mem.length) v:=by rw[h5,Qy];rfl
             rw[←Pz] at r1 r3
             have hstep:=uE (b:=b) (k:=k) (cs:=cs) (rest:=acz .any ops fuel (t / (yb .any ops S).length) (S.setIfInBounds i true) []) ho lq ac2
             have hleave:=step_leave_returned (P:=P) (c:=b.atR a (.inRegion ops (i::acz .any ops fuel (t / (yb .any ops S).length) (S.setIfInBounds i true) [])::k)) (cs:=cs) q2
             rw[yo,ho] at hleave
             exact go g2 cv w' (by rw[hdv];exact q4.kr r4) r1 r2 r3 (.head hstep (q1.trans (.one hleave)))
           · cases WE
         · cases WE
       · cases WE
     · have both:(yJ P (fun j=>fK.mem.getD j .dead) (wr o) Bh (ev E fK.tm) o=some (d.v,d.us,true))∧(makes o=true→fK.mem[Bh]? = some .free):=by
        by_cases hsp : ∃b x,d.us=[]∧fK.mem[b]? = some x∧d.ld b x=true
        · obtain⟨b,x,Pz,hx,Ho⟩:=hsp
          rw[hld] at Ho
          unfold ZD at Ho
          split at Ho
          · rename_i t a Z9
            split at Ho
            · rename_i c off afi
              simp only[jn] at Ho
              obtain⟨hcb,PA⟩:=Ho
              have hcb:=ag hcb
              subst hcb
              split at PA
              · rename_i v' ok hlo
                simp only[jn] at PA
                obtain⟨rfl,Y9⟩:=PA
                have Y9:=kZ Y9
                subst Y9
                have hrd:(fun j=>fK.mem.getD j bf.dead) c=x:=by
                 show fK.mem.getD c .dead=x
                 rw[de,hx];rfl
                have rC:oo P (fun j=>fK.mem.getD j .dead) t (.mp c off)=oo P (fun _=>x) t (.mp c off):=by
                 simp only[oo,tY (rd:=fun j=>fK.mem.getD j bf.dead) (rd':=fun _=>x) (a:= .mp c off) (fun b hb=>by
                  have:b=c:=by simpa[refs] using hb
                  subst this;exact hrd)]
                refine⟨?_,fun hm=> ?_⟩
                · have e1:ev E fK.tm a = .mp c off:=by rw[CK a (by rw[Z9];simp[acx]),afi]
                  simp only[yJ,Z9,e1,rC,hlo,jS,kl,Pz]
                · simp[makes,Z9] at hm
              · cases PA
            · cases Ho
          · cases Ho
        · have xN : ∀b∈d.fp,fK.mem[b]? = lp.mem[b]? :=fun b hb=>(hag b hb).resolve_right fun⟨q0,x,q1,q2⟩=>hsp ⟨b,x,q0,q1,q2⟩
          refine⟨?_,fun hm=> ?_⟩
          · rw[←hop]
            refine(WA Z6 (fun x hx=>(CK x hx).symm) fun j hj=> ?_).symm
            exact(Bl (xN j (by rw[hfp];exact Hd _ (Hk _ hj)))).symm
          · rw[xN Bh (by rw[hfp,hm];exact Hd _ (Hd _ (by simp)))]
            rw[hm] at h3
            simp only[cond_true] at h3
            exact acY Bh (aw _) (by omega)
       obtain⟨afj,hfree⟩:=both
       obtain⟨cv,w',g',k1,k2,k3,k4,k5⟩:=sX hs.rel (iY hs) (fun _=>rfl) hfree afj
       exact go g' cv w' k2 k3 k4 k5 (.one (vK ho lq k1))
   · have lq:xf o (yielded ops a.tmps)=false:=by
      rcases hw with hw | ⟨s',b',want,hw,hb⟩
      · exact w2 (JU.trans hw)
      · rw[(w3 s' b' want (JU.trans hw)).1];exact hb
     refine go g undef w (VA.pP.2 trivial) hs.rel (Ext.refl g w) (dU.refl _ _ _) (.one ?_)
     have hst:=stepR_op_skip (P:=P) (b:=b) (a:=a) (k:=k) (cs:=cs) (w:=w) (ops:=ops) (i:=i) (rest:=acz .any ops fuel (t / (yb .any ops S).length) (S.setIfInBounds i true) []) (by simp[ho,lq])
     simpa only[ho,s0] using hst
theorem zc : ∀{m:Mem},Ae m=true → ∀(i:Nat) (b:bf),m[i]? = some b→b = .free
 |[],_,i,b,h=>by simp at h
 |x::r,h,i,b,hb=>by
  cases x with
  |free=>
   cases i with
   |zero=>simpa using hb.symm
   |succ i=>exact zc (m:=r) h i b (by simpa using hb)
  |_=>cases h
theorem Rel.trim {g:Gh} {m:Mem} {w:World} (h:Rel g m w) {n:Nat} (hf:Ae (m.drop n)=true):Rel g (m.take n) w∧dU g m w g (m.take n) w:=by
 have get : ∀i b,(m.take n)[i]? = some b→m[i]? = some b:=fun i b hb=>by
  rw[di] at hb
  split at hb
  · exact hb
  · cases hb
 refine⟨⟨fun i hi=> ?_,fun i hi=>h.free i (get i _ hi),fun i b l hi hb=>h.cells i b l (get i b hi) hb,fun i c hi hc=>h.tok i c (get i _ hi) hc,
  fun i j b b' c hi hj ho ho' hc iS=>h.inj i j b b' c (get i b hi) (get j b' hj) ho ho' hc iS,h.there,fun i k l hi=>h.obs i k l (get i _ hi)⟩,dU.less fun c ⟨i,b,hi,ho,hc⟩=>⟨i,b,get i b hi,ho,hc⟩⟩
 rcases be i m.length with q | q
 · rw[eh] at hi
   have hb:(m.drop n)[i-n]? = some m[i]:=by
    rw[dq,show n+(i-n)=i by omega]
    exact df q
   have:=zc hf _ _ hb
   exact h.free i (by rw[df q,this])
 · exact h.Cp i q
theorem Rel.fB {g:Gh} {w:World} : ∀(n:Nat) {m:Mem},Rel g m w→Rel g (m++fB n) w∧dU g m w g (m++fB n) w
 |0,m,h=>by
  simp only[Am.fB,List.replicate_zero,QR]
  exact⟨h,dU.refl _ _ _⟩
 |n+1,m,h=>by
  obtain⟨h1,h2⟩:=h.reserve
  obtain⟨h3,h4⟩:=Rel.fB n h1
  have e:m++Am.fB (n+1)=(m++[.free])++Am.fB n:=by simp[Am.fB,List.replicate_succ]
  rw[e]
  exact⟨h3,h2.trans h4⟩
theorem vO {x:Nat} : ∀{n:Nat},Ab x n=true → ∀j,j<n→c8 x j=true
 |0,_,j,h=>absurd h (rr _)
 |n+1,h,j,hj=>by
  simp only[Ab,jn] at h
  rcases be j n with q | q
  · exact vO h.2 j q
  · have:j=n:=by omega
    subst this;exact h.1
theorem FT (ops:Array Oper):jq ops≤ops.size∧(jq ops=ops.size∨(jq ops+1=ops.size ∧ ∀j,j<jq ops→c8 ((masks [] ops.toList).getD (jq ops) 0) j=true)):=by
 unfold jq
 cases h:xB ops with
 |false=>exact⟨aw _,.inl rfl⟩
 |true=>
  simp only[cond_true]
  refine⟨by omega,?_⟩
  unfold xB at h
  simp only[jn] at h
  obtain⟨h1,h2⟩:=h
  have hp:0<ops.size:=by
   rcases abZ ops.size with e | e
   · rw[show ops[ops.size-1]? = none from il (by omega)] at h1;cases h1
   · exact e
  exact .inr ⟨by omega,fun j hj=>vO h2 j hj⟩
theorem CP.ac3 {wr:Oper→Bool} {ops:Array Oper} {m:Nat} {st st':St} {nx tU:Nat} {ds:List jF} (h:CP P E wr ops (ops.toList.take m) st nx ds st' tU) (hm:m≤ops.size) (hu:G9 ops.toList) (hn:nx≤st.mem.length) (hfr:oN nx st.mem) :
  Y7 P E wr ops m st (ds++dC (ops.size-m) ⟨.aD [],[],[],fun _ _=>false⟩) st'∧ds.length=m∧st'.mem=qD st.mem ds∧st'.fix=st.fix:=by
 have get : ∀i,i<m→(ops.toList.take m)[i]? = ops.toList[i]? :=fun i hi=>by rw[di,if_pos hi]
 have VX:G9 (ops.toList.take m):=by
  intro i j p q t hij hp hq
  rw[di] at hp hq
  split at hp
  · split at hq
    · exact hu i j p q t hij hp hq
    · cases hq
  · cases hp
 have hlen:(ops.toList.take m).length=m:=by simp;omega
 obtain⟨h1,h2,h3,_,h4⟩:=h.spec VX hn hfr
 rw[hlen] at h1 h2
 have slots : ∀{i:Nat} {T:St},i≤m→ez (ops.toList.take m) (ds.map (·.v)) st i T→ez ops.toList ((ds++dC (ops.size-m) (⟨.aD [],[],[],fun _ _=>false⟩:jF)).map (·.v)) st i T:=by
  intro i T hi ⟨q1,q2,q3,q4,q5⟩
  refine⟨q1,q2,q3,fun j p v t hj hp hv ht=>q4 j p v t hj (by rw[get j (by omega)];exact hp) ?_ ht,fun t ht=>q5 t fun j p hj hp=>ht j p hj ?_⟩
  · rw[List.map_append,od (by simp;omega)] at hv;exact hv
  · rw[get j (by omega)] at hp;exact hp
 refine⟨⟨by simp;omega,slots (aw _) h2,?_,?_,?_⟩,h1,h3,h2.2.2.1⟩
 · rw[PH (by omega),List.take_of_length_le (by omega)];exact h3
 · intro i o ho hi
   obtain⟨d,lp,Bh,Hi,q1,q2,q3,q4,q5,q6,q7⟩:=h4 i o (by rw[get i hi];exact ho)
   refine⟨d,lp,Bh,Hi,by rw[od (by omega)];exact q1,q2,q3,slots (by omega) q4,?_,q6,q7⟩
   rw[PH (by omega)];exact q5
 · intro i e hi he
   rw[Hn (by omega),If] at he
   split at he
   · cases he;rfl
   · cases he
theorem LOk.pad {L:List Nat} {ds:List jF} {n:Nat} (h : ∀(i j:Nat) (d e:jF),j<i→ds[i]? = some d→ds[j]? = some e→c8 (L.getD i 0) j=true∨((∀b∈e.w,b∉d.fp)∧((∀b∈d.w,b∉e.fp)∨WB d e))) :
  LOk L (ds++dC n ⟨.aD [],[],[],fun _ _=>false⟩):=by
 refine⟨fun i j d e hj hd he=> ?_⟩
 rcases be i ds.length with q | q
 · exact h i j d e hj (by rw[od q] at hd;exact hd) (by rw[od (by omega)] at he;exact he)
 · rw[Hn q,If] at hd
   split at hd
   · cases hd
     exact .inr ⟨fun b _=>by simp,.inl fun b hb=>by simp at hb⟩
   · cases hd
theorem aaa {g:Gh} {w:World} {b:Frame} {a:Act} {k:List It} {ops:Array Oper} {f cO:Nat} {O:FuncId→List AV→Mem→Option (AV×Mem)} {st st':St} (hO : ∀g args m v m1,O g args m=some (v,m1)→an P E g args m v m1)
  (hs:dc E g st a w) (h:mZ P E f cO O ops st=some (st',true)) :
  ∀cs,∃g' a' w',Steps P (lone (b.atR a (.code (.region cO ops true)::eM k)) cs w) (lone (b.atR a' (eM (kK cO ops k))) cs w')∧a'.defers=a.defers∧dc E g' st' a' w' ∧
   dU g st.mem w g' st'.mem w'∧bZ g g' st.fix∧st'.fix=st.fix ∧ ∀i c,g.cm i=some c→g'.cm i=some c:=by
 intro cs
 unfold mZ at h
 split at h
 · rename_i Wv nx ds ok hq
   simp only[kb,kp,jn] at h
   obtain⟨rfl,rfl,Qw,Z6,hfree,Gv,Z2⟩:=h
   have Gv:=ae Gv
   have hrun:=xL hO hq
   obtain⟨hQ,_⟩:=zP.of Qw
   obtain⟨afk,afl⟩:=FT ops
   have hL:LOk (masks [] ops.toList) (ds++dC (ops.size-jq ops) ⟨.aD [],[],[],fun _ _=>false⟩):=LOk.pad fun i j d e hj hd he=>za (qN:=[]) Z6 i j d e (acb _) hj hd he
   obtain⟨CN,hr2⟩:=hs.rel.fB (60+ops.size)
   have hs1:dc E g {st with mem:=st.mem++fB (60+ops.size)} a w:=⟨hs.tm,hs.nt,CN,by simp;have:=hs.fix;omega,hs.cX⟩
   have hgd : ∀j,(zt ops.size false).getD j false=false:=by
    intro j
    rw[lv,Hb]
    split<;>rfl
   have hfr:oN st.mem.length (st.mem++fB (60+ops.size)):=by
    intro i hi hl
    rw[Hn hi]
    simp only[fB,List.length_append,List.length_replicate] at hl ⊢
    rw[If,if_pos (by omega)]
   have hnl:st.mem.length≤(st.mem++fB (60+ops.size)).length:=by simp
   obtain⟨hspec,hdl,hmem,rM⟩:=hrun.ac3 afk hQ.uniq hnl hfr
   generalize hds:ds++dC (ops.size-jq ops) (⟨.aD [],[],[],fun _ _=>false⟩:jF)=ds2 at *
   have hI:qO ops (masks [] ops.toList) (ds2.map (·.v)) {st with mem:=st.mem++fB (60+ops.size)} {st with mem:=st.mem++fB (60+ops.size)} (zt ops.size false):=
    ⟨by simp,rfl,rfl,rfl,fun j _ _ _ hj=>(by rw[hgd] at hj;cases hj),fun _ _=>rfl,fun i _ hi=>(by rw[hgd] at hi;cases hi)⟩
   have hM:ng ds2 (st.mem++fB (60+ops.size)) (fun j=>(zt ops.size false).getD j false=true) (st.mem++fB (60+ops.size)):=ng.nil fun j q=>by rw[hgd] at q;cases q
   have hs2:=hs1.drew (w.drawn+1)
   obtain⟨g',a',w',r1,r2,r3,r4,r5,r6⟩:=WD (P:=P) (E:=E) (b:=b) (k:=eM k) cs hQ hL hspec afl ops.size (w.tape w.drawn (.order b.fn cO)) (zt ops.size false) {st with mem:=st.mem++fB (60+ops.size)} a g _ (fh ops.size) hI hM hs2 (by simp) (fun i hi _=>abk.2 hi) (fun i _=>hgd i)
   obtain⟨t1,t2⟩:=r3.rel.trim hfree
   have hlen:Wv.mem.length=st.mem.length+(60+ops.size):=by rw[hmem,pY];simp[fB]
   have rM:Wv.fix=st.fix:=rM
   refine⟨g',a',w',?_,r2,⟨r3.tm,r3.nt,t1,?_,r3.cX⟩,?_,r5,rM,r6⟩
   · refine .head stepR_region_draw ?_
     have Qx:ye (P.follows .mixedOrders) ops (w.tape w.drawn (.order b.fn cO))=acz .any ops ops.size (w.tape w.drawn (.order b.fn cO)) (zt ops.size false) []:=by
      simp only[ye,Z2,if_true,yn]
     rw[Qx]
     unfold kK
     unfold jq at r1
     cases Hl:xB ops with
     |false=>
      rw[Hl] at r1
      simp only[cond_false,acp,Pl] at r1 ⊢
      exact r1.trans (.one stepR_region_end)
     |true=>
      rw[Hl] at r1
      simp only[cond_true] at r1 ⊢
      exact r1
   · have:=hs.fix
     show Wv.fix≤(Wv.mem.take nx).length
     rw[eh,rM]
     omega
   · have hst:dU g (st.mem++fB (60+ops.size)) w g (st.mem++fB (60+ops.size)) {w with drawn:=w.drawn+1}:=⟨aw _,fun _ _ _=>rfl,fun _ _ h=>⟨h,rfl⟩,fun _ _ h=> .inl h,fun _ h=> .inl h,rfl,rfl,rfl⟩
     exact((hr2.trans hst).trans r4).trans t2
 · cases h
def zS (s t:St):Prop:=s.nt=t.nt∧s.fix=t.fix∧s.mem=t.mem ∧ ∀k,look s.tm k=look t.tm k
theorem zS.refl (s:St):zS s s:=⟨rfl,rfl,rfl,fun _=>rfl⟩
theorem Dt {a b:zV} : ∀{l:List Nat},Wf a b l=true → ∀k∈l,look a k=look b k
 |[],_,k,h=>by cases h
 |x::r,h,k,hk=>by
  simp only[Wf,jn] at h
  rcases pB.1 hk with rfl | hk
  · exact kZ h.1
  · exact Dt h.2 k hk
theorem xO : ∀{a:zV} {k:Nat},k∉a.map (·.1)→look a k = .az
 |[],_,_=>rfl
 |(j,v)::r,k,h=>by
  simp only[mi,pB,not_or] at h
  simp only[look]
  cases hb:ai j k with
  |true=>exact absurd (ag hb).symm h.1
  |false=>exact xO h.2
theorem Nd {s t:St} (h:ZC s t=true):zS s t:=by
 simp only[ZC,jn] at h
 obtain⟨h1,h2,_,h3,h4⟩:=h
 refine⟨ag h1,ag h2,lD h3,fun k=> ?_⟩
 by_cases hk:k∈s.tm.map (·.1)++t.tm.map (·.1)
 · exact Dt h4 k hk
 · rw[oE,not_or] at hk
   rw[xO hk.1,xO hk.2]
def Has (l:List Pt) (q:Pt):Prop:= ∃p∈l,p.1=q.1∧zS q.2 p.2
theorem Du {q:Pt} : ∀{l:List Pt},GD q l=true→Has l q
 |[],h=>by cases h
 |p::r,h=>by
  simp only[GD,j1] at h
  rcases h with h | h
  · simp only[acI,jn] at h
    exact⟨p,.head _,(Array.toList_inj.1 (AJ h.1)).symm,Nd h.2⟩
  · obtain⟨x,h1,h2⟩:=Du h
    exact⟨x,.tail _ h1,h2⟩
theorem Dv {q:Pt} {l:List Pt}:Has (GF q l) q ∧ ∀x∈l,x∈GF q l:=by
 unfold GF
 cases h:GD q l with
 |true=>exact⟨Du h,fun _ hx=>hx⟩
 |false=>exact⟨⟨q,.head _,rfl,zS.refl _⟩,fun _ hx=> .tail _ hx⟩
theorem Has.mono {l l':List Pt} {q:Pt} (h:Has l q) (hl : ∀x∈l,x∈l'):Has l' q:=by
 obtain⟨p,h1,h2⟩:=h
 exact⟨p,hl p h1,h2⟩
theorem ze {f:FuncId} {ops:Array Oper} {q:Pt} : ∀{is:List Nat} {l l':List Pt},vl P E f ops q is l=some l' →
  (∀x∈l,x∈l') ∧ ∀i∈is,∃st,LN P E f ops i q.2=some st∧Has l' (q.1.setIfInBounds i true,st)
 |[],l,l',h=>by
  simp only[vl,kb] at h
  subst h
  exact⟨fun _ hx=>hx,fun i hi=>by cases hi⟩
 |i::r,l,l',h=>by
  simp only[vl] at h
  split at h
  · rename_i st hst
    obtain⟨h1,h2⟩:=ze h
    obtain⟨k1,k2⟩:=Dv (q:=(q.1.setIfInBounds i true,st)) (l:=l)
    refine⟨fun x hx=>h1 x (k2 x hx),fun j hj=> ?_⟩
    rcases pB.1 hj with rfl | hj
    · exact⟨st,hst,k1.mono h1⟩
    · exact h2 j hj
  · cases h
theorem sZ {f:FuncId} {ops:Array Oper} : ∀{l acc l':List Pt},level P E f ops l acc=some l' →
  (∀x∈acc,x∈l') ∧ ∀q∈l,(yb .any ops q.1=[]→Has l' q) ∧ ∀i∈yb .any ops q.1,∃st,LN P E f ops i q.2=some st∧Has l' (q.1.setIfInBounds i true,st)
 |[],acc,l',h=>by
  simp only[level,kb] at h
  subst h
  exact⟨fun _ hx=>hx,fun q hq=>by cases hq⟩
 |q::r,acc,l',h=>by
  simp only[level] at h
  split at h
  · rename_i hr
    obtain⟨h1,h2⟩:=sZ h
    obtain⟨k1,k2⟩:=Dv (q:=q) (l:=acc)
    refine⟨fun x hx=>h1 x (k2 x hx),fun p hp=> ?_⟩
    rcases pB.1 hp with rfl | hp
    · exact⟨fun _=>k1.mono h1,fun i hi=>by rw[hr] at hi;cases hi⟩
    · exact h2 p hp
  · rename_i hr
    split at h
    · rename_i l1 hn
      obtain⟨h1,h2⟩:=sZ h
      obtain⟨k1,k2⟩:=ze hn
      refine⟨fun x hx=>h1 x (k1 x hx),fun p hp=> ?_⟩
      rcases pB.1 hp with rfl | hp
      · refine⟨fun e=>absurd e hr,fun i hi=> ?_⟩
        obtain⟨st,q1,q2⟩:=k2 i hi
        exact⟨st,q1,q2.mono h1⟩
      · exact h2 p hp
    · cases h
theorem zS.trans {a b c:St} (h:zS a b) (k:zS b c):zS a c:=⟨h.1.trans k.1,h.2.1.trans k.2.1,h.2.2.1.trans k.2.2.1,fun x=>(h.2.2.2 x).trans (k.2.2.2 x)⟩
theorem dc.like {g:Gh} {w:World} {st st':St} {a:Act} (h:dc E g st a w) (q:zS st st'):dc E g st' a w:=h.same q.2.2.1 q.1 q.2.1 q.2.2.2
theorem vP {f:FuncId} {ops:Array Oper} : ∀(n:Nat) {l l':List Pt},levels P E f ops n l=some l' → ∀q∈l,yb .any ops q.1=[]→Has l' q
 |0,l,l',h,q,hq,_=>by
  simp only[levels,kb] at h
  subst h
  exact⟨q,hq,rfl,zS.refl _⟩
 |n+1,l,l',h,q,hq,hr=>by
  simp only[levels] at h
  split at h
  · rename_i l1 hl
    obtain⟨p,h1,h2,h3⟩:=(((sZ hl).2 q hq).1 hr)
    obtain⟨x,k1,k2,k3⟩:=vP n h p h1 (by rw[h2];exact hr)
    exact⟨x,k1,k2.trans h2,h3.trans k3⟩
  · cases h
theorem Qz {b:Frame} {k:List Item} {f:FuncId} {ops:Array Oper} : ∀(n:Nat) (l l':List Pt),levels P E f ops n l=some l' → ∀(q:Pt),q∈l → ∀(t:Nat) (a:Act) (g:Gh) (w:World),dc E g q.2 a w →
  ∃st'∈l'.map (·.2),∃g' a' w',(∀cs,Steps P (lone (b.atR a (.inRegion ops (acz .any ops n t q.1 [])::k)) cs w) (lone (b.atR a' (.inRegion ops []::k)) cs w'))∧a'.defers=a.defers∧dc E g' st' a' w' ∧
   dU g q.2.mem w g' st'.mem w'∧bZ g g' q.2.fix∧st'.fix=q.2.fix ∧ ∀i c,g.cm i=some c→g'.cm i=some c
 |0,l,l',h,q,hq,t,a,g,w,hs=>by
  simp only[levels,kb] at h
  subst h
  exact⟨q.2,fg.2 ⟨q,hq,rfl⟩,g,a,w,fun cs=>acA _ _,rfl,hs,dU.refl _ _ _,bZ.refl _ _,rfl,fun _ _ q=>q⟩
 |n+1,l,l',h,q,hq,t,a,g,w,hs=>by
  have h0:=h
  simp only[levels] at h
  split at h
  · rename_i l1 hl
    simp only[acz]
    show ∃st'∈l'.map (·.2),∃g' a' w',(∀cs,Steps P (lone (b.atR a (.inRegion ops (match(yb .any ops q.1)[t%(yb .any ops q.1).length]? with
     |some i=>acz .any ops n (t / (yb .any ops q.1).length) (q.1.setIfInBounds i true) [i]
     |none=>[].reverse)::k)) cs w) (lone (b.atR a' (.inRegion ops []::k)) cs w'))∧_
    obtain⟨_,k2⟩:=(sZ hl).2 q hq
    cases hr:(yb .any ops q.1)[t%(yb .any ops q.1).length]? with
    |none=>
     have Qt:yb .any ops q.1=[]:=by
      cases hz:yb .any ops q.1 with
      |nil=>rfl
      |cons x xs=>
       rw[hz] at hr
       have hlt:t%(x::xs).length<(x::xs).length:=rv _ (by simp)
       rw[df hlt] at hr;cases hr
     obtain⟨p,p1,p2,p3⟩:=vP (n+1) h0 q hq Qt
     exact⟨p.2,fg.2 ⟨p,p1,rfl⟩,g,a,w,fun cs=>acA _ _,rfl,hs.like p3,by rw[←p3.2.2.1];exact dU.refl _ _ _,bZ.refl _ _,p3.2.1.symm,fun _ _ q=>q⟩
    |some i=>
     dsimp only
     rw[linearise_go_acc,H2,H3]
     obtain⟨st,he,p,p1,p2,p3⟩:=k2 i (mf hr)
     have p2:p.1=q.1.setIfInBounds i true:=p2
     have p3:zS st p.2:=p3
     unfold LN at he
     split at he
     · cases he
     · rename_i o ho
       split at he
       · rename_i hw
         dsimp only at he
         split at he
         · rename_i v us ok hop
           cases hok:(ok&&fits q.2 o.dst) with
           |false=>rw[hok] at he;cases he
           |true=>
            rw[hok] at he
            simp only[cond_true,kb] at he
            subst he
            simp only[jn] at hok
            obtain⟨rfl,hf⟩:=hok
            have lq:=(sY hs (ops:=ops) (o:=o)).1 hw
            have hres:Rel g (reserve o q.2.mem) w∧dU g q.2.mem w g (reserve o q.2.mem) w:=by
             unfold reserve
             cases makes o with
             |true=>exact hs.rel.reserve
             |false=>exact⟨hs.rel,dU.refl _ _ _⟩
            have hfree:makes o=true→(reserve o q.2.mem)[q.2.mem.length]? = some .free:=by
             intro hm
             simp[reserve,hm]
            obtain⟨cv,w1,g1,k1,k2,k3,k4,k5⟩:=sX hres.1 (iY hs) (fun _=>rfl) hfree hop
            have qC:q.2.fix≤(apply (reserve o q.2.mem) us).length:=by
             rw[fG]
             have:=hs.fix
             unfold reserve
             cases makes o<;>simp<;>omega
            have hs1:=(hs.put hf k2 k4 k3 qC).like p3
            have hm:p.2.mem=apply (reserve o q.2.mem) us:=by rw[←p3.2.2.1,yZ]
            have hx:p.2.fix=q.2.fix:=by rw[←p3.2.1];cases o.dst<;>rfl
            obtain⟨st2,r0,g2,a2,w2,r1,r2,r3,r4,r5,r6,r7⟩:=Qz (b:=b) (k:=k) n l1 l' h p p1 (t / (yb .any ops q.1).length) _ _ _ hs1
            rw[hm] at r4
            rw[hx] at r5 r6
            rw[p2] at r1
            exact⟨st2,r0,g2,a2,w2,fun cs=> .head (vK ho lq k1) (r1 cs),r2.trans put_defers,r3,(hres.2.trans k5).trans r4,(bZ.vI k4 _).trans r5,r6,fun i c q=>r7 i c (k4.cm i c q).1⟩
         · cases he
       · cases he
  · cases h
theorem WG {g:Gh} {w:World} {b:Frame} {a:Act} {k:List Item} {ops:Array Oper} {f cO:Nat} {st:St} {sts:List St} (hs:dc E g st a w) (h:Fq P E f ops st=some sts) :
  ∃st'∈sts,∃g' a' w',(∀cs,Steps P (lone (b.atR a (.code (.region cO ops true)::k)) cs w) (lone (b.atR a' k) cs w'))∧a'.defers=a.defers∧dc E g' st' a' w' ∧
   dU g st.mem w g' st'.mem w'∧bZ g g' st.fix∧st'.fix=st.fix ∧ ∀i c,g.cm i=some c→g'.cm i=some c:=by
 unfold Fq at h
 cases hc:((PY ops||PZ P ops)&&(P.follows .mixedOrders || !Region.departs ops)) with
 |false=>rw[hc] at h;cases h
 |true=>
  rw[hc] at h
  simp only[cond_true,kd] at h
  simp only[jn] at hc
  obtain⟨l',h1,rfl⟩:=h
  obtain⟨st',h2,g',a',w',r1,r2,r3,r4,r5,r6,r7⟩:=Qz (b:=b) (k:=k) _ _ _ h1 (zt ops.size false,st) (.head _) (w.tape w.drawn (.order b.fn cO)) a g _ (hs.drew (w.drawn+1))
  refine⟨st',h2,g',a',w',fun cs=> ?_,r2,r3,?_,r5,r6,r7⟩
  · refine .head stepR_region_draw ?_
    have Qx:ye (P.follows .mixedOrders) ops (w.tape w.drawn (.order b.fn cO))=acz .any ops ops.size (w.tape w.drawn (.order b.fn cO)) (zt ops.size false) []:=by
     simp only[ye,hc.2,if_true,yn]
    rw[Qx]
    exact(r1 cs).trans (.one stepR_region_end)
  · have hst:dU g st.mem w g st.mem {w with drawn:=w.drawn+1}:=⟨aw _,fun _ _ _=>rfl,fun _ _ h=>⟨h,rfl⟩,fun _ _ h=> .inl h,fun _ h=> .inl h,rfl,rfl,rfl⟩
    exact hst.trans r4
end
section
variable {P:Program} {E:Env} {g:Gh} {w:World}
def Nf (a:Act):ResultVar→Sem Value
 |.tmp t=>pure (a.tmps.getD t undef)
 |.cell x t=>do loadVar t (←asAddr (a.tmps.getD x undef))
theorem lR {st:St} {a:Act} (h:dc E g st a w) : ∀{rs:List ResultVar} {vs:List AV},kJ P st rs=some (vs,true) →
  ∃vQ:List Value,(rs.mapM (Nf a)).run P w = .ok vQ w∧dz g w vs vQ
 |[],vs,he=>by
  simp only[kJ,kb,kp,and_true] at he;subst he
  exact⟨[],rfl,trivial⟩
 |.tmp t::rs,vs,he=>by
  simp only[kJ,kd,kp] at he
  obtain⟨⟨us,ok⟩,h1,rfl,rfl⟩:=he
  obtain⟨vQ,k1,k2⟩:=lR h h1
  refine⟨_::vQ,?_,h.tm t,k2⟩
  simp only[abl,kv,Nf,kx,ky,k1]
 |.cell x t::rs,vs,he=>by
  simp only[kJ] at he
  split at he
  · rename_i v ok us oks h1 h2
    simp only[kb,kp,jn] at he
    obtain⟨rfl,rfl,rfl⟩:=he
    obtain⟨c,o,cv,k1,k2,k3⟩:=vv h.rel (h.tm x) h1
    obtain⟨vQ,k4,k5⟩:=lR h h2
    refine⟨cv::vQ,?_,k3,k5⟩
    have ha:(asAddr (.pointer (some ⟨c,o,none⟩))).run P w = .ok ⟨c,o,none⟩ w:=rfl
    have hone:(Nf a (.cell x t)).run P w = .ok cv w:=by simp only[Nf,k1,kv,ha,ky,k2]
    simp only[abl,kv,hone,kx,ky,k4]
  · cases he
theorem Dw {vs:List AV} {vQ:List Value} (h:dz g w vs vQ) : ∃cv,(if h:vQ.toArray.size=1 then vQ.toArray[0] else .tuple vQ.toArray)=cv∧VA g w (one vs) cv:=by
 refine⟨_,rfl,?_⟩
 match vs,vQ,h with
 |[v],[cv],h=>exact h.1
 |[],[],_=>exact VA.pP.2 trivial
 |v::v'::vs,cv::cv'::vQ,h=>
  rw[dif_neg (by simp)]
  exact VA.pP.2 h
theorem Hp {fn:Func} {a:Act} {vQ:List Value} {cv:Value} (h:(fn.results.toList.mapM (Nf a)).run P w = .ok vQ w)
  (hc:(if h:vQ.toArray.size=1 then vQ.toArray[0] else .tuple vQ.toArray)=cv):(results fn a.tmps).run P w = .ok cv w:=by
 have e:results fn a.tmps=(do let vs ←fn.results.mapM (Nf a);pure (if h:vs.size=1 then vs[0] else .tuple vs)):=rfl
 rw[e,Array.mapM_eq_mapM_toList]
 simp only[kv,Sem.run_map,h,ky,kx,hc]
theorem Rel.Dx {m:Mem} (h:Rel g m w) : ∀(F:List Nat),(∀b∈F,∃l,m[b]? = some (.pc l)) →
  ∃g' m',Rel g' m' w∧Ext g w g' w∧dU g m w g' m' w∧g'.cm=g.cm∧g'.lo=g.lo∧g'.hi=g.hi∧m'.length=m.length∧(∀i,i∉F→m'[i]? = m[i]?) ∧
   ∀b∈F,∀l c,m[b]? = some (.pc l)→g.cm b=some c → ∀o,o<l.length→g'.pure c o
 |[],_=>⟨g,m,h,Ext.refl _ _,dU.refl _ _ _,rfl,rfl,rfl,rfl,fun _ _=>rfl,fun _ hb=>by cases hb⟩
 |b::F,hF=>by
  obtain⟨g',m',k1,k2,k3,k4,k5,k6,k7,k8,k9⟩:=Rel.Dx h F fun b hb=>hF b (.tail _ hb)
  by_cases hb:b∈F
  · refine⟨g',m',k1,k2,k3,k4,k5,k6,k7,fun i hi=>k8 i fun q=>hi (.tail _ q),fun b' hb'=> ?_⟩
    cases hb' with
    |head=>exact k9 b hb
    |tail _ hb'=>exact k9 b' hb'
  · obtain⟨l,hl⟩:=hF b (.head _)
    have hl':m'[b]? = some (.pc l):=(k8 b hb).trans hl
    obtain⟨c,cs,e,n,q1,_⟩:=h.cells b _ _ hl rfl
    obtain⟨r1,r2,r3⟩:=k1.Wn hl' (by rw[k4];exact q1)
    refine⟨_,_,r1,k2.trans r2,k3.trans r3,k4,k5,k6,by simp[k7],fun i hi=> ?_,fun b' hb' l' c' aab iS o ho=> ?_⟩
    · have hne:b≠i:=fun e=>hi (e ▸ .head _)
      rw[oe hne]
      exact k8 i fun q=>hi (.tail _ q)
    · cases hb' with
      |head=>
       rw[hl] at aab;cases aab
       rw[q1] at iS;cases iS
       exact .inr ⟨rfl,acb _,ho⟩
      |tail _ hb'=>exact .inl (k9 b' hb' l' c' aab iS o ho)
theorem Ng {m:Mem} {kept:List Nat} {v:AV} : ∀b∈(freeze m kept v).2.2,∃l,m[b]? = some (.pc l):=by
 intro b hb
 unfold freeze at hb
 split at hb
 · rename_i b' off len sz cap
   cases hk:(has kept b'||ai len 0) with
   |true=>simp[hk] at hb
   |false=>
    simp only[hk,cond_false] at hb
    split at hb
    · rename_i l hl
      simp only[List.mem_singleton] at hb
      subst hb
      exact⟨l,getD_some hl (by simp)⟩
    · simp at hb
 · simp at hb
theorem Bm {m:Mem} {kept:List Nat} : ∀{vs:List AV},∀b∈(jm m kept vs).2.2,∃l,m[b]? = some (.pc l)
 |[],b,hb=>by simp[jm] at hb
 |v::vs,b,hb=>by
  simp only[jm,oE] at hb
  rcases hb with hb | hb
  · exact Ng b hb
  · exact Bm b hb
theorem FU {m:Mem} (h:Rel g m w) {g':Gh} (he:Ext g w g' w) {kept:List Nat} {v:AV} {cv:Value} (hv:VA g w v cv) (hok:(freeze m kept v).2.1=true)
  (hp : ∀b∈(freeze m kept v).2.2,∀l c,m[b]? = some (.pc l)→g.cm b=some c → ∀o,o<l.length→g'.pure c o):VA g' w (freeze m kept v).1 cv:=by
 unfold freeze at hok hp ⊢
 split at hok
 · rename_i b off len sz cap
   cases hk:(has kept b||ai len 0) with
   |true=>simp only[cond_true];exact hv.mono he
   |false=>
    simp only[hk,cond_false] at hok hp ⊢
    split at hok
    · rename_i l hl
      simp only[hl] at hp ⊢
      have hl:=getD_some hl (by simp)
      obtain⟨hok,hz⟩:=(jn _ _).mp hok
      have hle:=ae hok
      have hz:=ae hz
      cases hv with
      |ms _ _ _ _ cap c hc hcap=>
      obtain⟨c',cs,e,n,k1,k2,k3,k4,k5⟩:=h.cells b _ _ hl rfl
      rw[hc] at k1;cases k1
      have hlen:=k4.1.len
      simp only[List.length_map,ie] at hlen
      have hpure:=hp b (by simp) l c hl hc
      have hVP:MX g w l cs.toList:=bN.dY (by simpa using k4.1.len) fun i a b=>by
       have:=k4.1.get i (by simpa using a) b
       rw[List.getElem_map,VA.pv] at this
       exact this
      refine .p _ _ (VP.mk (us:=(cs.toList.drop off).take (len*sz)) (bN.mono (fun _ _ q=>VP.mono he.pure q) ((hVP.drop off).take (len*sz))) (by simp;omega) hcap hz fun k v hk=> ?_)
      rw[di] at hk
      split at hk
      · rename_i hlt
        rw[dq] at hk
        have hk':=bX hk
        refine⟨by rw[bG k2];simpa using hk,hpure (off+k) (by omega),k4.2 v (mf hk)⟩
      · cases hk
    · exact hv.mono he
 · exact hv.mono he
theorem uc {m:Mem} (h:Rel g m w) {g':Gh} (he:Ext g w g' w) {kept:List Nat} : ∀{vs:List AV} {vQ:List Value},dz g w vs vQ→(jm m kept vs).2.1=true →
  (∀b∈(jm m kept vs).2.2,∀l c,m[b]? = some (.pc l)→g.cm b=some c → ∀o,o<l.length→g'.pure c o)→dz g' w (jm m kept vs).1 vQ
 |[],[],_,_,_=>trivial
 |v::vs,cv::vQ,hv,hok,hp=>by
  simp only[jm,jn,oE] at hok hp ⊢
  exact⟨FU h he hv.1 hok.1 fun b hb=>hp b (.inl hb),uc h he hv.2 hok.2 fun b hb=>hp b (.inr hb)⟩
 |[],_::_,h,_,_=>h.elim
 |_::_,[],h,_,_=>h.elim
theorem Bn : ∀{l ord:List Nat},Fo l ord=true → ∀i∈l,i∉ord
 |[],_,_,_,h=>by cases h
 |j::l,ord,h,i,hi=>by
  simp only[Fo,jn,ka] at h
  cases hi with
  |head=>exact fun q=>by rw[LY.2 q] at h;cases h.1
  |tail _ hi=>exact Bn h.2 i hi
theorem Bo {c:cw} {b:Frame} {a:Act} {todo:List Item} (hs:dc E g c.st a w) (hrb:fQ g c.st.cR b) (Bb : ∀i,c.st.cR ≠ .round i) (Ba:b.fn=c.f) (hd:a.defers=[]) {fr:Frame}
  (hst : ∀cs,Steps P (lone fr cs w) (lone {b.atR a todo with mode:= .returning} cs w)):FN P E g c fr w (pM P c):=by
 unfold pM
 split
 · rename_i fn hfn
   split
   · rename_i vs ok hres
     intro hok cs
     simp only[jn] at hok
     obtain⟨⟨rfl,hfz⟩,hni⟩:=hok
     obtain⟨vQ,k1,k2⟩:=lR hs hres
     obtain⟨g',m',r1,r2,r3,r4,r5,r6,r7,r8,r9⟩:=hs.rel.Dx _ (Bm (m:=c.st.mem) (kept:=close c.st.mem c.st.fix []) (vs:=vs))
     have k3:=uc hs.rel r2 k2 hfz r9
     obtain⟨cv,hcv,_⟩:=Dw k2
     obtain⟨cv',afn,k4⟩:=Dw k3
     have:cv'=cv:=afn.symm.trans hcv
     subst this
     have hrun:=Hp (P:=P) k1 hcv
     generalize aiE:jm c.st.mem (close c.st.mem c.st.fix []) vs=fz at *
     obtain⟨hnd,rM⟩:=gu c.st.mem c.st.fix [one fz.1]
     generalize Qw:close c.st.mem c.st.fix [one fz.1]=ord at *
     have hpk:Am.pack c.st.mem ord=Am.pack m' ord:=by
      unfold Am.pack
      refine Hm fun i hi=> ?_
      rw[de,de,r8 i fun q=>Bn hni i q hi]
     obtain⟨p1,p2⟩:=r1.pack hnd
     have hlen:c.st.fix≤ord.length:=by
      rcases abZ c.st.fix with e | e
      · omega
      · have:=bX (rM (c.st.fix-1) (by omega));omega
     refine⟨g'.pack ord,_,w,hst cs,?_,?_,?_,rfl,rfl,rfl⟩
     · refine⟨Ba,cv',w,?_,?_,?_,dU.refl _ _ _,?_⟩
       · show Qn P c.st.cR {b.atR a todo with mode:= .returning} w cv' w
         have ac4:P.funcs[b.fn]? = some fn:=by rw[Ba];exact hfn
         generalize c.st.cR=r at hrb Bb
         cases r with
         |call=>exact⟨⟨rfl,hd,hrb.1,fn,ac4,hrun⟩,rfl⟩
         |late=>exact⟨⟨⟨rfl,hd,fn,ac4,hrun⟩,hrb.1⟩,rfl⟩
         |round i=>exact absurd rfl (Bb i)
       · simp only[look,rl,cond_true]
         exact k4.kr (dS.pack g' ord)
       · show Rel (g'.pack ord) (Am.pack c.st.mem ord) w
         rw[hpk];exact p1
       · show c.st.fix≤(Am.pack c.st.mem ord).length
         simpa[Am.pack] using hlen
     · refine r3.trans ⟨aw _,fun _ _ _=>rfl,fun _ _ p=>⟨p,rfl⟩,fun _ _ p=> .inl p,fun c' ho=> .inl (p2 c' ?_),rfl,rfl,rfl⟩
       have ho:jU (g'.pack ord) (Am.pack c.st.mem ord) c':=ho
       rw[hpk] at ho;exact ho
     · intro k c' hk iS
       have:=rM k hk
       simp[Gh.pack,this,r4,r5,r6,iS]
   · trivial
 · trivial
theorem vR {r:Nat} {w:World} (h:w.heap[r]? = some (.deferred (some []))):(Instr.takeDeferred r).run P w = .ok [] {w with heap:=w.heap.setIfInBounds r (.deferred none)}:=by
 simp[Instr.takeDeferred,kv,getObj,setObj,Sem.run,h,Result.andThen]
theorem L5 {b:Frame} {a:Act} {todo:List Item} : ∀{mk:List Mark} {ds:List Deferred} {st:St} {m:Mem} {w:World},pN mk st.mem=some m→Mk g mk ds→dc E g st a w →
  ∃w',(∀cs,Steps P (lone {b.atR {a with defers:=ds} todo with mode:= .returning} cs w) (lone {b.atR {a with defers:=[]} todo with mode:= .returning} cs w')) ∧
   dc E g {st with mem:=m,dj:=[]} {a with defers:=[]} w'∧dU g st.mem w g m w'
 |[],[],st,m,w,h,_,hs=>by
  simp only[pN,kb] at h
  subst h
  exact⟨w,fun cs=>acA _ _,⟨hs.tm,hs.nt,hs.rel,hs.fix,hs.cX⟩,dU.refl _ _ _⟩
 |.late .. :: mk,_,st,m,w,h,hm,hs=>by
  simp only[pN] at h
  cases h
 |.range i::mk,d::ds,st,m,w,h,hm,hs=>by
  simp only[pN] at h
  split at h
  · rename_i hb
    obtain⟨⟨D,hD,rfl⟩,hm⟩:=hm
    have hib:=getD_some hb (by simp)
    obtain⟨c,ob,vs,k1,k2,k3,k4,_⟩:=hs.rel.obs i _ _ hib
    rw[hD] at k1;cases k1
    obtain⟨rfl,_⟩:=k4
    obtain⟨e1,e2,e3⟩:=dF w (o':= .deferred none) k2
    obtain⟨r1,r2,r3⟩:=hs.rel.jV (JH:= .shut) (l':=[]) (vs':=[]) hib hD e1 e2 rfl rfl rfl e3 ⟨rfl,rfl⟩ trivial
    have hs':dc E g {st with mem:=st.mem.set i (.ob .shut [])} a {w with heap:=w.heap.setIfInBounds D (.deferred none)}:=
     ⟨fun k=>(hs.tm k).mono r2,hs.nt,r1,by simpa using hs.fix,hs.cX.mono r2.pure⟩
    obtain⟨w',q1,q2,q3⟩:=L5 (st:={st with mem:=st.mem.set i (.ob .shut [])}) h hm hs'
    refine⟨w',fun cs=> .head ?_ (q1 cs),q2,r3.trans q3⟩
    exact step_collected (fr:={b.atR {a with defers:={target:= .collected D,args:= #[]}::ds} todo with mode:= .returning}) (fun e=>by cases e) rfl rfl (vR k2)
  · cases h
 |[],_::_,_,_,_,_,hm,_=>hm.elim
 |.range _::_,[],_,_,_,_,hm,_=>hm.elim
theorem QA {f:FuncId} {fa ca:Array Value} {fn:Func} (hf:P.funcs[f]? = some fn) (hb:fn.body.isSome=true) (hn:(fn.name == "runtime.NumGoroutine")=false) :
  (invoke (.fn (.func f) ca) fa).run P w = .ok (.enter f (fa++ca)) w:=by
 have Y5:fn.body.isNone=false:=by cases hq:fn.body<;>simp_all
 simp only[invoke,callFunc,kv,run_program,ky,hf,hn,pD,if_false,Y5,kx]
theorem xP : ∀{l:List (Nat×Nat)} {cs:List Value},Mps g l cs→dz g w (mps l) cs
 |[],[],_=>trivial
 |(b,off)::l,_::cs,h=>by
  obtain⟨⟨c,h1,h2⟩,h3⟩:=h
  exact⟨by rw[h2];exact .mp b off c h1,xP h3⟩
 |[],_::_,h=>h.elim
 |_::_,[],h=>h.elim
theorem Hq (cv:Option Value):settle (dG cv true) = .returning:=by cases cv<;>rfl
theorem L6 {c:cw} {b:Frame} {a:Act} {todo:List Item} {gf:FuncId} {first caps:List (Nat×Nat)} {pv:Option AV} {vJ:Option Value} {d:Deferred}
  (hs:dc E g c.st a w) (hrb:fQ g c.st.cR b) (Bb : ∀i,c.st.cR ≠ .round i) (Ba:b.fn=c.f) (hd:a.defers=[d]) (hm:Mark.Ok g (.late gf first caps) d) (M4:Qp g w pv vJ) {fr:Frame}
  (hst : ∀cs,Steps P (lone fr cs w) (lone {b.atR a todo with mode:=dG vJ false} cs w)):FN P E g c fr w (Fp c pv gf first caps):=by
 unfold Fp
 obtain⟨fa,ca,h1,h2,rfl⟩:=hm
 have hargs:dz g w (mps first++mps caps) (fa++ca).toList:=by
  rw[Fs]
  exact(xP h1).append (xP h2)
 dsimp only
 generalize mps first++mps caps=args at *
 obtain⟨hnd,_⟩:=gu c.st.mem 0 (pv.toList++args)
 generalize close c.st.mem 0 (pv.toList++args)=ord at *
 cases hlt:lC ord c.st.mem.length with
 |false=>trivial
 |true=>
  intro m1 gT cs
  obtain⟨⟨fn,Ws,Wt,Wu⟩,gT⟩:=gT
  obtain⟨Ql,Qm⟩:=hs.rel.pack hnd
  have pW:=dS.pack g ord
  have afo:Qp (g.pack ord) w (pv.map (kr (idx ord))) vJ:=by
   cases pv with
   |none=>cases vJ with
    |none=>exact trivial
    |some v=>exact M4.elim
   |some u=>cases vJ with
    |none=>exact M4.elim
    |some v=>exact VA.kr pW M4
  obtain⟨w',g',cv,fr',q1,q2,q3,q5,q6,q7,q8⟩:=gT (g.pack ord) w (fa++ca) vJ {b.atR {a with defers:=[]} todo with mode:=dG vJ false} cs rfl afo Ql (dz.kr pW hargs) (hs.cX.mono fun _ _ p=>⟨p,rfl⟩)
  have hlen:(Am.pack c.st.mem ord).length=ord.length:=by simp[Am.pack]
  rw[hlen] at q7 q8
  obtain⟨r1,r2,r3,r4⟩:=hs.rel.back hnd (iz hlt) q5 q6 q7 q8
  have J0:=step_defer (P:=P) (fr:={b.atR a todo with mode:=dG vJ false}) (cs:=cs) (w:=w) (ds:=[]) (by cases vJ<;>exact fun e=>by cases e) hd rfl (QA Ws Wt Wu)
  have hleave:=step_going_returned (P:=P) (c:={b.atR {a with defers:=[]} todo with mode:=dG vJ true}) (cs:=cs) q3 q2
  have qC:c.st.fix≤(dR (bI ord c.st.mem.length) ord m1 c.st.mem).length:=by
   rw[eR _ _ _ _ q8];have:=hs.fix;omega
  refine⟨_,{b.atR {a with defers:=[]} todo with mode:= .returning},w',(hst cs).trans (.head J0 (q1.trans (.one ?_))),⟨b,{a with defers:=[]},todo,rfl,Ba,hrb.ext fun i c q=>(r2.cm i c q).1,Bb,rfl,rfl,⟨fun k=>(hs.tm k).mono r2,hs.nt,r1,qC,hs.cX.mono r2.pure⟩⟩,r3,bZ.vI r2 _,rfl,rfl,rfl⟩
  rw[hleave]
  simp only[Hq]
theorem Nh {c:cw} {b:Frame} {a:Act} {todo:List Item} {u:AV} {cv:Value} (hs:dc E g c.st a w) (hrb:fQ g c.st.cR b) (Ba:b.fn=c.f) (hd:Mk g c.st.dj a.defers) (hu:VA g w u cv) :
  FN P E g c {b.atR a todo with mode:=dG (some cv) false} w (AB P c u):=by
 unfold AB
 split
 · trivial
 · rename_i Bb
   have Bb : ∀i,c.st.cR ≠ .round i:=fun i e=>Bb i e
   split
   · rename_i hmk
     split
     · rename_i fn hfn
       intro cs
       have hds:a.defers=[]:=by
        rw[hmk] at hd
        cases hq:a.defers with
        |nil=>rfl
        |cons _ _=>rw[hq] at hd;exact hd.elim
       obtain⟨hnd,rM⟩:=gu c.st.mem c.st.fix [u]
       generalize close c.st.mem c.st.fix [u]=ord at *
       obtain⟨p1,p2⟩:=hs.rel.pack hnd
       have hlen:c.st.fix≤ord.length:=by
        rcases abZ c.st.fix with e | e
        · omega
        · have:=bX (rM (c.st.fix-1) (by omega));omega
       refine⟨g.pack ord,_,w,acA _ _,⟨Ba,cv,⟨rfl,hds,fn,?_⟩,hu.kr (dS.pack g ord),p1,?_⟩,?_,?_,rfl,rfl,rfl⟩
       · show P.funcs[b.fn]? = some fn
         rw[Ba];exact hfn
       · show c.st.fix≤(Am.pack c.st.mem ord).length
         simpa[Am.pack] using hlen
       · exact⟨aw _,fun _ _ _=>rfl,fun _ _ p=>⟨p,rfl⟩,fun _ _ p=> .inl p,fun c' ho=> .inl (p2 c' ho),rfl,rfl,rfl⟩
       · intro k c' hk iS
         have:=rM k hk
         simp[Gh.pack,this,iS]
     · trivial
   · rename_i gf first caps hmk
     rw[hmk] at hd
     cases hq:a.defers with
     |nil=>rw[hq] at hd;exact hd.elim
     |cons d ds=>
      rw[hq] at hd
      obtain⟨hd1,hd2⟩:=hd
      cases ds with
      |nil=>exact L6 (pv:=some u) (vJ:=some cv) hs hrb Bb Ba hq hd1 hu fun cs=>acA _ _
      |cons _ _=>exact hd2.elim
   · trivial
theorem Dy {c:cw} {b:Frame} {a:Act} {todo:List Item} (hs:dc E g c.st a w) (hrb:fQ g c.st.cR b) (Bb : ∀i,c.st.cR ≠ .round i) (Ba:b.fn=c.f) (hd:Mk g c.st.dj a.defers) {fr:Frame}
  (hst : ∀cs,Steps P (lone fr cs w) (lone {b.atR a todo with mode:= .returning} cs w)):FN P E g c fr w (ending P c):=by
 have key : ∀m,pN c.st.dj c.st.mem=some m→FN P E g c fr w (pM P {c with st:={c.st with mem:=m,dj:=[]}}):=by
  intro m hm
  obtain⟨w',q1,q2,q3⟩:=L5 (P:=P) (b:=b) (todo:=todo) hm hd hs
  have h1:=Bo (P:=P) (E:=E) (c:={c with st:={c.st with mem:=m,dj:=[]}}) (b:=b) (a:={a with defers:=[]}) (todo:=todo) q2 hrb Bb Ba rfl (fr:={b.atR {a with defers:=[]} todo with mode:= .returning}) fun cs=>acA _ _
  unfold pM at h1 ⊢
  split
  · rename_i fn hfn
    rw[hfn] at h1
    simp only at h1
    split
    · rename_i vs ok hres
      simp only[hres] at h1
      intro hok cs
      obtain⟨g',fr',w2,s1,s2,s3,s4,s5,s6,s7⟩:=h1 hok cs
      exact⟨g',fr',w2,((hst cs).trans (q1 cs)).trans s1,s2,q3.trans s3,s4,s5,s6,s7⟩
    · trivial
  · trivial
 unfold ending
 split
 · rename_i hmk
   have h:=key c.st.mem (by rw[hmk];rfl)
   have e:({c with st:={c.st with mem:=c.st.mem,dj:=[]}}:cw)=c:=by
    obtain⟨f,t,st⟩:=c
    obtain⟨tm,nt,mem,fix,dj,cR⟩:=st
    simp only at hmk
    subst hmk
    rfl
   rw[e] at h
   exact h
 · rename_i gf first caps hmk
   rw[hmk] at hd
   cases hq:a.defers with
   |nil=>rw[hq] at hd;exact hd.elim
   |cons d ds=>
    rw[hq] at hd
    obtain⟨hd1,hd2⟩:=hd
    cases ds with
    |nil=>exact L6 (pv:=none) (vJ:=none) hs hrb Bb Ba hq hd1 trivial hst
    |cons _ _=>exact hd2.elim
 · split
   · rename_i m hm
     exact key m hm
   · trivial
end
section
variable {P:Program} {E:Env} {g:Gh} {w:World}
theorem L7 (m:Mem) (b b':bf):(m++[b]).set m.length b'=m++[b']:=by
 rw[List.set_append_right _ _ (aw _)];simp
theorem J1 {st:St} {a:Act} (h:dc E g st a w):dz g w ((upTo st.nt).map (look st.tm)) a.tmps.toList:=by
 refine bN.dY (by simp[h.nt,lG]) fun i hi hi'=> ?_
 have hu:(upTo st.nt)[i]? = some i:=A8 st.nt i (by simpa[lG] using hi)
 have e:((upTo st.nt).map (look st.tm))[i]=look st.tm i:=by
  have:((upTo st.nt).map (look st.tm))[i]? = some (look st.tm i):=by rw[en,hu];rfl
  rw[df hi] at this
  exact kc this
 rw[e]
 have:=h.tm i
 rw[lv,ic (by simpa using hi')] at this
 simpa using this
theorem Ni {st:St} {a:Act} (hs:dc E g st a w) (f:FuncId) (ps:Array Tmp) (as bd:Code) :
  ∃g',Rel g' (eH st f ps as bd) ((w.alloc (.deferred (some []))).alloc (.loop {state:= .ready,pending:=none,fn:=f,tmps:=a.tmps,params:=ps,assign:=as,body:=bd,defers:=w.heap.size})) ∧
   Ext g w g' ((w.alloc (.deferred (some []))).alloc (.loop {state:= .ready,pending:=none,fn:=f,tmps:=a.tmps,params:=ps,assign:=as,body:=bd,defers:=w.heap.size})) ∧
   dU g st.mem w g' (eH st f ps as bd) ((w.alloc (.deferred (some []))).alloc (.loop {state:= .ready,pending:=none,fn:=f,tmps:=a.tmps,params:=ps,assign:=as,body:=bd,defers:=w.heap.size})) ∧
   g'.cm st.mem.length=some w.heap.size∧g'.cm (st.mem.length+1)=some (w.heap.size+1):=by
 obtain⟨r1,s1⟩:=hs.rel.reserve
 obtain⟨r2,e2,s2⟩:=r1.Af (i:=st.mem.length) (ob:= .MQ) (l:=[]) (vs:=[]) (by simp) trivial (fN w (.deferred (some []))) ⟨rfl,rfl⟩
 rw[L7] at r2 s2
 obtain⟨r3,s3⟩:=r2.reserve
 have hv:=(J1 hs).mono e2
 obtain⟨r4,e4,s4⟩:=r3.Af (i:=st.mem.length+1) (ob:= .loop f ps as bd .ready none) (l:=(upTo st.nt).map (look st.tm)) (vs:=a.tmps.toList)
  (by simp) hv (fN _ (.loop {state:= .ready,pending:=none,fn:=f,tmps:=a.tmps,params:=ps,assign:=as,body:=bd,defers:=w.heap.size})) ⟨w.heap.size,by simp⟩
 have hl:(st.mem++[bf.ob .MQ []]).length=st.mem.length+1:=by simp
 have hse:=L7 (st.mem++[bf.ob .MQ []]) .free (.ob (.loop f ps as bd .ready none) ((upTo st.nt).map (look st.tm)))
 rw[hl] at hse
 rw[hse] at r4 s4
 refine⟨_,r4,e2.trans e4,s1.trans (s2.trans (s3.trans s4)),?_,?_⟩
 · have:=(e4.cm st.mem.length w.heap.size (by simp[Gh.put])).1
   exact this
 · simp[Gh.put]
theorem CQ {a:Act} {x:Operand} {f:FuncId} {fa ca:Array Value} {l:Nat} (hx:a.eval x = .func (.func f) fa ca)
  {fn:Func} (hf:P.funcs[f]? = some fn) (hb:fn.body.isSome=true) (hn:(fn.name == "runtime.NumGoroutine")=false) :
  ∃d,(resolve a.eval (rangeCall x l) 0).run P w = .ok d w∧(invoke d.target d.args).run P w = .ok (.enter f (fa ++ #[.func (.yield l) #[] #[]]++ca)) w:=by
 have Y5:fn.body.isNone=false:=by cases hq:fn.body<;>simp_all
 refine⟨{target:= .fn (.func f) ca,args:=fa ++ #[.func (.yield l) #[] #[]]},?_,?_⟩
 · simp only[resolve,hx,xi,kx]
   have e:Array.map a.eval #[Operand.const (Value.func (Fn.yield l) #[] #[])] = #[Value.func (Fn.yield l) #[] #[]]:=by simp[Act.eval]
   rw[e]
 · simp only[invoke,callFunc,kv,run_program,ky,hf,hn,pD,if_false,Y5,kx]
theorem Hr {m m':Mem} {L l:Nat} {pd:Option Code} (h:Rel g m w) (hl:g.cm L=some l) (he:iV m L=some (m',pd)) :
  ∃w',(Instr.endLoop l).run P w = .ok pd w'∧Rel g m' w'∧Ext g w g w'∧dU g m w g m' w':=by
 unfold iV at he
 split at he
 · rename_i f ps as bd st L8 vals hb
   have hib:=getD_some hb (by simp)
   obtain⟨c,ob,vs,k1,k2,k3,k4,_⟩:=h.obs L _ _ hib
   rw[hl] at k1;cases k1
   obtain⟨D,rfl⟩:=k4
   have fin:st ≠ .busy→some (m.set L (.ob (.loop f ps as bd .exhausted L8) vals),L8)=some (m',pd) → ∃w',(Instr.endLoop l).run P w = .ok pd w'∧Rel g m' w'∧Ext g w g w'∧dU g m w g m' w':=by
    intro hst e
    simp only[kb,kp] at e
    obtain⟨rfl,rfl⟩:=e
    obtain⟨e1,e2,e3⟩:=dF w (o':= .loop {state:= .exhausted,pending:=L8,fn:=f,tmps:=vs.toArray,params:=ps,assign:=as,body:=bd,defers:=D}) k2
    obtain⟨r1,r2,r3⟩:=h.jV (JH:= .loop f ps as bd .exhausted L8) (l':=vals) (vs':=vs) hib hl e1 e2 rfl rfl rfl e3 ⟨D,rfl⟩ k3
    exact⟨_,run_endLoop k2 hst,r1,r2,r3⟩
   cases st with
   |busy=>cases he
   |ready=>exact fin (fun e=>by cases e) he
   |done=>exact fin (fun e=>by cases e) he
   |exhausted=>exact fin (fun e=>by cases e) he
 · cases he
theorem QB {st:St} {a:Act} {b:Frame} {k:List Item} {x:Operand} {ps:Array Tmp} {as bd:Code} {gf:FuncId} {first captured:List AV} {v:AV} {m1 m2:Mem} {pd:Option Code}
  (hs:dc E g st a w) (hr:b.roundOf=none) (hd:Mk g st.dj a.defers) (hx:ev E st.tm x = .fn (.func gf) first captured)
  (hlt:lC (close (eH st b.fn ps as bd) 0 (first++[.vy (st.mem.length+1)]++captured)) (eH st b.fn ps as bd).length=true)
  (gT:an P E gf (fL (idx (close (eH st b.fn ps as bd) 0 (first++[.vy (st.mem.length+1)]++captured))) (first++[.vy (st.mem.length+1)]++captured))
    (pack (eH st b.fn ps as bd) (close (eH st b.fn ps as bd) 0 (first++[.vy (st.mem.length+1)]++captured))) v m1)
  (hend:iV (back (close (eH st b.fn ps as bd) 0 (first++[.vy (st.mem.length+1)]++captured)) none {st with mem:=eH st b.fn ps as bd} v m1).mem (st.mem.length+1)=some (m2,pd)) :
  ∀cs,∃g' a' w',Steps P (lone (b.atR a (.code (.rangeFunc x ps as bd)::k)) cs w) (lone (b.atR a' ((pd.map Item.code).toList++k)) cs w') ∧
   Mk g' (.range st.mem.length::st.dj) a'.defers∧dc E g' {st with mem:=m2,dj:= .range st.mem.length::st.dj} a' w'∧dU g st.mem w g' m2 w'∧bZ g g' st.fix ∧ ∀i c,g.cm i=some c→g'.cm i=some c:=by
 intro cs
 obtain⟨g1,r1,e1,s1,d1,d2⟩:=Ni hs b.fn ps as bd
 generalize hM:eH st b.fn ps as bd=M at *
 generalize hW:(w.alloc (.deferred (some []))).alloc (.loop {state:= .ready,pending:=none,fn:=b.fn,tmps:=a.tmps,params:=ps,assign:=as,body:=bd,defers:=w.heap.size})=W at *
 have hlM:st.mem.length+2≤M.length:=by rw[←hM];simp[eH]
 have CE:=iY hs x
 rw[hx,VA.fns] at CE
 obtain⟨fa,ca,CE,ZZ,hca⟩:=CE
 obtain⟨⟨fn,Ws,Wt,Wu⟩,gT⟩:=gT
 obtain⟨d,hres,hinv⟩:=CQ (P:=P) (w:=W) (l:=w.heap.size+1) CE Ws Wt Wu
 have J0:=stepR_rangeFunc (P:=P) (b:=b) (a:=a) (k:=k) (cs:=cs) (w:=w) (g:=x) (ps:=ps) (assign:=as) (body:=bd) (w₁:=W) (by rw[hr,←hW];exact run_enterLoop_outer _ _ _ _ _) hres hinv
 have hargs:dz g1 W (first++[.vy (st.mem.length+1)]++captured) (fa ++ #[Value.func (.yield (w.heap.size+1)) #[] #[]]++ca).toList:=by
  simp only[Fs]
  have hy:dz g1 W [.vy (st.mem.length+1)] [Value.func (.yield (w.heap.size+1)) #[] #[]]:=⟨.vy _ _ d2,trivial⟩
  exact((ZZ.mono e1).append hy).append (hca.mono e1)
 generalize first++[.vy (st.mem.length+1)]++captured=args at *
 obtain⟨hnd,_⟩:=gu M 0 args
 generalize close M 0 args=ord at *
 obtain⟨Ql,Qm⟩:=r1.pack hnd
 have pW:=dS.pack g1 ord
 have ac5:iO E g1 W:=hs.cX.mono e1.pure
 obtain⟨w',g',cv,fr,q1,q2,q3,q4,q5,q6,q7,q8⟩:=gT (g1.pack ord) W _ (b.atR {a with defers:=[{target:= .collected w.heap.size,args:= #[]}]++a.defers} (.inRangeFunc (w.heap.size+1)::k)::cs) Ql
  (dz.kr pW hargs) (ac5.mono fun _ _ p=>⟨p,rfl⟩)
 have hlen:(Am.pack M ord).length=ord.length:=by simp[Am.pack]
 rw[hlen] at q7 q8
 obtain⟨r2,e2,s2,r4⟩:=r1.back hnd (iz hlt) q5 q6 q7 q8
 have hmem:(back ord none {st with mem:=M} v m1).mem=dR (bI ord M.length) ord m1 M:=rfl
 rw[hmem] at hend
 have hL:(g1.back g' ord M.length).cm (st.mem.length+1)=some (w.heap.size+1):=(e2.cm _ _ d2).1
 obtain⟨w2,f1,f2,f3,f4⟩:=Hr (P:=P) r2 hL hend
 have hleave:=step_leave_returned (P:=P) (c:=b.atR {a with defers:=[{target:= .collected w.heap.size,args:= #[]}]++a.defers} (.inRangeFunc (w.heap.size+1)::k)) (cs:=cs) q2
 rw[finish_atR_inRangeFunc] at hleave
 have Hs:Ext g w (g1.back g' ord M.length) w2:=(e1.trans e2).trans f3
 have hm2:st.fix≤m2.length:=by
  have uB:=eR (bI ord M.length) ord m1 M q8
  have PA:m2.length=(dR (bI ord M.length) ord m1 M).length:=by
   unfold iV at hend
   split at hend
   · split at hend
     · cases hend
     · simp only[kb,kp] at hend
       obtain⟨rfl,_⟩:=hend
       simp
   · cases hend
  have:=hs.fix
  omega
 refine⟨g1.back g' ord M.length,{a with defers:=[{target:= .collected w.heap.size,args:= #[]}]++a.defers},w2,.head J0 (q1.trans (.head hleave (.one (stepR_endRangeFunc f1)))),?_,?_,s1.trans (s2.trans f4),bZ.vI Hs _,fun i c q=>(Hs.cm i c q).1⟩
 · exact⟨⟨w.heap.size,(e2.cm _ _ d1).1,rfl⟩,hd.ext fun i c q=>(Hs.cm i c q).1⟩
 · exact⟨fun j=>(hs.tm j).mono Hs,hs.nt,f2,hm2,hs.cX.mono Hs.pure⟩
end
section
variable {P:Program} {E:Env} {g:Gh} {w:World}
theorem eD {id:Nat} : ∀{k k':List It},cS id k=some k'→exitTo id (eM k)=some (eM k')
 |[],_,h=>by simp[cS] at h
 |.inBlock i::k,k',h=>by
  simp only[cS] at h
  cases hb:ai i id with
  |true=>
   simp only[hb,cond_true,kb] at h;subst h
   have:=ag hb
   subst this
   simp[eM,er,exitTo]
  |false=>
   simp only[hb,cond_false] at h
   have hne:(i==id)=false:=by
    rw[beq_eq_false_iff_ne];intro e;subst e;simp[rl] at hb
   simp only[eM,er,H5,H0,exitTo,hne,pD,if_false]
   exact eD h
 |.code _ _::k,k',h=>by
  simp only[cS] at h
  simpa[eM,er,exitTo] using eD h
 |.ops _ _ _ _::k,k',h=>by
  simp only[cS] at h
  simpa[eM,er,exitTo] using eD h
 |.inLoop _ _::k,k',h=>by
  simp only[cS] at h
  simpa[eM,er,exitTo] using eD h
 |.forget _::k,k',h=>by
  simp only[cS] at h
  simpa[eM,er] using eD h
 |.fin::k,k',h=>by
  simp only[cS] at h
  simpa[eM,er] using eD h
 |.Cu _::k,k',h=>by
  simp only[cS] at h
  simpa[eM,er] using eD h
 |.jT _::k,k',h=>by
  simp only[cS] at h
  simpa[eM,er] using eD h
 |.leave::k,k',h=>by
  simp only[cS] at h
  simpa[eM,er] using eD h
 |.begin::k,k',h=>by
  simp only[cS] at h
  simpa[eM,er,exitTo] using eD h
 |.inScope _::k,k',h=>by
  simp only[cS] at h
  simpa[eM,er,exitTo] using eD h
theorem dM {id:Nat} : ∀{k:List It},cS id k=none→exitTo id (eM k)=none
 |[],_=>rfl
 |.inBlock i::k,h=>by
  simp only[cS] at h
  cases hb:ai i id with
  |true=>simp[hb] at h
  |false=>
   simp only[hb,cond_false] at h
   have hne:(i==id)=false:=by
    rw[beq_eq_false_iff_ne];intro e;subst e;simp[rl] at hb
   simp only[eM,er,H5,H0,exitTo,hne,pD,if_false]
   exact dM h
 |.code _ _::k,h=>by
  simp only[cS] at h
  simpa[eM,er,exitTo] using dM h
 |.ops _ _ _ _::k,h=>by
  simp only[cS] at h
  simpa[eM,er,exitTo] using dM h
 |.inLoop _ _::k,h=>by
  simp only[cS] at h
  simpa[eM,er,exitTo] using dM h
 |.forget _::k,h=>by
  simp only[cS] at h
  simpa[eM,er] using dM h
 |.fin::k,h=>by
  simp only[cS] at h
  simpa[eM,er] using dM h
 |.Cu _::k,h=>by
  simp only[cS] at h
  simpa[eM,er] using dM h
 |.jT _::k,h=>by
  simp only[cS] at h
  simpa[eM,er] using dM h
 |.leave::k,h=>by
  simp only[cS] at h
  simpa[eM,er] using dM h
 |.begin::k,h=>by
  simp only[cS] at h
  simpa[eM,er,exitTo] using dM h
 |.inScope _::k,h=>by
  simp only[cS] at h
  simpa[eM,er,exitTo] using dM h
theorem eE {l:Nat} : ∀{k k':List It},fX l k=some k'→gotoIn l (eM k)=some (eM k')
 |[],_,h=>by simp[fX] at h
 |.inScope b::k,k',h=>by
  simp only[fX] at h
  simp only[eM,er,H5,H0,gotoIn]
  cases hf:findLabel b l with
  |some rest=>
   simp only[hf,kb] at h;subst h
   rfl
  |none=>
   simp only[hf] at h
   exact eE h
 |.code _ _::k,k',h=>by
  simp only[fX] at h
  simpa[eM,er,gotoIn] using eE h
 |.ops _ _ _ _::k,k',h=>by
  simp only[fX] at h
  simpa[eM,er,gotoIn] using eE h
 |.inBlock _::k,k',h=>by
  simp only[fX] at h
  simpa[eM,er,gotoIn] using eE h
 |.inLoop _ _::k,k',h=>by
  simp only[fX] at h
  simpa[eM,er,gotoIn] using eE h
 |.forget _::k,k',h=>by
  simp only[fX] at h
  simpa[eM,er] using eE h
 |.fin::k,k',h=>by
  simp only[fX] at h
  simpa[eM,er] using eE h
 |.Cu _::k,k',h=>by
  simp only[fX] at h
  simpa[eM,er] using eE h
 |.jT _::k,k',h=>by
  simp only[fX] at h
  simpa[eM,er] using eE h
 |.leave::k,k',h=>by
  simp only[fX] at h
  simpa[eM,er] using eE h
 |.begin::k,k',h=>by
  simp only[fX] at h
  simpa[eM,er,gotoIn] using eE h
theorem uG {l:Nat} : ∀{k k':List It},(∀x∈k,It.pl x)→fX l k=some k' → ∀x∈k',It.pl x
 |[],_,_,h=>by simp[fX] at h
 |x::k,k',hf,h=>by
  have ht : ∀y∈k,It.pl y:=fun y hy=>hf y (.tail _ hy)
  cases x with
  |inScope b=>
   simp only[fX] at h
   cases hl:findLabel b l with
   |some rest=>
    simp only[hl,kb] at h;subst h
    intro y hy
    cases hy with
    |head=>exact trivial
    |tail _ hy=>exact hf y hy
   |none=>
    simp only[hl] at h
    exact uG ht h
  |_=>simp only[fX] at h;exact uG ht h
theorem uH {id:Nat} : ∀{k k':List It},(∀x∈k,It.pl x)→cS id k=some k' → ∀x∈k',It.pl x
 |[],_,_,h=>by simp[cS] at h
 |x::k,k',hf,h=>by
  have ht : ∀y∈k,It.pl y:=fun y hy=>hf y (.tail _ hy)
  cases x with
  |inBlock i=>
   simp only[cS] at h
   cases hb:ai i id with
   |true=>simp only[hb,cond_true,kb] at h;subst h;exact ht
   |false=>simp only[hb,cond_false] at h;exact uH ht h
  |_=>simp only[cS] at h;exact uH ht h
theorem Ht {g':Gh} {ρ:Nat→Option Nat} {f:Nat→Value} : ∀(keep:List Nat) (tm:zV),(∀k,VA g' w (kr ρ (look tm k)) (f k)) → ∀k,VA g' w (look (keep.zip (fL ρ (keep.map (look tm)))) k) (f k)
 |[],tm,_,k=> .az _
 |i::keep,tm,h,k=>by
  simp only[mi,fL,PQ,mO]
  by_cases e:i=k
  · subst e;simp only[if_true];exact h i
  · simp only[e,if_false];exact Ht keep tm h k
theorem Bp {keep:List Nat} {st:St}:(forget keep st).cR=st.cR:=by
 obtain⟨tm,nt,mem,fix,dj,cR⟩:=st
 cases dj with
 |cons i l=>rfl
 |nil=>cases cR<;>rfl
theorem zf {keep:Option (List Nat)} {st:St}:(kY keep st).cR=st.cR:=by
 cases keep with
 |none=>rfl
 |some keep=>exact Bp
theorem Dz {st:St} {a:Act} (h:dc E g st a w) (keep:List Nat) : ∃g',dc E g' (forget keep st) a w∧dU g st.mem w g' (forget keep st).mem w∧bZ g g' st.fix∧(forget keep st).fix=st.fix∧(∀ds,Mk g st.dj ds→Mk g' (forget keep st).dj ds) ∧ ∀b,fQ g st.cR b→fQ g' (forget keep st).cR b:=by
 obtain⟨tm,nt,mem,fix,dj,cR⟩:=st
 have stay:forget keep ⟨tm,nt,mem,fix,dj,cR⟩=⟨tm,nt,mem,fix,dj,cR⟩→_:=fun this=>(show ∃g',dc E g' (forget keep ⟨tm,nt,mem,fix,dj,cR⟩) a w∧dU g mem w g' (forget keep ⟨tm,nt,mem,fix,dj,cR⟩).mem w∧bZ g g' fix∧(forget keep ⟨tm,nt,mem,fix,dj,cR⟩).fix=fix∧(∀ds,Mk g dj ds→Mk g' (forget keep ⟨tm,nt,mem,fix,dj,cR⟩).dj ds) ∧ ∀b,fQ g cR b→fQ g' (forget keep ⟨tm,nt,mem,fix,dj,cR⟩).cR b from by
  rw[this]
  exact⟨g,h,dU.refl _ _ _,bZ.refl _ _,rfl,fun _ q=>q,fun _ q=>q⟩)
 cases dj with
 |cons i dj=>exact stay rfl
 |nil=>
  cases cR with
  |round i=>exact stay rfl
  |late=>exact stay rfl
  |call=>
   obtain⟨hnd,rM⟩:=gu mem fix (keep.map (look tm))
   obtain⟨h1,h2⟩:=h.rel.pack hnd
   have hlen:fix≤(close mem fix (keep.map (look tm))).length:=by
    rcases abZ fix with e | e
    · omega
    · have:=bX (rM (fix-1) (by omega));omega
   refine⟨g.pack (close mem fix (keep.map (look tm))),⟨Ht keep tm fun k=>(h.tm k).kr (dS.pack g _),h.nt,h1,?_,h.cX.mono fun _ _ p=>⟨p,rfl⟩⟩,?_,?_,rfl,?_,fun _ q=>q⟩
   · show fix≤(Am.pack mem _).length
     simpa[Am.pack] using hlen
   · exact⟨aw _,fun _ _ _=>rfl,fun _ _ p=>⟨p,rfl⟩,fun _ _ p=> .inl p,fun c ho=> .inl (h2 c ho),rfl,rfl,rfl⟩
   · intro k c hk hc
     have:=rM k hk
     simp[Gh.pack,this,hc]
   · intro ds hd
     cases ds with
     |nil=>exact trivial
     |cons _ _=>exact hd.elim
theorem Bq {st:St} {a:Act} (h:dc E g st a w) (keep:Option (List Nat)) : ∃g',dc E g' (kY keep st) a w∧dU g st.mem w g' (kY keep st).mem w∧bZ g g' st.fix∧(kY keep st).fix=st.fix∧(∀ds,Mk g st.dj ds→Mk g' (kY keep st).dj ds) ∧ ∀b,fQ g st.cR b→fQ g' (kY keep st).cR b:=by
 cases keep with
 |none=>exact⟨g,h,dU.refl _ _ _,bZ.refl _ _,rfl,fun _ q=>q,fun _ q=>q⟩
 |some keep=>exact Dz h keep
theorem rN (keep:Option (List Nat)) (k:List It):eM (fT keep k)=eM k:=by cases keep<;>rfl
theorem rO {keep:Option (List Nat)} {k:List It} (h : ∀x∈k,It.pl x) : ∀x∈fT keep k,It.pl x:=by
 cases keep with
 |none=>exact h
 |some keep=>
  intro x hx
  cases hx with
  |head=>exact trivial
  |tail _ hx=>exact h x hx
theorem Br {st:St} {a:Act} {i l:Nat} {f:FuncId} {ps:Array Tmp} {as bd:Code} {s s':LoopState} {pd L8:Option Code} {vals:List AV}
  (h:dc E g st a w) (hl:g.cm i=some l) (hb:st.mem.getD i .dead = .ob (.loop f ps as bd s pd) vals) :
  ∃r:Loop,w.heap[l]? = some (.loop r)∧r.state=s ∧
   Rel g (st.mem.set i (.ob (.loop f ps as bd s' L8) vals)) (w.putObj l (.loop {r with state:=s',pending:=L8})) ∧
   Ext g w g (w.putObj l (.loop {r with state:=s',pending:=L8})) ∧
   dU g st.mem w g (st.mem.set i (.ob (.loop f ps as bd s' L8) vals)) (w.putObj l (.loop {r with state:=s',pending:=L8})) ∧
   jU g st.mem l:=by
 have hib:=getD_some hb (by simp)
 obtain⟨c,ob,vs,k1,k2,k3,k4,_⟩:=h.rel.obs i _ _ hib
 rw[hl] at k1;cases k1
 obtain⟨D,rfl⟩:=k4
 obtain⟨e1,e2,e3⟩:=dF w (o':= .loop {state:=s',pending:=L8,fn:=f,tmps:=vs.toArray,params:=ps,assign:=as,body:=bd,defers:=D}) k2
 obtain⟨r1,r2,r3⟩:=h.rel.jV (JH:= .loop f ps as bd s' L8) (l':=vals) (vs':=vs) hib hl e1 e2 rfl rfl rfl e3 ⟨D,rfl⟩ k3
 exact⟨_,k2,rfl,r1,r2,r3,i,_,hib,rfl,hl⟩
theorem rP {c:cw} {b:Frame} {a:Act} {i l:Nat} {jump:Option Code} {todo:List Item} (hs:dc E g c.st a w) (hrn:c.st.cR = .round i) (hl:g.cm i=some l) (Ba:b.fn=c.f)
  (hst : ∀(v:Value) (w':World),(Instr.endRound l jump).run P w = .ok v w' → ∀(d:Frame) (cs:List Frame),_root_.Go.step P (lone (b.atR a todo) (d::cs) w) = .next (lone (d.finish v) cs w')) :
  FN P E g c (b.atR a todo) w (qY c i jump):=by
 unfold qY
 split
 · rename_i f ps as bd s pd vals hb
   dsimp only
   cases hlt:bx i c.st.fix with
   |false=>trivial
   |true=>
   rw[db] at hlt
   intro cs
   obtain⟨r,q1,_,q2,q3,q4,q5⟩:=Br (s':=iW jump) (L8:=jump) hs hl hb
   have hrun:=run_endRound (P:=P) jump q1
   have aac:(if jump.isNone then LoopState.ready else .done)=(iW jump):=by cases jump<;>rfl
   rw[aac] at hrun
   generalize hm:c.st.mem.set i (.ob (.loop f ps as bd (iW jump) jump) vals)=m at *
   obtain⟨hnd,rM⟩:=gu m c.st.fix []
   generalize Qw:close m c.st.fix []=ord at *
   obtain⟨p1,p2⟩:=q2.pack hnd
   have hlen:c.st.fix≤ord.length:=by
    rcases abZ c.st.fix with e | e
    · omega
    · have:=bX (rM (c.st.fix-1) (by omega));omega
   have own : ∀c',jU (g.pack ord) (Am.pack m ord) c'→jU g c.st.mem c':=fun c' ho=>(q4.owned c' (p2 c' ho)).elim id fun hh=>by
    have h1:=q2.oH (p2 c' ho)
    rw[World.putObj_size] at h1
    omega
   refine⟨g.pack ord,_,w,acA _ _,⟨Ba,.bool jump.isNone,_,?_,.p _ _ (.sc _),p1,?_,?_⟩,?_,?_,rfl,rfl,rfl⟩
   · show Qn P c.st.cR _ w _ _
     rw[hrn]
     exact fun d cs=> .one (hst _ _ hrun d cs)
   · have hol:jU (g.pack ord) (Am.pack m ord) l:=by
      have hi:=rM i hlt
      have him:m[i]? = some (.ob (.loop f ps as bd (iW jump) jump) vals):=by
       rw[←hm,nc (bX (getD_some hb (by simp)))]
      refine⟨i,gX (idx ord) (.ob (.loop f ps as bd (iW jump) jump) vals),?_,rfl,by simp[Gh.pack,hi,hl]⟩
      unfold Am.pack
      rw[en,hi]
      simp[de,him]
     exact⟨by simp,fun c' _ hno=>World.putObj_heap_other fun e=>hno (e▸hol),fun c' o p=>⟨p,(q4.pure c' o p).2⟩,fun _ _ p=> .inl p,fun _ ho=> .inl ho,rfl,rfl,rfl⟩
   · show c.st.fix≤(Am.pack m ord).length
     simpa[Am.pack] using hlen
   · exact⟨aw _,fun _ _ _=>rfl,fun _ _ p=>⟨p,rfl⟩,fun _ _ p=> .inl p,fun c' ho=> .inl (own c' ho),rfl,rfl,rfl⟩
   · intro k c' hk iS
     have:=rM k hk
     simp[Gh.pack,this,iS]
 · trivial
theorem jY {c:cw} {fr:Frame} (h:dZ P E g c fr w):FN P E g c fr w (Am.step P E c):=by
 obtain⟨f,todo,st⟩:=c
 cases todo with
 |nil=>
  obtain⟨b,a,rfl,h1,h2,h3,h4,_⟩:=h
  simp only[Am.step]
  split
  · rename_i i hr
    rw[hr] at h2
    obtain⟨hk,l,hl,hro⟩:=h2
    exact rP (c:=⟨f,[],st⟩) h4 hr hl h1 fun v w' hrun d cs=>stepR_round_end hro hk hrun
  · rename_i Bb
    have Bb : ∀i,st.cR ≠ .round i:=fun i e=>Bb i e
    exact Dy (c:=⟨f,[],st⟩) (b:=b) (a:=a) (todo:=[]) h4 h2 Bb h1 h3 fun cs=> .one (stepR_end (h2.FL Bb))
 |cons x k=>
  by_cases rI:It.pl x
  case neg=>
   cases x with
   |fin=>
    obtain⟨h1,cv,w2,h2,h3,h4,h6,h5⟩:=h
    exact⟨h1,rfl,cv,w2,h2,h3,h4,h6,h5⟩
   |Cu u=>
    obtain⟨h1,cv,h2,h3,h4,h5⟩:=h
    exact⟨h1,rfl,cv,h2,h3,h4,h5⟩
   |jT u=>
    obtain⟨b,a,todo,cv,rfl,h1,h2,h3,h4,h5⟩:=h
    exact Nh (c:=⟨f,.jT u::k,st⟩) h4 h2 h1 h3 h5
   |leave=>
    obtain⟨b,a,todo,rfl,h1,h2,h3,_,h5,h6⟩:=h
    exact Bo (c:=⟨f,.leave::k,st⟩) (b:=b) (a:=a) (todo:=todo) h6 h2 h3 h1 h5 fun cs=>acA _ _
   |_=>exact absurd trivial rI
  have h' : ∃(b:Frame) (a:Act),fr=b.atR a (er x++eM k)∧b.fn=f∧fQ g st.cR b∧Mk g st.dj a.defers∧dc E g st a w ∧ ∀y∈x::k,It.pl y:=by
   cases x<;>first
    |exact absurd rI id
    |exact h
  obtain⟨b,a,rfl,h1,h2,h3,h4,hxk⟩:=h'
  have hk : ∀y∈k,It.pl y:=fun y hy=>hxk y (.tail _ hy)
  clear h
  cases x with
  |fin=>exact absurd rI id
  |Cu u=>exact absurd rI id
  |jT u=>exact absurd rI id
  |leave=>exact absurd rI id
  |begin=>
   simp only[Am.step]
   split
   · rename_i i hr
     unfold AD
     split
     · rename_i f' ps as bd pd vals hb
       intro cs
       have h2':=h2
       rw[hr] at h2'
       obtain⟨_,l,hl,hro⟩:=h2'
       obtain⟨r,q1,q0,q2,q3,q4,_⟩:=Br (s':= .busy) (L8:=pd) h4 hl hb
       have hp:r.pending=pd:=by
        have hib:=getD_some hb (by simp)
        obtain⟨c,ob,vs,k1,k2,k3,k4,_⟩:=h4.rel.obs i _ _ hib
        rw[hl] at k1;cases k1
        obtain⟨D,rfl⟩:=k4
        rw[q1] at k2;cases k2
        rfl
       have hrun:=run_beginRound (P:=P) q1 q0
       rw[show({r with state:= .busy}:Loop)={r with state:= .busy,pending:=pd} by rw[←hp]] at hrun
       refine⟨g,_,_,.one (stepR_beginRound hro hrun),dZ.mk (a:=a) (c:=⟨f,k,{st with mem:=st.mem.set i (.ob (.loop f' ps as bd .busy pd) vals)}⟩) hk h1 h2 h3 ⟨fun j=>(h4.tm j).mono q3,h4.nt,q2,by simpa using h4.fix,h4.cX.mono q3.pure⟩,q4,bZ.refl _ _,rfl,rfl,rfl⟩
     · trivial
   · trivial
  |inScope bd=>exact fY.quiet (fun cs=> .one (step_lone_go (by simp[stepG,zr,yr,er]))) hk h1 rfl h2 h3 h4 rfl rfl
  |inBlock id=>exact fY.quiet (fun cs=> .one stepR_inBlock) hk h1 rfl h2 h3 h4 rfl rfl
  |forget keep=>
   intro cs
   obtain⟨g',q1,q2,q3,q4,q5,q6⟩:=Dz h4 keep
   exact⟨g',_,w,acA _ _,dZ.mk (c:=⟨f,k,forget keep st⟩) hk h1 (q6 _ h2) (q5 _ h3) q1,q2,q3,rfl,q4,Bp⟩
  |inLoop i body=>
   intro cs
   obtain⟨g',q1,q2,q3,q4,q5,q6⟩:=Bq h4 (E.keep f (2*i))
   exact⟨g',_,w,.one stepR_inLoop,dZ.mk (c:=⟨f,.code (i+1) body :: .inLoop i body::k,kY (E.keep f (2*i)) st⟩) (nf trivial (nf trivial hk)) h1 (q6 _ h2) (q5 _ h3) q1,q2,q3,rfl,q4,zf⟩
  |ops cO ops i sure=>
   simp only[Am.step]
   cases ho:ops[i]? with
   |none=>
    have hi:ops.size-i=0:=by
     have:ops.size≤i:=by
      rcases be i ops.size with q | q
      · rw[ic q] at ho;cases ho
      · exact q
     omega
    refine fY.quiet (c':=⟨f,k,st⟩) (fun cs=> .one ?_) hk h1 rfl h2 h3 h4 rfl rfl
    simp only[er,hi,Pl,H5,H0]
    exact stepR_region_end
   |some o=>
    obtain⟨w1,w2,w3⟩:=sY h4 (ops:=ops) (o:=o)
    have hi:i<ops.size:=by
     rcases be i ops.size with q | q
     · exact q
     · rw[il q] at ho;cases ho
    have skip:xf o (yielded ops a.tmps)=false→fits st o.dst=true→fY P E g ⟨f,.ops cO ops i sure::k,st⟩ (b.atR a (er (.ops cO ops i sure)++eM k)) w ⟨f,.ops cO ops (i+1) false::k,put st o.dst (.aD [])⟩:=by
     intro hw hf cs
     have hst:=stepR_op_skip (P:=P) (b:=b) (a:=a) (k:=eM k) (cs:=cs) (w:=w) (ops:=ops) (i:=i) (rest:=pw (i+1) (ops.size-(i+1))) (by simp[ho,hw])
     simp only[ho,s0] at hst
     rw[←rH hi] at hst
     have hp:=h4.put (v:= .aD []) (cv:=undef) hf (VA.pP.2 trivial) (Ext.refl g w) h4.rel h4.fix
     refine⟨g,_,w,.one hst,dZ.mk (a:=a.put o.dst undef) (c:=⟨f,.ops cO ops (i+1) false::k,put st o.dst (.aD [])⟩) (nf trivial hk) h1 (h2.put (Ext.refl g w) rfl) (h3.put (Ext.refl g w) rfl) hp,?_,bZ.refl _ _,rfl,?_,mF⟩
     · have:(put st o.dst (.aD [])).mem=st.mem:=by unfold Am.put;cases o.dst<;>rfl
       show dU g st.mem w g (put st o.dst (.aD [])).mem w
       rw[this];exact dU.refl _ _ _
     · show(put st o.dst (.aD [])).fix=st.fix
       unfold Am.put;cases o.dst<;>rfl
    dsimp only
    cases JU:fA ops st.tm o with
    |yes=>exact L3 (c:=⟨f,.ops cO ops i sure::k,st⟩) h4 h1 h2 h3 ho (w1 JU) hk
    |no=>
     dsimp only
     cases hf:fits st o.dst with
     |false=>trivial
     |true=>exact skip (w2 JU) hf
    |lost=>trivial
    |ask d bb want=>
     obtain⟨q1,q2⟩:=w3 d bb want JU
     dsimp only
     cases sure with
     |false=>
      have known : ∀b':Bool,bb=b'→fY P E g ⟨f,.ops cO ops i false::k,st⟩ (b.atR a (er (.ops cO ops i false)++eM k)) w ⟨f,.ops cO ops i true::k,put st (some d) (sB b')⟩:=by
       intro b' e
       subst e
       refine fY.quiet (c':=⟨f,.ops cO ops i true::k,put st (some d) (sB bb)⟩) (fun cs=>acA _ _) (nf trivial hk) h1 rfl h2 h3 (h4.known ?_) rfl rfl
       rw[q2];exact .p _ _ (.sc _)
      exact⟨known true,known false⟩
     |true=>
      dsimp only
      cases hb:bb==want with
      |true=>exact L3 (c:=⟨f,.ops cO ops i true::k,st⟩) h4 h1 h2 h3 ho (q1.trans hb) hk
      |false=>
       dsimp only
       cases hf:fits st o.dst with
       |false=>trivial
       |true=>exact skip (q1.trans hb) hf
  |code i code=>
   cases code with
   |skip=>exact fY.quiet (c':=⟨f,k,st⟩) (fun cs=> .one stepR_skip) hk h1 rfl h2 h3 h4 rfl rfl
   |region id ops draw=>
    cases draw with
    |true=>
     simp only[Am.step]
     split
     · rename_i st' ok hq
       intro hok cs
       subst hok
       obtain⟨g',a',w',r1,r2,r3,r4,r5,r6,r7⟩:=Wz (b:=b) (k:=eM k) h4 hq
       refine⟨g',_,w',r1 cs,dZ.mk (a:=a') (c:=⟨f,k,{st' with dj:=st.dj,cR:=st.cR}⟩) hk h1 (h2.ext r7) (by rw[r2];exact h3.ext r7) ⟨r3.tm,r3.nt,r3.rel,r3.fix,r3.cX⟩,r4,r5,rfl,r6,rfl⟩
     · split
       · rename_i sts hq
         obtain⟨st',hm,g',a',w',r1,r2,r3,r4,r5,r6,r7⟩:=WG (b:=b) (k:=eM k) (cO:=id) h4 hq
         intro cs
         exact⟨_,fg.2 ⟨st',hm,rfl⟩,g',_,w',r1 cs,dZ.mk (a:=a') (c:=⟨f,k,{st' with dj:=st.dj,cR:=st.cR}⟩) hk h1 (h2.ext r7) (by rw[r2];exact h3.ext r7) ⟨r3.tm,r3.nt,r3.rel,r3.fix,r3.cX⟩,r4,r5,rfl,r6,rfl⟩
       intro O st' hO hq cs
       obtain⟨g',a',w',r1,r2,r3,r4,r5,r6,r7⟩:=aaa (b:=b) (k:=k) hO h4 hq cs
       have hk' : ∀y∈kK id ops k,It.pl y:=by
        unfold kK
        cases xB ops with
        |false=>exact hk
        |true=>exact nf trivial hk
       exact⟨g',_,w',r1,dZ.mk (a:=a') (c:=⟨f,kK id ops k,{st' with dj:=st.dj,cR:=st.cR}⟩) hk' h1 (h2.ext r7) (by rw[r2];exact h3.ext r7) ⟨r3.tm,r3.nt,r3.rel,r3.fix,r3.cX⟩,r4,r5,rfl,r6,rfl⟩
    |false=>
     refine fY.quiet (c':=⟨f,.ops id ops 0 false::k,st⟩) (fun cs=> .one ?_) (nf trivial hk) h1 rfl h2 h3 h4 rfl rfl
     have:=stepR_region (P:=P) (b:=b) (a:=a) (k:=eM k) (cs:=cs) (w:=w) (ops:=ops) (id:=id)
     simpa[eM,er,H4] using this
   |seq x y=>exact fY.quiet (c':=⟨f,.code i x :: .code (i+nodes x) y::k,st⟩) (fun cs=> .one stepR_seq) (nf trivial (nf trivial hk)) h1 rfl h2 h3 h4 rfl rfl
   |cond x y z=>
    simp only[Am.step]
    split
    · rename_i t hx
      have hv:=iY h4 x
      rw[hx,VA.pv] at hv
      generalize hz:a.eval x=cv at hv
      cases hv
      refine⟨fun e=> ?_,fun e=> ?_⟩<;>subst e
      · refine fY.quiet (c':=⟨f,.code (i+1) y::fT (E.keep f (2*i)) k,st⟩) (fun cs=> .one ?_) (nf trivial (rO hk)) h1 rfl h2 h3 h4 rfl rfl
        simp only[eM,rN];exact stepR_cond hz
      · refine fY.quiet (c':=⟨f,.code (i+1+nodes y) z::fT (E.keep f (2*i)) k,st⟩) (fun cs=> .one ?_) (nf trivial (rO hk)) h1 rfl h2 h3 h4 rfl rfl
        simp only[eM,rN];exact stepR_cond hz
    · trivial
   |block id body=>exact fY.quiet (c':=⟨f,.code i body :: .inBlock id::k,st⟩) (fun cs=> .one stepR_block) (nf trivial (nf trivial hk)) h1 rfl h2 h3 h4 rfl rfl
   |loop body=>
    intro cs
    obtain⟨g',q1,q2,q3,q4,q5,q6⟩:=Bq h4 (E.keep f (2*i))
    refine⟨g',b.atR a (eM (.code (i+1) body :: .inLoop i body::fT (E.keep f (2*i+1)) k)),w,.one ?_,dZ.mk (c:=⟨f,.code (i+1) body :: .inLoop i body::fT (E.keep f (2*i+1)) k,kY (E.keep f (2*i)) st⟩) (nf trivial (nf trivial (rO hk))) h1 (q6 _ h2) (q5 _ h3) q1,q2,q3,rfl,q4,zf⟩
    simp only[eM,rN];exact stepR_loop
   |exit id=>
    simp only[Am.step]
    split
    · rename_i k' hk'
      exact fY.quiet (c':=⟨f,k',st⟩) (fun cs=> .one (stepR_exit (eD hk'))) (uH hk hk') h1 rfl h2 h3 h4 rfl rfl
    · rename_i hx
      split
      · rename_i j hr
        rw[hr] at h2
        obtain⟨hk,l,hl,hro⟩:=h2
        exact rP (c:=⟨f,.code i (.exit id)::k,st⟩) h4 hr hl h1 fun v w' hrun d cs=>stepR_round_exit hro hk (dM hx) hrun
      · trivial
   |scope bd=>exact fY.quiet (c':=⟨f,.code i bd :: .inScope bd::k,st⟩) (fun cs=> .one (step_lone_go (by simp[stepG,zr,yr,eM,er]))) (nf trivial (nf trivial hk)) h1 rfl h2 h3 h4 rfl rfl
   |label l=>exact fY.quiet (c':=⟨f,k,st⟩) (fun cs=> .one stepR_label) hk h1 rfl h2 h3 h4 rfl rfl
   |goto l=>
    simp only[Am.step]
    split
    · rename_i k' hk'
      exact fY.quiet (c':=⟨f,k',st⟩) (fun cs=> .one (stepR_goto (eE hk'))) (uG hk hk') h1 rfl h2 h3 h4 rfl rfl
    · trivial
   |rangeFunc x ps as bd=>
    simp only[Am.step]
    split
    · rename_i hr
      have h2':=h2
      rw[hr] at h2'
      unfold LM
      split
      · rename_i gf first captured hx
        dsimp only
        cases hlt:lC (close (eH st f ps as bd) 0 (first++[.vy (st.mem.length+1)]++captured)) (eH st f ps as bd).length with
        |false=>trivial
        |true=>
         subst h1
         intro v m1 hd m2 pd hend cs
         obtain⟨g',a',w',s1,s2,s3,s4,s5,s6⟩:=QB (P:=P) (k:=eM k) h4 h2'.2 h3 hx hlt hd hend cs
         have e:(pd.map Item.code).toList++eM k=eM (behind ⟨b.fn,k,{st with mem:=eH st b.fn ps as bd,dj:= .range st.mem.length::st.dj}⟩ m2 pd).todo:=by
          cases pd<;>rfl
         rw[e] at s1
         refine⟨g',_,w',s1,dZ.mk (a:=a') (c:=behind ⟨b.fn,k,{st with mem:=eH st b.fn ps as bd,dj:= .range st.mem.length::st.dj}⟩ m2 pd) ?_ rfl (h2.ext s6) s2 s3,s4,s5,rfl,rfl,rfl⟩
         cases pd with
         |none=>exact hk
         |some code=>exact nf trivial hk
      · trivial
    · trivial
   |ret=>
    simp only[Am.step]
    split
    · rename_i j hr
      rw[hr] at h2
      obtain⟨hk,l,hl,hro⟩:=h2
      exact rP (c:=⟨f,.code i .ret::k,st⟩) h4 hr hl h1 fun v w' hrun d cs=>stepR_round_ret hro hk hrun
    · rename_i Bb
      have Bb : ∀i,st.cR ≠ .round i:=fun i e=>Bb i e
      exact Dy (c:=⟨f,.code i .ret::k,st⟩) (b:=b) (a:=a) (todo:= .code .ret::eM k) h4 h2 Bb h1 h3 fun cs=> .one (stepR_ret (h2.FL Bb))
   |_=>trivial
end
def ju (P:Program):Prop:= ∀(f:FuncId) (fn:Func),P.funcs[f]? = some fn→(fn.name == "runtime.NumGoroutine")=false
def bp (P:Program) (E:Env) (c:cw) (o:Out):Prop:=
 ∀(g:Gh) (fr:Frame) (w:World) (cs:List Frame),dZ P E g c fr w→match o with
  |.ret v m'=> ∃g' fr' w' cv w2,Steps P (lone fr cs w) (lone fr' cs w')∧Qn P c.st.cR fr' w' cv w2∧fr'.fn=c.f∧VA g' w2 v cv∧Rel g' m' w2∧dU g c.st.mem w g' m' w2∧bZ g g' c.st.fix∧c.st.fix≤m'.length
  |.Co v m'=> ∃g' fr' w' cv,Steps P (lone fr cs w) (lone fr' cs w')∧fr'.leaving P w' (.panicked [{v:=cv,recovered:=false}])∧fr'.fn=c.f∧VA g' w' v cv∧Rel g' m' w'∧dU g c.st.mem w g' m' w'∧bZ g g' c.st.fix∧c.st.fix≤m'.length
section
variable {P:Program} {E:Env}
theorem bp.bL {c c':cw} {o:Out} (hg : ∀g fr w,dZ P E g c fr w→fY P E g c fr w c') (h:bp P E c' o):bp P E c o:=by
 intro g fr w cs hc
 obtain⟨g',fr',w',q1,q2,q3,q4,q5,q6,q7⟩:=hg g fr w hc cs
 cases o with
 |ret v m'=>
  obtain⟨g2,WH,w2,cv,w3,r1,r2,r3,r4,r5,r6,r7,r8⟩:=h g' fr' w' cs q2
  refine⟨g2,WH,w2,cv,w3,q1.trans r1,by rw[←q7];exact r2,r3.trans q5,r4,r5,q3.trans r6,q4.trans ?_,by rw[←q6];exact r8⟩
  rw[←q6];exact r7
 |Co v m'=>
  obtain⟨g2,WH,w2,cv,r1,r2,r3,r4,r5,r6,r7,r8⟩:=h g' fr' w' cs q2
  refine⟨g2,WH,w2,cv,q1.trans r1,r2,r3.trans q5,r4,r5,q3.trans r6,q4.trans ?_,by rw[←q6];exact r8⟩
  rw[←q6];exact r7
theorem uI : ∀n,upTo n=fh n
 |0=>rfl
 |n+1=>by rw[upTo,uI n,List.range_succ]
theorem uJ : ∀(l:List AV) (s k:Nat),look ((pw s l.length).zip l) k=if s≤k then l.getD (k-s) .az else .az
 |[],s,k=>by simp[look]
 |v::l,s,k=>by
  simp only[List.length_cons,List.range'_succ,PQ,mO]
  by_cases e:s=k
  · subst e;simp
  · simp only[e,if_false]
    rw[uJ l (s+1) k]
    by_cases h:s+1≤k
    · have h1:s≤k:=by omega
      have h2:k-s=(k-(s+1))+1:=by omega
      simp[h,h1,h2]
    · have h1 : ¬s≤k:=by omega
      simp[h,h1]
def J2:Bool→YX
 |false=> .call
 |true=> .late
def kindOf:Bool→CallKind
 |false=> .normal
 |true=> .deferred
theorem dZ.QC {g:Gh} {w:World} {f:FuncId} {args:List AV} {m:Mem} {c:cw} {dL:Array Value} (z:Bool) (hi:init P f args m=some c) (hr:Rel g m w) (ha:dz g w args dL.toList) (hg:iO E g w) :
  dZ P E g {c with st:={c.st with cR:=J2 z}} (xc P f dL (kindOf z)) w:=by
 unfold init at hi
 split at hi
 · rename_i fn hf
   split at hi
   · rename_i body hb
     simp only[kb] at hi;subst hi
     have hlen:=ha.len
     simp only[ie] at hlen
     let b:Frame:={(default:Frame) with fn:=f,kind:=kindOf z,roundOf:=none}
     have hen:xc P f dL (kindOf z)=b.atR {tmps:=dL++zt (fn.ntmps-dL.size) undef,defers:=[]} [.code body]:=by
      simp[xc,yr,hf,hb,b]
     rw[hen]
     refine dZ.mk (c:=⟨f,[.code 0 body],⟨(upTo args.length).zip args,max fn.ntmps args.length,m,m.length,[],J2 z⟩⟩) (nf trivial (fun _ h=>by cases h)) rfl (by cases z<;>exact⟨rfl,rfl⟩) trivial ⟨?_,?_,hr,aw _,hg⟩
     · intro k
       rw[uI,H4,uJ]
       simp only[acb,if_true,acv]
       rcases be k args.length with hk | hk
       · rw[de,df hk]
         have hk':k<dL.toList.length:=by simp;omega
         have hk2:k<dL.size:=by omega
         have:=ha.get k hk hk'
         simp only[km,lv]
         rw[Array.getElem?_append_left hk2,ic hk2]
         simpa using this
       · rw[de,dT hk]
         exact .az _
     · simp;omega
   · cases hi
 · cases hi
theorem vS {f:FuncId} {args:List AV} {m:Mem} {c:cw} (hi:init P f args m=some c):c.st.mem=m∧c.st.fix=m.length∧c.f=f∧c.st.cR = .call:=by
 unfold init at hi
 split at hi
 · split at hi
   · simp only[kb] at hi;subst hi;exact⟨rfl,rfl,rfl,rfl⟩
   · cases hi
 · cases hi
theorem dZ.enter {g:Gh} {w:World} {f:FuncId} {args:List AV} {m:Mem} {c:cw} {dL:Array Value} (hi:init P f args m=some c) (hr:Rel g m w) (ha:dz g w args dL.toList) (hg:iO E g w) :
  dZ P E g c (xc P f dL .normal) w:=by
 have h:=dZ.QC (P:=P) false hi hr ha hg
 have e:({c with st:={c.st with cR:=J2 false}}:cw)=c:=by
  obtain⟨_,_,_,h4⟩:=vS hi
  obtain⟨f,t,tm,nt,mem,fix,dj,cR⟩:=c
  simp only at h4
  subst h4
  rfl
 rw[e] at h
 exact h
theorem xQ (hN:ju P) {f:FuncId} {args:List AV} {m:Mem} {c:cw} (hi:init P f args m=some c) : ∃fn,P.funcs[f]? = some fn∧fn.body.isSome=true∧(fn.name == "runtime.NumGoroutine")=false:=by
 unfold init at hi
 split at hi
 · rename_i fn hf
   split at hi
   · rename_i body hb
     exact⟨fn,hf,by simp[hb],hN f fn hf⟩
   · cases hi
 · cases hi
theorem ud (hN:ju P) {f:FuncId} {args:List AV} {m:Mem} {c:cw} {v:AV} {m':Mem} (hi:init P f args m=some c) (h:bp P E c (.Co v m')):Qo P E f args m v m':=by
 refine⟨xQ hN hi,fun g w dL cs hr ha hg=> ?_⟩
 obtain⟨g',fr',w',cv,q1,q2,q3,q4,q5,q6,q7,q8⟩:=h g _ w cs (dZ.enter hi hr ha hg)
 obtain⟨e1,e2,e3,e4⟩:=vS hi
 rw[e1] at q6;rw[e2] at q7 q8;rw[e3] at q3
 exact⟨_,g',cv,fr',q1,q2,q3,q4,q5,q6,q7,q8⟩
theorem gw (hN:ju P) {f:FuncId} {args:List AV} {m:Mem} {c:cw} {v:AV} {m':Mem} (hi:init P f args m=some c) (h:bp P E c (.ret v m')):an P E f args m v m':=by
 refine⟨xQ hN hi,fun g w dL cs hr ha hg=> ?_⟩
 obtain⟨g',fr',w',cv,w2,q1,q2,q3,q4,q5,q6,q7,q8⟩:=h g _ w cs (dZ.enter hi hr ha hg)
 obtain⟨e1,e2,e3,e4⟩:=vS hi
 rw[e1] at q6;rw[e2] at q7 q8;rw[e3] at q3;rw[e4] at q2
 obtain⟨q2,rfl⟩:=q2
 exact⟨_,g',cv,fr',q1,q2,q3,q4,q5,q6,q7,q8⟩
theorem vT {g:Gh} {w:World} : ∀(ds:List Nat) (vs:List AV) (vQ:List Value) (tm:zV) (t:Array Value),dz g w vs vQ→ds.length=vs.length→(∀d∈ds,d<t.size)→(∀k,VA g w (look tm k) (t.getD k undef)) →
  (∀k,VA g w (look (JE tm ds vs) k) (((ds.zip vQ).foldl (fun t (q:Nat×Value)=>t.setIfInBounds q.1 q.2) t).getD k undef))∧((ds.zip vQ).foldl (fun t (q:Nat×Value)=>t.setIfInBounds q.1 q.2) t).size=t.size
 |[],[],[],tm,t,_,_,_,h=>⟨h,rfl⟩
 |d::ds,v::vs,cv::vQ,tm,t,hv,hl,hd,h=>by
  have hdt:=hd d (.head _)
  obtain⟨q1,q2⟩:=vT ds vs vQ ((d,v)::tm) (t.setIfInBounds d cv) hv.2 (by simpa using hl) (fun d' hd'=>by simpa using hd d' (.tail _ hd')) fun k=>by
   simp only[mO]
   by_cases hk:d=k
   · subst hk
     simp only[if_true,lv,Array.getElem?_setIfInBounds_self_of_lt hdt,km]
     exact hv.1
   · simp only[hk,if_false,lv]
     rw[Array.getElem?_setIfInBounds_ne hk,←lv]
     exact h k
  exact⟨q1,q2.trans (by simp)⟩
 |[],_::_,_,_,_,_,hl,_,_=>by simp at hl
 |_::_,[],_,_,_,_,hl,_,_=>by simp at hl
 |[],[],_::_,_,_,h,_,_,_=>h.elim
 |_::_,_::_,[],_,_,h,_,_,_=>h.elim
theorem ue {args:List AV} {m:Mem} {c:cw} {v:AV} {m':Mem} (hi:GG args m=some c) (h:bp P E c (.ret v m')):L2 P E args m v m':=by
 intro g w i l xs Wq d cs hargs hr hl hx hg
 subst hargs
 unfold GG at hi
 dsimp only at hi
 split at hi
 · rename_i f ps as bd s pd vals hb
   cases hc:(ai xs.length ps.toList.length&&lC ps.toList vals.length) with
   |false=>rw[hc] at hi;cases hi
   |true=>
    rw[hc] at hi
    simp only[cond_true,kb] at hi
    simp only[jn] at hc
    have hlen:=ag hc.1
    have hlt:=iz hc.2
    have hib:=getD_some hb (by simp)
    obtain⟨c0,ob,vs,k1,k2,k3,k4,_⟩:=hr.obs i _ _ hib
    rw[hl] at k1;cases k1
    obtain⟨D,rfl⟩:=k4
    have hxl:=hx.len
    simp only[ie] at hxl
    have hvl:=k3.len
    have J3:=run_yield (P:=P) (args:=Wq) k2 (by show Wq.size=ps.size;simp at hlen;omega)
    dsimp only at J3
    have LR:(ps.zip Wq).foldl (fun tmps (t,a)=>tmps.setIfInBounds t a) vs.toArray=(ps.toList.zip Wq.toList).foldl (fun t (q:Nat×Value)=>t.setIfInBounds q.1 q.2) vs.toArray:=by
     rw[←Array.foldl_toList,Array.toList_zip]
    rw[LR] at J3
    obtain⟨t1,t2⟩:=vT ps.toList xs Wq.toList ((upTo vals.length).zip vals) vs.toArray hx hlen.symm (fun d hd=>by have:=hlt d hd;simp;omega) fun k=>by
     rw[uI,H4,uJ]
     simp only[acb,if_true,acv]
     rcases be k vals.length with hk | hk
     · rw[de,df hk]
       have hk':k<vs.length:=by omega
       have:=k3.get k hk hk'
       simp only[km,lv]
       simpa[hk'] using this
     · rw[de,dT hk]
       exact .az _
    generalize (ps.toList.zip Wq.toList).foldl (fun t (q:Nat×Value)=>t.setIfInBounds q.1 q.2) vs.toArray=T at *
    let b:Frame:={(default:Frame) with fn:=f,kind:= .normal,roundOf:=some l}
    have hen:yv l f T as bd .normal=b.atR {tmps:=T,defers:=[]} (eM c.todo):=by
     rw[←hi]
     simp[yv,yr,eM,er,b]
    have QD:dZ P E g c (yv l f T as bd .normal) w:=by
     rw[hen]
     subst hi
     exact dZ.mk (nf trivial (nf trivial (nf trivial fun _ h=>by cases h))) rfl ⟨rfl,l,hl,rfl⟩ trivial ⟨t1,by rw[t2];simp;omega,hr,aw _,hg⟩
    have hm:c.st.mem=m∧c.st.fix=m.length∧c.st.cR = .round i:=by subst hi;exact⟨rfl,rfl,rfl⟩
    obtain⟨e1,e2,e3⟩:=hm
    obtain⟨g',fr',w',cv,w2,q1,q2,q3,q4,q5,q6,q7,q8⟩:=h g _ w (d::cs) QD
    rw[e1] at q6;rw[e2] at q7 q8;rw[e3] at q2
    exact⟨f,T,as,bd,w2,g',cv,J3,q1.trans (q2 d cs),q4,q5,q6,q7,q8⟩
 · cases hi
theorem DA {c:cw} {o:Out} (h:Am.step P E c = .done o):bp P E c o:=by
 intro g fr w cs hc
 have hs:=jY hc
 rw[h] at hs
 cases o with
 |ret v m'=>
  obtain⟨h1,rfl,cv,w2,h2,h3,h4,h6,h5⟩:=hs
  exact⟨g,fr,w,cv,w2,acA _ _,h2,h1,h3,h4,h6,bZ.refl _ _,h5⟩
 |Co v m'=>
  obtain⟨h1,rfl,cv,h2,h3,h4,h5⟩:=hs
  exact⟨g,fr,w,cv,acA _ _,h2,h1,h3,h4,dU.refl _ _ _,bZ.refl _ _,h5⟩
theorem xR {c c':cw} (h:Am.step P E c = .next c') : ∀g fr w,dZ P E g c fr w→fY P E g c fr w c':=by
 intro g fr w hc
 have hs:=jY hc
 rw[h] at hs;exact hs
theorem DB {c c':cw} (h:Am.step P E c = .must true c') : ∀g fr w,dZ P E g c fr w→fY P E g c fr w c':=by
 intro g fr w hc
 have hs:=jY hc
 rw[h] at hs;exact hs rfl
theorem DC {c y z:cw} {b:Bool} (h:Am.step P E c = .test b y z) : ∀g fr w,dZ P E g c fr w→fY P E g c fr w (match b with | true=>y | false=>z):=by
 intro g fr w hc
 have hs:=jY hc
 rw[h] at hs
 cases b with
 |true=>exact hs.1 rfl
 |false=>exact hs.2 rfl
theorem oO {c c':cw} {f:FuncId} {args:List AV} {m:Mem} {ord:List Nat} {dst:Option Tmp} {v:AV} {m1:Mem} (h:Am.step P E c = .call f args m ord dst c') (hd:an P E f args m v m1) :
  ∀g fr w,dZ P E g c fr w→fY P E g c fr w {c' with st:=back ord dst c'.st v m1}:=by
 intro g fr w hc
 have hs:=jY hc
 rw[h] at hs
 exact hs.1 v m1 hd
theorem zg {c c':cw} {f:FuncId} {args:List AV} {m:Mem} {ord:List Nat} {dst:Option Tmp} {v:AV} {m1:Mem} (h:Am.step P E c = .call f args m ord dst c') (hd:Qo P E f args m v m1) :
  ∀g fr w,dZ P E g c fr w→fY P E g c fr w (qZ ord c' v m1):=by
 intro g fr w hc
 have hs:=jY hc
 rw[h] at hs
 exact hs.2 v m1 hd
theorem DD {c c':cw} {f:FuncId} {args:List AV} {m:Mem} {ord:List Nat} {pv:Option AV} {m1:Mem} (h:Am.step P E c = .late f args m ord pv c') (hd:Qq P E f args m pv m1) :
  ∀g fr w,dZ P E g c fr w→fY P E g c fr w {c' with st:=back ord none c'.st (.aD []) m1}:=by
 intro g fr w hc
 have hs:=jY hc
 rw[h] at hs
 exact hs m1 hd
theorem nh {b:Frame} {a:Act} {cs:List Frame} {w:World} : ∀(n:Nat) (t t':List It),AH n t=some t'→(∀x∈t,It.pl x)→Steps P (lone (b.atR a (eM t)) cs w) (lone (b.atR a (eM t')) cs w) ∧ ∀x∈t',It.pl x
 |0,_,_,h,_=>by cases h
 |n+1,t,t',h,hp=>by
  unfold AH at h
  split at h
  · simp only[kb] at h;subst h
    exact⟨acA _ _,hp⟩
  · obtain⟨h1,h2⟩:=nh n _ t' h (nf trivial (nf trivial fun y hy=>hp y (.tail _ hy)))
    exact⟨.head stepR_seq h1,h2⟩
  · rename_i id ops k
    obtain⟨h1,h2⟩:=nh n _ t' h (nf trivial fun y hy=>hp y (.tail _ hy))
    refine⟨.head ?_ h1,h2⟩
    have:=stepR_region (P:=P) (b:=b) (a:=a) (k:=eM k) (cs:=cs) (w:=w) (ops:=ops) (id:=id)
    simpa[eM,er,H4] using this
  · obtain⟨h1,h2⟩:=nh n _ t' h (nf trivial (nf trivial fun y hy=>hp y (.tail _ hy)))
    exact⟨.head (step_lone_go (by simp[stepG,zr,yr,eM,er])) h1,h2⟩
  · obtain⟨h1,h2⟩:=nh n _ t' h (nf trivial (nf trivial fun y hy=>hp y (.tail _ hy)))
    exact⟨.head stepR_block h1,h2⟩
  · cases h
theorem FV {b:Frame} {a:Act} {k:List Item} {c0:Frame} {cs:List Frame} {w:World} {ops:Array Oper} {i:Nat} {rest:List Nat} {o:Oper} {vJ:Option Value} (hk:b.kind = .deferred) (hb:b.roundOf=none) (ho:ops[i]? = some o) (hr:isRec o=true)
  (h0:c0.mode=dG vJ false) :
  _root_.Go.step P (lone (b.atR a (.inRegion ops (i::rest)::k)) (c0::cs) w) = .next (lone (b.atR (a.put o.dst (vJ.getD .nilIface)) (.inRegion ops rest::k)) ({c0 with mode:=dG vJ true}::cs) w):=by
 unfold isRec at hr
 split at hr
 · rename_i c hop hgd
   split at hr
   · rename_i CM afq
     have nO:c.args = #[]:=by have:=congrArg np afq;simpa using this
     have hw:xf o (yielded ops a.tmps)=true:=by unfold xf;rw[hgd]
     have hg:=stepGR_op (P:=P) (b:=b) (k:=k) (cs:=c0::cs) (w:=w) (rest:=rest) ho hw
     have hrun:(o.semAt b.roundOf a.eval).run P w = .ok .recover w:=by
      rw[hb]
      simp only[Oper.semAt,execOp,hop,resolve,CM,nO,kv,kx,ky,invoke,builtin]
     have rI : ∀v,(b.atR a (.inRegion ops (i::rest)::k)).finish v=b.atR (a.put o.dst v) (.inRegion ops rest::k):=fun v=>by rw[yo,ho];rfl
     have hkk:(b.atR a (.inRegion ops (i::rest)::k)).kind = .deferred:=hk
     have Za:=tryRecover_deferred hkk (c0::cs)
     have hro:(b.atR a (.inRegion ops (i::rest)::k)).roundOf=none:=hb
     refine step_lone_go ?_
     rw[hg]
     cases vJ with
     |none=>
      have e:recoverD (c0::cs)=none:=by unfold recoverD;simp only[h0,dG]
      rw[e] at Za
      have h00:({c0 with mode:=dG none true}:Frame)=c0:=by rw[show dG none true=c0.mode from h0.symm]
      rw[h00]
      simp only[zd,xn,hrun,hro,Za,abA,abQ,rI,Option.getD_none,if_true]
     |some v=>
      have e:recoverD (c0::cs)=some (v,{c0 with mode:=dG (some v) true}::cs):=by unfold recoverD;simp only[h0,dG]
      rw[e] at Za
      simp only[zd,xn,hrun,hro,Za,abA,abQ,rI,km,if_true]
   · cases hr
 · cases hr
theorem uf (hN:ju P) {f:FuncId} {args:List AV} {m:Mem} {pv:Option AV} {c:cw} {v:AV} {m':Mem} (hi:GI P f args m pv=some c) (h:bp P E c (.ret v m')):Qq P E f args m pv m':=by
 unfold GI at hi
 split at hi
 · rename_i c0 nL
   split at hi
   · rename_i t1 hi1
     refine⟨xQ hN nL,fun g w dL vJ fr0 cs h0 M4 hr ha hg=> ?_⟩
     obtain⟨e1,e2,e3,_⟩:=vS nL
     have hen:=dZ.QC (P:=P) true nL hr ha hg
     have ac7 : ∃body,c0.todo=[.code 0 body]:=by
      unfold init at nL
      split at nL
      · split at nL
        · simp only[kb] at nL;subst nL;exact⟨_,rfl⟩
        · cases nL
      · cases nL
     obtain⟨body,hbody⟩:=ac7
     obtain⟨f0,t0,jt⟩:=c0
     simp only at hbody e1 e2 e3 hi1 hi
     subst hbody
     obtain⟨b,a,hfr,h1,h2,h3,h4,hk⟩:=hen
     simp only at h1 h2 h3 h4 hk
     obtain⟨aad,GP⟩:=nh (P:=P) (b:=b) (a:=a) (cs:=fr0::cs) (w:=w) 20 _ _ hi1 hk
     have afr:xc P f dL .deferred=b.atR a (eM [It.code 0 body]):=hfr
     rw[afr]
     unfold YY at hi
     simp only at hi
     split at hi
     · rename_i cO ops i sure k
       split at hi
       · rename_i o ho
         have hlt:i<ops.size:=by
          rcases be i ops.size with q | q
          · exact q
          · rw[il q] at ho;cases ho
         have hk' : ∀y∈k,It.pl y:=fun y hy=>GP y (.tail _ hy)
         cases hb:(isRec o&&fits {jt with cR:= .late} o.dst) with
         |false=>rw[hb] at hi;cases hi
         |true=>
          rw[hb] at hi
          simp only[cond_true,kb] at hi
          simp only[jn] at hb
          have hstep:=FV (P:=P) (a:=a) (k:=eM k) (cs:=cs) (w:=w) (rest:=pw (i+1) (ops.size-(i+1))) (vJ:=vJ) h2.1 h2.2 ho hb.1 h0
          have LU:VA g w (pv.getD (.p (.sc .nilIface))) (vJ.getD .nilIface):=by
           cases pv with
           |none=>cases vJ with
            |none=>exact .p _ _ (.sc _)
            |some _=>exact M4.elim
           |some u=>cases vJ with
            |none=>exact M4.elim
            |some cv=>exact M4
          have hput:=h4.put (m':=jt.mem) hb.2 LU (Ext.refl g w) h4.rel h4.fix
          have hcr:dZ P E g c (b.atR (a.put o.dst (vJ.getD .nilIface)) (.inRegion ops (pw (i+1) (ops.size-(i+1)))::eM k)) w:=by
           subst hi
           exact dZ.mk (c:=⟨f0,.ops cO ops (i+1) false::k,put {jt with cR:= .late} o.dst (pv.getD (.p (.sc .nilIface)))⟩) (nf trivial hk') h1 (by rw[mF];exact h2) (h3.put (st:={jt with cR:= .late}) (st':={jt with cR:= .late}) (Ext.refl g w) rfl) hput
          obtain⟨g2,WH,w2,cv,w3,r1,r2,r3,r4,r5,r6,r7,r8⟩:=h g _ w ({fr0 with mode:=dG vJ true}::cs) hcr
          have hc:c.st.mem=m∧c.st.fix=m.length∧c.st.cR = .late:=by
           subst hi
           refine⟨?_,?_,?_⟩
           · rw[←e1]
             show(put {jt with cR:= .late} o.dst _).mem=jt.mem
             unfold Am.put;cases o.dst<;>rfl
           · rw[←e2]
             show(put {jt with cR:= .late} o.dst _).fix=jt.fix
             unfold Am.put;cases o.dst<;>rfl
           · show(put {jt with cR:= .late} o.dst _).cR = .late
             rw[mF]
          obtain⟨c1,c2,c3⟩:=hc
          rw[c3] at r2
          obtain⟨⟨r2,r2'⟩,rfl⟩:=r2
          rw[c1] at r6
          rw[c2] at r7 r8
          refine⟨_,g2,cv,WH,aad.trans (.head ?_ r1),r2,r2',r5,r6,r7,r8⟩
          have he:eM (.ops cO ops i sure::k) = .inRegion ops (i::pw (i+1) (ops.size-(i+1)))::eM k:=by
           simp only[eM,er,rH hlt,H5,H0]
          rw[he]
          exact hstep
       · cases hi
     · cases hi
   · cases hi
 · cases hi
theorem Bs {c c':cw} {args:List AV} {m:Mem} {ord:List Nat} {dst:Option Tmp} {v:AV} {m1:Mem} (h:Am.step P E c = .round args m ord dst c') (hd:L2 P E args m v m1) :
  ∀g fr w,dZ P E g c fr w→fY P E g c fr w {c' with st:=back ord dst c'.st v m1}:=by
 intro g fr w hc
 have hs:=jY hc
 rw[h] at hs
 exact hs v m1 hd
theorem uK {c c':cw} {f:FuncId} {args:List AV} {m:Mem} {ord:List Nat} {L:Nat} {v:AV} {m1 m2:Mem} {pd:Option Code} (h:Am.step P E c = .range f args m ord L c') (hd:an P E f args m v m1)
  (he:iV (back ord none c'.st v m1).mem L=some (m2,pd)) : ∀g fr w,dZ P E g c fr w→fY P E g c fr w (behind c' m2 pd):=by
 intro g fr w hc
 have hs:=jY hc
 rw[h] at hs
 exact hs v m1 hd m2 pd he
theorem bp.aae {c:cw} {l:List cw} {o:Out} (hg : ∀g fr w,dZ P E g c fr w→FM P E g c fr w l) (h : ∀c'∈l,bp P E c' o):bp P E c o:=by
 intro g fr w cs hc
 obtain⟨c',hm,g',fr',w',q1,q2,q3,q4,q5,q6,q7⟩:=hg g fr w hc cs
 cases o with
 |ret v m'=>
  obtain⟨g2,WH,w2,cv,w3,r1,r2,r3,r4,r5,r6,r7,r8⟩:=h c' hm g' fr' w' cs q2
  refine⟨g2,WH,w2,cv,w3,q1.trans r1,by rw[←q7];exact r2,r3.trans q5,r4,r5,q3.trans r6,q4.trans ?_,by rw[←q6];exact r8⟩
  rw[←q6];exact r7
 |Co v m'=>
  obtain⟨g2,WH,w2,cv,r1,r2,r3,r4,r5,r6,r7,r8⟩:=h c' hm g' fr' w' cs q2
  refine⟨g2,WH,w2,cv,q1.trans r1,r2,r3.trans q5,r4,r5,q3.trans r6,q4.trans ?_,by rw[←q6];exact r8⟩
  rw[←q6];exact r7
theorem Nj {c:cw} {l:List cw} (h:Am.step P E c = .fork l) : ∀g fr w,dZ P E g c fr w→FM P E g c fr w l:=by
 intro g fr w hc
 have hs:=jY hc
 rw[h] at hs;exact hs
theorem xS {c c':cw} {cO:Nat} {ops:Array Oper} {O:FuncId→List AV→Mem→Option (AV×Mem)} {st':St} (h:Am.step P E c = .draw cO ops c') (hO : ∀g args m v m1,O g args m=some (v,m1)→an P E g args m v m1)
  (hq:mZ P E c'.f cO O ops c'.st=some (st',true)) : ∀g fr w,dZ P E g c fr w→fY P E g c fr w {c' with st:={st' with dj:=c'.st.dj,cR:=c'.st.cR}}:=by
 intro g fr w hc
 have hs:=jY hc
 rw[h] at hs
 exact hs O st' hO hq
def eS (P:Program) (E:Env) (l:List ct):Prop:= ∀q∈l,an P E q.g q.args q.m q.v q.m'
theorem vU {K:List ct} (hK:eS P E K) {g:FuncId} {args:List AV} {m:Mem} {r:AV×Mem} (h:pO K g args m=some r):an P E g args m r.1 r.2:=by
 induction K with
 |nil=>cases h
 |cons q K ih=>
  simp only[pO] at h
  cases hb:(ai q.g g&&(mV args q.args&&qW m q.m)) with
  |true=>
   rw[hb] at h
   simp only[cond_true,kb] at h
   subst h
   simp only[jn] at hb
   obtain⟨h1,h2,h3⟩:=hb
   have h1:=ag h1
   have h2:=gY h2
   have h3:=lD h3
   subst h1;subst h2;subst h3
   exact hK q (.head _)
  |false=>
   rw[hb] at h
   exact ih (fun x hx=>hK x (.tail _ hx)) h
theorem QE {o p:Out} (h:GH o p=true):o=p:=by
 cases o with
 |ret v m=>cases p with
  |ret u n=>
   simp only[GH,jn] at h
   rw[kZ h.1,lD h.2]
  |Co u n=>cases h
 |Co v m=>cases p with
  |ret u n=>cases h
  |Co u n=>
   simp only[GH,jn] at h
   rw[kZ h.1,lD h.2]
theorem DE : ∀{l:List (Option Out)} {o:Out},agree l=some o → ∀x∈l,x=some o
 |[],_,h,_,_=>by cases h
 |[x],o,h,y,hy=>by
  cases hy with
  |head=>exact h
  |tail _ hy=>cases hy
 |x::y::r,o,h,z,hz=>by
  simp only[agree] at h
  split at h
  · rename_i o1 p1 h1
    cases hb:GH o1 p1 with
    |false=>rw[hb] at h;cases h
    |true=>
     rw[hb] at h
     simp only[cond_true,kb] at h
     subst h
     cases hz with
     |head=>rw[QE hb]
     |tail _ hz=>exact DE h1 z hz
  · cases h
theorem cA (hN:ju P) {K:List ct} (hK:eS P E K) : ∀(n:Nat) (c:cw) (o:Out),exec P E K n c=some o→bp P E c o
 |0,_,_,h=>by cases h
 |n+1,c,o,h=>by
  unfold exec at h
  split at h
  · rename_i c' hs;exact bp.bL (xR hs) (cA hN hK n c' o h)
  · rename_i b c' hs
    cases b with
    |false=>cases h
    |true=>exact bp.bL (DB hs) (cA hN hK n c' o h)
  · rename_i b y z hs
    have:=DC hs
    cases b with
    |true=>exact bp.bL this (cA hN hK n y o h)
    |false=>exact bp.bL this (cA hN hK n z o h)
  · rename_i g args m ord dst c' hs
    split at h
    · rename_i v m1 hk
      exact bp.bL (oO hs (vU hK hk)) (cA hN hK n _ o h)
    · split at h
      · rename_i ci hi
        split at h
        · rename_i v m1 he
          have hd:=gw hN hi (cA hN hK n ci _ he)
          exact bp.bL (oO hs hd) (cA hN hK n _ o h)
        · rename_i u m1 he
          have hd:=ud hN hi (cA hN hK n ci _ he)
          exact bp.bL (zg hs hd) (cA hN hK n _ o h)
        · cases h
      · cases h
  · rename_i g args m ord pv c' hs
    split at h
    · rename_i ci hi
      split at h
      · rename_i v m1 he
        have hd:=uf hN hi (cA hN hK n ci _ he)
        exact bp.bL (DD hs hd) (cA hN hK n _ o h)
      · cases h
    · cases h
  · rename_i args m ord dst c' hs
    split at h
    · rename_i ci hi
      split at h
      · rename_i v m1 he
        have hd:=ue hi (cA hN hK n ci _ he)
        exact bp.bL (Bs hs hd) (cA hN hK n _ o h)
      · cases h
    · cases h
  · rename_i g args m ord L c' hs
    split at h
    · rename_i ci hi
      split at h
      · rename_i v m1 he
        split at h
        · rename_i m2 pd hend
          have hd:=gw hN hi (cA hN hK n ci _ he)
          exact bp.bL (uK hs hd hend) (cA hN hK n _ o h)
        · cases h
      · cases h
    · cases h
  · rename_i cO ops c' hs
    split at h
    · rename_i st' ok hq
      cases ok with
      |false=>cases h
      |true=>
       refine bp.bL (xS hs (fun g args m v m1 hO=> ?_) hq) (cA hN hK n _ o h)
       split at hO
       · rename_i r hk
         simp only[kb] at hO
         subst hO
         exact vU hK hk
       · split at hO
         · rename_i ci hi
           split at hO
           · rename_i v' M9 he
             simp only[kb,kp] at hO
             obtain⟨rfl,rfl⟩:=hO
             exact gw hN hi (cA hN hK n ci _ he)
           · cases hO
         · cases hO
    · cases h
  · rename_i l hs
    exact bp.aae (Nj hs) fun c' iS=>cA hN hK n c' o (DE h _ (fg.2 ⟨c',iS,rfl⟩))
  · rename_i o' hs
    simp only[kb] at h;subst h
    exact DA hs
  · cases h
theorem CR (hN:ju P) {K:List ct} (hK:eS P E K) {n:Nat} {f:FuncId} {args:List AV} {m m':Mem} {v:AV} (h:LP P E K n f args m=some (.ret v m')):an P E f args m v m':=by
 unfold LP at h
 split at h
 · rename_i c hi;exact gw hN hi (cA hN hK n c _ h)
 · cases h
theorem fZ:eS P E []:=fun _ hq=>by cases hq
theorem dH {q:ct} {K:List ct} (h:an P E q.g q.args q.m q.v q.m') (hK:eS P E K):eS P E (q::K):=by
 intro x hx
 cases hx with
 |head=>exact h
 |tail _ hx=>exact hK x hx
def QF (P:Program) (E:Env) (c:cw):Fin→Prop
 |.out o=>bp P E c o
 |.at c'=> ∀o,bp P E c' o→bp P E c o
theorem QF.bL {c c':cw} {r:Fin} (hg : ∀g fr w,dZ P E g c fr w→fY P E g c fr w c') (h:QF P E c' r):QF P E c r:=by
 cases r with
 |out o=>exact bp.bL hg h
 | «at» c2=>exact fun o ho=>bp.bL hg (h o ho)
end
end Go.Am
end
section
namespace Go.Am
noncomputable section
abbrev OpT:=Program→(Nat→bf)→Bool→Nat→(Operand→AV)→Oper→nN
def ac8 (P:Program) (rd:Nat→bf) (wr:Bool) (bM:Nat) (ρ:Operand→AV) (o:Oper):nN:=yJ P rd wr bM ρ o
def Zb (x:Operand) (_:Program) (_:Nat→bf) (_:Bool) (_:Nat) (ρ:Operand→AV) (_:Oper):nN:=some (ρ x,[],true)
def ac9 (t:TypeId) (a:Operand) (P:Program) (rd:Nat→bf) (_:Bool) (_:Nat) (ρ:Operand→AV) (_:Oper):nN:=jS (oo P rd t (ρ a))
def aaf (t:TypeId) (a v:Operand) (P:Program) (rd:Nat→bf) (_:Bool) (_:Nat) (ρ:Operand→AV) (_:Oper):nN:=vg P rd t (ρ a) (ρ v)
def afs (x:Operand) (P:Program) (_:Nat→bf) (_:Bool) (_:Nat) (ρ:Operand→AV) (o:Oper):nN:=mw (mU P ρ o (ρ x))
def J4 (t:TypeId) (x:Operand) (f:Nat) (P:Program) (_:Nat→bf) (_:Bool) (_:Nat) (ρ:Operand→AV) (_:Oper):nN:=mw (nQ P t (ρ x) f)
def aag (t:TypeId) (x:Operand) (f:Nat) (P:Program) (_:Nat→bf) (_:Bool) (_:Nat) (ρ:Operand→AV) (_:Oper):nN:=jS (zY P t (ρ x) f)
def J5 (t:TypeId) (x i:Operand) (P:Program) (_:Nat→bf) (_:Bool) (_:Nat) (ρ:Operand→AV) (_:Oper):nN:=jS (nR P t (ρ x) (ρ i))
def aah (t:TypeId) (x i:Operand) (P:Program) (_:Nat→bf) (_:Bool) (_:Nat) (ρ:Operand→AV) (_:Oper):nN:=jS (zZ P t (ρ x) (ρ i))
def QG (s d:TypeId) (x:Operand) (P:Program) (rd:Nat→bf) (_:Bool) (bM:Nat) (ρ:Operand→AV) (o:Oper):nN:=convertOp P rd bM ρ o s d (ρ x)
def aft (op:BinOp) (t:TypeId) (x y:Operand) (P:Program) (_:Nat→bf) (_:Bool) (_:Nat) (ρ:Operand→AV) (o:Oper):nN:=match Fl y with
    |true=>z8 P op t (ρ x)
    |false=>match LH (ρ x) (ρ y) with
     |true=>LI P op t (ρ x) (ρ y)
     |false=>match Fk (ρ x) (ρ y) with
      |true=>sQ P op t
      |false=>jS (vh P ρ o op (ρ x) (ρ y))
def oUn (op:UnOp) (x:Operand) (P:Program) (_:Nat→bf) (_:Bool) (_:Nat) (ρ:Operand→AV) (o:Oper):nN:=jS (Av P ρ o op (ρ x))
def aai (t:TypeId) (x:Operand) (lo hi mx:Option Operand) (P:Program) (_:Nat→bf) (_:Bool) (_:Nat) (ρ:Operand→AV) (_:Oper):nN:=jS (sN P ρ t (ρ x) lo hi mx)
def QH (x:Operand) (i:Nat) (_:Program) (_:Nat→bf) (_:Bool) (_:Nat) (ρ:Operand→AV) (_:Oper):nN:=match ρ x with
    |.aD vs=>mw vs[i]?
    |_=>none
def aaj (t:TypeId) (parts:Array (Nat×Operand)) (P:Program) (_:Nat→bf) (_:Bool) (_:Nat) (ρ:Operand→AV) (_:Oper):nN:=jS (zX P t (parts.toList.map fun q=>(q.1,ρ q.2)))
def ada (c a b:Operand) (_:Program) (_:Nat→bf) (_:Bool) (_:Nat) (ρ:Operand→AV) (_:Oper):nN:=match ρ c with
    |.p (.sc (.bool t))=>some (cond t (ρ a) (ρ b),[],true)
    |_=>none
def afu:Op→OpT
 |.binOp op t x y _=>aft op t x y
 |.unOp op _ x=>oUn op x
 |.slice t x lo hi mx=>aai t x lo hi mx
 |.extract x i=>QH x i
 |.build t parts=>aaj t parts
 |.pick c a b=>ada c a b
 |.move x=>Zb x
 |.assign x=>Zb x
 |.load t a=>ac9 t a
 |.store t a v=>aaf t a v
 |.nilCheck x=>afs x
 |.fieldAddr t x f=>J4 t x f
 |.field t x f=>aag t x f
 |.indexAddr t x i=>J5 t x i
 |.index t x i=>aah t x i
 |.convert s d x=>QG s d x
 |_=>ac8
def opF (P:Program) (rd:Nat→bf) (wr:Bool) (bM:Nat) (ρ:Operand→AV) (o:Oper):nN:=afu o.op P rd wr bM ρ o
theorem aak (P:Program) (rd:Nat→bf) (wr:Bool) (bM:Nat) (ρ:Operand→AV) (o:Oper):opF P rd wr bM ρ o=yJ P rd wr bM ρ o:=by
 obtain⟨dst,op,type,pos,after,guard⟩:=o
 cases op<;>rfl
def QI (tm:zV) (i:Nat):AV:=abz (motive:=fun _=>AV) .az (fun p _ ih=>xr (motive:=fun _=>AV) ih p.2 (ai p.1 i)) tm
theorem Hu : ∀(tm:zV) (i:Nat),QI tm i=look tm i
 |[],_=>rfl
 |(k,v)::r,i=>by
  show xr (motive:=fun _=>AV) (QI r i) v (ai k i)=cond (ai k i) v (look r i)
  rw[Hu r i]
  cases ai k i<;>rfl
def adb (t:Nat) (_:Env) (tm:zV):AV:=QI tm t
def aal (x:Operand) (E:Env) (tm:zV):AV:=ev E tm x
def afw:Operand→Env→zV→AV
 |.tmp t=>adb t
 |.const v=>fun _ _=>VW v
 |x=>aal x
def evF (E:Env) (tm:zV) (x:Operand):AV:=afw x E tm
theorem QJ (E:Env) (tm:zV):evF E tm=ev E tm:=by
 funext x
 cases x with
 |tmp t=>exact Hu tm t
 |const v=>rfl
 |global g=>rfl
 |func f=>rfl
def J6:Op→Bool
 |.call _ | .defer _ | .panic _=>true
 |_=>false
def FW:Op→Bool
 |.alloc _ | .box .. | .buildSlice .. | .makeSlice .. | .convert .. | .makeMap .. | .range .. =>true
 |.call c=>makes ⟨none,.call c,0,"",#[],none⟩
 |_=>false
def WI (ops:Array Oper) (i:Nat):Option Oper:=abz (motive:=fun _=>Nat→Option Oper) (fun _=>none) (fun a _ ih i=>acw (motive:=fun _=>Option Oper) (some a) (fun j _=>ih j) i) ops.toList i
theorem WJ (ops:Array Oper) (i:Nat):WI ops i=ops[i]? :=by
 have : ∀(l:List Oper) (i:Nat),abz (motive:=fun _=>Nat→Option Oper) (fun _=>none) (fun a _ ih i=>acw (motive:=fun _=>Option Oper) (some a) (fun j _=>ih j) i) l i=l[i]? :=by
  intro l
  induction l with
  |nil=>intro i;rfl
  |cons a l ih=>
   intro i
   cases i with
   |zero=>rfl
   |succ i=>exact(ih i).trans (by simp)
 rw[WI,this]
 simp
def L9:nN→Option Tmp→FuncId→List It→zV→Nat→Mem→Nat→List Mark→YX→Ev
 |none=>fun _ _ _ _ _ _ _ _ _=> .fail
 |some (v,[],ok)=>fun dst f k tm nt mem fix dj cR=>acy (motive:=fun _=>Ev) (.must (ok&&true) ⟨f,k,⟨tm,nt,mem,fix,dj,cR⟩⟩) (fun d=> .must (ok&&bx d nt) ⟨f,k,⟨(d,v)::tm,nt,mem,fix,dj,cR⟩⟩) dst
 |some (v,us,ok)=>fun dst f k tm nt mem fix dj cR=>acy (motive:=fun _=>Ev) (.must (ok&&true) ⟨f,k,⟨tm,nt,apply mem us,fix,dj,cR⟩⟩) (fun d=> .must (ok&&bx d nt) ⟨f,k,⟨(d,v)::tm,nt,apply mem us,fix,dj,cR⟩⟩) dst
abbrev Jr (α:Type):=Program→Env→FuncId→zV→Nat→Mem→Nat→List Mark→YX→α
def Bt (todo:List It):Jr Ev:=fun P E f tm nt mem fix dj cR=>step P E ⟨f,todo,⟨tm,nt,mem,fix,dj,cR⟩⟩
def WK (o:Oper) (cO:Nat) (ops:Array Oper) (i:Nat) (_:Bool) (k:List It):Jr Ev:=fun P E f tm nt mem fix dj cR=>
 L9 (opF P (fun i=>mem.getD i .dead) (E.wr f (o.dst.getD 0)) mem.length (evF E tm) o) o.dst f (.ops cO ops (i+1) false::k) tm nt mem fix dj cR
def aam (_:Oper) (cO:Nat) (ops:Array Oper) (i:Nat) (sure:Bool) (k:List It):Jr Ev:=Bt (.ops cO ops i sure::k)
abbrev DoT:=Oper→Nat→Array Oper→Nat→Bool→List It→Jr Ev
def Zc:Bool→Bool→Option (Nat×Bool)→DoT
 |false,false,none=>WK
 |_,_,_=>aam
def QK:Option Oper→Nat→Array Oper→Nat→Bool→List It→Jr Ev
 |none=>fun _ _ _ _ k _ _ f tm nt mem fix dj cR=> .next ⟨f,k,⟨tm,nt,mem,fix,dj,cR⟩⟩
 |some o=>Zc (J6 o.op) (FW o.op) o.guard o
def aan (i:Nat) (c:Code) (k:List It):Jr Ev:=Bt (.code i c::k)
def aao (_:Nat) (k:List It):Jr Ev:=fun _ _ f tm nt mem fix dj cR=> .next ⟨f,k,⟨tm,nt,mem,fix,dj,cR⟩⟩
def adf (id:Nat) (ops:Array Oper) (_:Nat) (k:List It):Jr Ev:=fun _ _ f tm nt mem fix dj cR=> .next ⟨f,.ops id ops 0 false::k,⟨tm,nt,mem,fix,dj,cR⟩⟩
def adg (a b:Code) (i:Nat) (k:List It):Jr Ev:=fun _ _ f tm nt mem fix dj cR=> .next ⟨f,.code i a :: .code (i+nodes a) b::k,⟨tm,nt,mem,fix,dj,cR⟩⟩
def WL (id:Nat) (b:Code) (i:Nat) (k:List It):Jr Ev:=fun _ _ f tm nt mem fix dj cR=> .next ⟨f,.code i b :: .inBlock id::k,⟨tm,nt,mem,fix,dj,cR⟩⟩
def QL:AV→cw→cw→Ev
 |.p (.sc (.bool t))=>fun y z=> .test t y z
 |_=>fun _ _=> .fail
def aap (x:Operand) (a b:Code) (i:Nat) (k:List It):Jr Ev:=fun _ E f tm nt mem fix dj cR=>
 QL (evF E tm x) ⟨f,.code (i+1) a::fT (E.keep f (2*i)) k,⟨tm,nt,mem,fix,dj,cR⟩⟩ ⟨f,.code (i+1+nodes a) b::fT (E.keep f (2*i)) k,⟨tm,nt,mem,fix,dj,cR⟩⟩
def aaq (id:Nat) (i:Nat) (k:List It):Jr Ev:=fun P E f tm nt mem fix dj cR=>acy (motive:=fun _=>Ev) (Bt (.code i (.exit id)::k) P E f tm nt mem fix dj cR) (fun k'=> .next ⟨f,k',⟨tm,nt,mem,fix,dj,cR⟩⟩) (cS id k)
def aar:Code→Nat→List It→Jr Ev
 |.block id b=>WL id b
 |.cond x a b=>aap x a b
 |.exit id=>aaq id
 |.skip=>aao
 |.seq a b=>adg a b
 |.region id ops false=>adf id ops
 |c=>fun i k=>aan i c k
def QM (k:List It):Jr Ev:=fun _ _ f tm nt mem fix dj cR=> .next ⟨f,k,⟨tm,nt,mem,fix,dj,cR⟩⟩
def afx:It→List It→Jr Ev
 |.inBlock _=>QM
 |.inScope _=>QM
 |.ops cO ops i sure=>fun k=>QK (WI ops i) cO ops i sure k
 |.code i c=>fun k=>aar c i k
 |x=>fun k=>Bt (x::k)
def aas:List It→Jr Ev
 |[]=>Bt []
 |x::k=>afx x k
def QN (P:Program) (E:Env) (c:cw):Ev:=cw.rec (motive:=fun _=>Ev) (fun f todo st=>St.rec (motive:=fun _=>Ev) (fun tm nt mem fix dj cR=>aas todo P E f tm nt mem fix dj cR) st) c
theorem Nk (o:Oper):FW o.op=makes o:=by
 obtain⟨dst,op,type,pos,after,guard⟩:=o
 cases op<;>rfl
theorem QO (P:Program) (E:Env) (c:cw):QN P E c=step P E c:=by
 obtain⟨f,todo,tm,nt,mem,fix,dj,cR⟩:=c
 cases todo with
 |nil=>rfl
 |cons x k=>
  cases x with
  |code i c=>
   cases c with
   |region id ops b=>cases b<;>rfl
   |cond x a b=>
    show QL (evF E tm x) _ _=_
    rw[QJ]
    simp only[step]
    split
    · rename_i t ht;rw[ht];rfl
    · rename_i hne
      generalize ev E tm x=v at hne
      cases v with
      |p v=>cases v with
       |sc v=>cases v with
        |bool t=>exact absurd rfl (hne t)
        |_=>rfl
       |_=>rfl
      |_=>rfl
   |exit id=>
    show acy (motive:=fun _=>Ev) _ _ (cS id k)=_
    cases he:cS id k with
    |none=>rfl
    |some k'=>simp only[step,he]
   |_=>rfl
  |ops cO ops i sure=>
   show QK (WI ops i) cO ops i sure k P E f tm nt mem fix dj cR=_
   rw[WJ]
   cases ho:ops[i]? with
   |none=>simp only[QK,step,ho]
   |some o=>
    show Zc (J6 o.op) (FW o.op) o.guard o cO ops i sure k P E f tm nt mem fix dj cR=_
    cases h1:J6 o.op with
    |true=>rfl
    |false=>
     cases h2:FW o.op with
     |true=>rfl
     |false=>
      cases h3:o.guard with
      |some q=>rfl
      |none=>
       rw[Nk] at h2
       have ht:target (ev E tm) o=none:=by
        obtain⟨dst,op,type,pos,after,guard⟩:=o
        cases op<;>first | rfl | cases h1
       have hy:Aa (ev E tm) o=none:=by
        obtain⟨dst,op,type,pos,after,guard⟩:=o
        cases op<;>first | rfl | cases h1
       show L9 (opF P (fun i=>mem.getD i .dead) (E.wr f (o.dst.getD 0)) mem.length (evF E tm) o) o.dst f (.ops cO ops (i+1) false::k) tm nt mem fix dj cR=_
       rw[aak,QJ]
       have hr:reserve o mem=mem:=by simp[reserve,h2]
       simp only[step,ho,fA,h3,PU,ht,hy,hr]
       cases hop:yJ P (fun i=>mem.getD i .dead) (E.wr f (o.dst.getD 0)) mem.length (ev E tm) o with
       |none=>
        clear hop hr hy ht h3 h2 ho
        obtain⟨dst,op,type,pos,after,guard⟩:=o
        cases op<;>first | rfl | cases h1
       |some r=>
        obtain⟨v,us,ok⟩:=r
        cases us with
        |nil=>cases hd:o.dst<;>simp[L9,fits,put,apply]
        |cons u us=>cases hd:o.dst<;>simp[L9,fits,put]
  |_=>rfl
abbrev RunT:=Program→Env→List ct→(cw→Option Out)→Option Out
def adh (c:cw):RunT:=fun _ _ _ ih=>ih c
def adi (b:Bool) (c:cw):RunT:=fun _ _ _ ih=>xr (motive:=fun _=>Option Out) none (ih c) b
def adj (b:Bool) (y z:cw):RunT:=fun _ _ _ ih=>xr (motive:=fun _=>Option Out) (ih z) (ih y) b
def adk (g:FuncId) (args:List AV) (m:Mem) (ord:List Nat) (dst:Option Tmp) (c:cw):RunT:=fun P _ K ih=>match pO K g args m with
     |some (v,m1)=>ih {c with st:=back ord dst c.st v m1}
     |none=>match init P g args m with
      |some ci=>match ih ci with
       |some (.ret v m1)=>ih {c with st:=back ord dst c.st v m1}
       |some (.Co u m1)=>ih (qZ ord c u m1)
       |none=>none
      |none=>none
def adl (g:FuncId) (args:List AV) (m:Mem) (ord:List Nat) (pv:Option AV) (c:cw):RunT:=fun P _ _ ih=>match GI P g args m pv with
     |some ci=>match ih ci with
      |some (.ret _ m1)=>ih {c with st:=back ord none c.st (.aD []) m1}
      |_=>none
     |none=>none
def aat (args:List AV) (m:Mem) (ord:List Nat) (dst:Option Tmp) (c:cw):RunT:=fun _ _ _ ih=>match GG args m with
     |some ci=>match ih ci with
      |some (.ret v m1)=>ih {c with st:=back ord dst c.st v m1}
      |_=>none
     |none=>none
def aau (g:FuncId) (args:List AV) (m:Mem) (ord:List Nat) (L:Nat) (c:cw):RunT:=fun P _ _ ih=>match init P g args m with
     |some ci=>match ih ci with
      |some (.ret v m1)=>match iV (back ord none c.st v m1).mem L with
       |some (m2,pd)=>ih (behind c m2 pd)
       |none=>none
      |_=>none
     |none=>none
def adm (cO:Nat) (ops:Array Oper) (c:cw):RunT:=fun P E K ih=>match mZ P E c.f cO (fun g args m=>match pO K g args m with
        |some r=>some r
        |none=>match init P g args m with
         |some ci=>match ih ci with
          |some (.ret v m1)=>some (v,m1)
          |_=>none
         |none=>none) ops c.st with
     |some (st,ok)=>cond ok (ih {c with st:={st with dj:=c.st.dj,cR:=c.st.cR}}) none
     |none=>none
def adn (l:List cw):RunT:=fun _ _ _ ih=>agree (l.map ih)
def ado (o:Out):RunT:=fun _ _ _ _=>some o
def adp:RunT:=fun _ _ _ _=>none
def Zd:Ev→RunT
 |.next c=>adh c
 |.must b c=>adi b c
 |.test b y z=>adj b y z
 |.call g args m ord dst c=>adk g args m ord dst c
 |.round args m ord dst c=>aat args m ord dst c
 |.range g args m ord L c=>aau g args m ord L c
 |.draw cO ops c=>adm cO ops c
 |.fork l=>adn l
 |.late g args m ord pv c=>adl g args m ord pv c
 |.done o=>ado o
 |.fail=>adp
def QS (P:Program) (E:Env) (K:List ct) (n:Nat):cw→Option Out:=
 acw (motive:=fun _=>cw→Option Out) (fun _=>none) (fun _ ih c=>Zd (QN P E c) P E K ih) n
theorem Hv (P:Program) (E:Env) (K:List ct) : ∀n,QS P E K n=exec P E K n
 |0=>by funext c;rfl
 |n+1=>by
  funext c
  show Zd (QN P E c) P E K (QS P E K n)=exec P E K (n+1) c
  rw[QO,Hv P E K n]
  unfold exec
  cases step P E c with
  |must b c=>cases b<;>rfl
  |test b y z=>cases b<;>rfl
  |_=>rfl
def xT (P:Program) (E:Env) (K:List ct) (n:Nat) (g:FuncId) (args:List AV) (m:Mem):Option Out:=
 match init P g args m with
 |some c=>QS P E K n c
 |none=>none
theorem Nl (P:Program) (E:Env) (K:List ct) (n:Nat) (g:FuncId) (args:List AV) (m:Mem):xT P E K n g args m=LP P E K n g args m:=by
 unfold xT LP
 rw[Hv]
 cases init P g args m<;>rfl
theorem cj {P:Program} {E:Env} (hN:ju P) {K:List ct} (hK:eS P E K) {n:Nat} {f:FuncId} {args:List AV} {m m':Mem} {v:AV} (h:xT P E K n f args m=some (.ret v m')):an P E f args m v m':=
 CR hN hK (n:=n) (by rw[←Nl];exact h)
end
open Go.RowKit
inductive aG where
 |out (o:Out)
 |at(c:cw)
 |must (b:Bool) (t:aG)
 |need (p:Prop) (t:aG)
 |test (b:Bool) (y z:aG)
 |call (q:ct) (t:aG)
 |stuck
structure oP where
 call:FuncId→List AV→Mem→Option (AV×Mem)
 ou:FuncId→List AV→Mem→Option (AV×Mem):=fun _ _ _=>none
 cut:FuncId→Nat→Bool
 fork:FuncId→Nat→Nat→Bool
 hard:FuncId→Nat→Nat→Bool
 shape:FuncId→Nat→Nat→Option (AV→AV)
def place (c:cw):Nat×Nat:=match c.todo with
 |.code i _::_=>(0,i)
 |.ops cO _ k _::_=>(cO+1,k)
 |_=>(0,0)
def cutAt (O:oP) (c:cw):Bool:=match c.todo with
 |.inLoop i _::_=>O.cut c.f i
 |.code i (.loop _)::_=>O.cut c.f i
 |_=>false
def J7 (c:cw):Option Tmp:=match c.todo with
 |.ops _ ops k _::_=>match ops[k]? with
  |some o=>o.dst
  |none=>none
 |_=>none
def Ze (c:cw):Bool:=match c.todo with
 |.ops .. :: _=>true
 |_=>false
def reshape (sh:AV→AV) (d:Tmp) (c:cw):cw:={c with st:=put c.st (some d) (sh (look c.st.tm d))}
def shaped (sh:Option (AV→AV)) (d:Option Tmp) (c:cw) (k:cw→aG):aG:=
 match sh,d,Ze c with
 |some sh,some d,true=> .need (look c.st.tm d=sh (look c.st.tm d)) (k (reshape sh d c))
 |_,_,_=>k c
def Bu (m:Mem) (i:Nat):List AV:=match m.getD i .dead with
 |.ob _ l=>l
 |_=>[]
def FX (i:Nat) (l:List AV) (m:Mem):Mem:=match m.getD i .dead with
 |.ob k _=>m.set i (.ob k l)
 |_=>m
def Bg (sh:Option (AV→AV)) (c:cw) (k:cw→aG):aG:=match sh with
 |none=>k c
 |some sh=>match sh .az with
  |.fn (.func i) _ l=> .need (Bu c.st.mem i=l) (k {c with st:={c.st with mem:=FX i l c.st.mem}})
  |_=>k c
def FY (h b:Bool) (t:aG):aG:=
 match h with
 |true=> .must b t
 |false=>match b with
  |true=>t
  |false=> .stuck
inductive Sc where
 |fork (y z:Sc)
 |yes (s:Sc)
 |no (s:Sc)
 |lit (s:Sc)
 |ans (g:FuncId) (v:AV) (m:Mem) (s:Sc)
 |ou (f cO:Nat) (L:FuncId→List AV→Mem→Option (AV×Mem)) (s:Sc)
 |fin
def WM (g:FuncId):Sc→Option (AV×Mem×Sc)
 |.ans h v m s=>cond (ai h g) (some (v,m,s)) none
 |_=>none
def WN (f cO:Nat):Sc→Option ((FuncId→List AV→Mem→Option (AV×Mem))×Sc)
 |.ou f' afy L s=>cond (ai f f'&&ai cO afy) (some (L,s)) none
 |_=>none
def rQ (E:Env) (O:FuncId→List AV→Mem→Option (AV×Mem)) (o:Oper) (st:St):List ct:=
 match target (ev E st.tm) o with
 |some (g,args)=>match O g (fL (idx (close st.mem 0 args)) args) (pack st.mem (close st.mem 0 args)) with
  |some (v,m1)=>[⟨g,fL (idx (close st.mem 0 args)) args,pack st.mem (close st.mem 0 args),v,m1⟩]
  |none=>[]
 |none=>[]
def ug (P:Program) (E:Env) (f cO:Nat) (O:FuncId→List AV→Mem→Option (AV×Mem)) (ops:Array Oper):List Oper→Nat→St→List ct
 |[],_,_=>[]
 |o::r,nx,st=>
  let skip:=ug P E f cO O ops r nx (put st o.dst (.aD []))
  let vk:=rQ E O o st++match lQ P E f cO O nx o st with
   |some (d,mY,_)=>ug P E f cO O ops r mY (put {st with mem:=apply st.mem d.us} o.dst d.v)
   |none=>[]
  match fA ops st.tm o with
  |.yes=>vk
  |.no=>skip
  |.ask _ b want=>match b==want with
   |true=>vk
   |false=>skip
  |.lost=>[]
def asked (P:Program) (E:Env) (f cO:Nat) (O:FuncId→List AV→Mem→Option (AV×Mem)) (ops:Array Oper) (st:St):List ct:=
 ug P E f cO O ops (ops.toList.take (jq ops)) st.mem.length {st with mem:=st.mem++fB (60+ops.size)}
def F0:List ct→aG→aG
 |[],t=>t
 |q::r,t=> .call q (F0 r t)
def grow (P:Program) (E:Env) (O:oP):Nat→Bool→cw→Sc→(Out→Sc→aG)→aG
 |0,_,_,_,_=> .stuck
 |n+1,top,c,s,K=>match cutAt O c with
  |true=>match top,step P E c with
   |true,.next c'=> .at c'
   |_,_=> .stuck
  |false=>match step P E c with
   |.next c'=>grow P E O n top c' s K
   |.must b c'=>
    FY (O.hard c.f (place c).1 (place c).2) b (shaped (O.shape c.f (place c).1 (place c).2) (J7 c) c' fun c1=>Bg (O.shape c.f ((place c).1+1000) (place c).2) c1 fun c2=>grow P E O n top c2 s K)
   |.test b y z=>match O.fork c.f (place c).1 (place c).2 with
    |true=>match s with
     |.fork s s'=> .test b (grow P E O n top y s K) (grow P E O n top z s' K)
     |.yes s=> .must b (grow P E O n top y s K)
     |.no s=> .must (!b) (grow P E O n top z s K)
     |.lit s=>match b with
      |true=>grow P E O n top y s K
      |false=>grow P E O n top z s K
     |s=> .test b (grow P E O n top y s K) (grow P E O n top z s K)
    |false=>match b with
     |true=>grow P E O n top y s K
     |false=>grow P E O n top z s K
   |.call g args m ord dst c'=>match WM g s with
    |some (v,m1,s)=> .call ⟨g,args,m,v,m1⟩ (shaped (O.shape c.f (place c).1 (place c).2) (J7 c) {c' with st:=back ord dst c'.st v m1} fun c=>grow P E O n top c s K)
    |none=>match O.call g args m with
     |some (v,m1)=> .call ⟨g,args,m,v,m1⟩ (shaped (O.shape c.f (place c).1 (place c).2) (J7 c) {c' with st:=back ord dst c'.st v m1} fun c=>grow P E O n top c s K)
     |none=>match init P g args m with
      |some ci=>grow P E O n false ci s fun o s=>match o with
       |.ret v m1=>grow P E O n top {c' with st:=back ord dst c'.st v m1} s K
       |.Co u m1=>grow P E O n top (qZ ord c' u m1) s K
      |none=> .stuck
   |.late g args m ord pv c'=>match GI P g args m pv with
    |some ci=>grow P E O n false ci s fun o s=>match o with
     |.ret _ m1=>grow P E O n top {c' with st:=back ord none c'.st (.aD []) m1} s K
     |.Co .. => .stuck
    |none=> .stuck
   |.round args m ord dst c'=>match GG args m with
    |some ci=>grow P E O n false ci s fun o s=>match o with
     |.ret v m1=>grow P E O n top {c' with st:=back ord dst c'.st v m1} s K
     |.Co .. => .stuck
    |none=> .stuck
   |.range g args m ord L c'=>match O.call g args m with
    |some (v,m1)=>match iV (back ord none c'.st v m1).mem L with
      |some (m2,pd)=> .call ⟨g,args,m,v,m1⟩ (grow P E O n top (behind c' m2 pd) s K)
      |none=> .stuck
    |none=>match init P g args m with
     |some ci=>grow P E O n false ci s fun o s=>match o with
      |.ret v m1=>match iV (back ord none c'.st v m1).mem L with
       |some (m2,pd)=>grow P E O n top (behind c' m2 pd) s K
       |none=> .stuck
      |.Co .. => .stuck
     |none=> .stuck
   |.draw cO ops c'=>match WN c'.f cO s with
    |some (L,s)=>match mZ P E c'.f cO L ops c'.st with
     |some (st,ok)=>F0 (asked P E c'.f cO L ops c'.st) (FY (O.hard c.f (place c).1 (place c).2) ok (Bg (O.shape c.f ((place c).1+1000) (place c).2) {c' with st:={st with dj:=c'.st.dj,cR:=c'.st.cR}} fun c2=>grow P E O n top c2 s K))
     |none=> .stuck
    |none=>match mZ P E c'.f cO O.ou ops c'.st with
     |some (st,ok)=>F0 (asked P E c'.f cO O.ou ops c'.st) (FY (O.hard c.f (place c).1 (place c).2) ok (Bg (O.shape c.f ((place c).1+1000) (place c).2) {c' with st:={st with dj:=c'.st.dj,cR:=c'.st.cR}} fun c2=>grow P E O n top c2 s K))
     |none=> .stuck
   |.done o=>K o s
   |_=> .stuck
def aG.ok (P:Program) (E:Env) (o:Out):aG→Prop
 |.out o'=>o'=o
 |.at c=>bp P E c o
 |.must b t=>b=true∧t.ok P E o
 |.need p t=>p∧t.ok P E o
 |.test b y z=>(b=true→y.ok P E o)∧(b=false→z.ok P E o)
 |.call q t=>an P E q.g q.args q.m q.v q.m'∧t.ok P E o
 |.stuck=>False
section
variable {P:Program} {E:Env}
theorem Bv {sh:AV→AV} {d:Tmp} {c:cw} {o:Out} (hin:Ze c=true) (h:look c.st.tm d=sh (look c.st.tm d)) (hg:bp P E (reshape sh d c) o):bp P E c o:=by
 intro g fr w cs hc
 have iS:dZ P E g (reshape sh d c) fr w:=by
  obtain⟨f,todo,st⟩:=c
  cases todo with
  |nil=>cases hin
  |cons x k=>
   cases x with
   |ops cO ops i sure=>
    obtain⟨b,a,q1,q2,q3,q4,q5,q6⟩:=hc
    exact⟨b,a,q1,q2,q3,q4,q5.known (h▸q5.tm d),q6⟩
   |_=>cases hin
 exact hg g fr w cs iS
theorem xU {h b:Bool} {t:aG} {o:Out} (k:(FY h b t).ok P E o):b=true∧t.ok P E o:=by
 cases h with
 |true=>exact k
 |false=>cases b with
  |true=>exact⟨rfl,k⟩
  |false=>exact k.elim
def eZ (P:Program) (E:Env) (top:Bool) (c:cw) (K:Out→Sc→aG) (o:Out):Prop:=(∃o1 s1,bp P E c o1∧(K o1 s1).ok P E o)∨(top=true∧bp P E c o)
theorem eZ.bL {top:Bool} {c c':cw} {K:Out→Sc→aG} {o:Out} (hg : ∀g fr w,dZ P E g c fr w→fY P E g c fr w c') (h:eZ P E top c' K o):eZ P E top c K o:=by
 rcases h with⟨o1,s1,h1,h2⟩ | ⟨h1,h2⟩
 · exact .inl ⟨o1,s1,bp.bL hg h1,h2⟩
 · exact .inr ⟨h1,bp.bL hg h2⟩
theorem pZ {top:Bool} {sh:Option (AV→AV)} {d:Option Tmp} {c:cw} {k:cw→aG} {K:Out→Sc→aG} {o:Out} (hk : ∀c,(k c).ok P E o→eZ P E top c K o) (h:(shaped sh d c k).ok P E o):eZ P E top c K o:=by
 unfold shaped at h
 split at h
 · rename_i hin
   rcases hk _ h.2 with⟨o1,s1,h1,h2⟩ | ⟨h1,h2⟩
   · exact .inl ⟨o1,s1,Bv hin h.1 h1,h2⟩
   · exact .inr ⟨h1,Bv hin h.1 h2⟩
 · exact hk c h
theorem F1 {i:Nat} {l:List AV} {m:Mem} (h:Bu m i=l):FX i l m=m:=by
 subst h
 unfold FX Bu
 split
 · rename_i k l' hk
   refine aaH fun j=> ?_
   by_cases hj:i=j
   · subst hj
     rw[de] at hk
     cases hm:m[i]? with
     |none=>rw[hm] at hk;cases hk
     |some x=>
      rw[hm] at hk
      have hk:x = .ob k l':=hk
      subst hk
      have hlt:i<m.length:=(dt.1 hm).1
      rw[nc hlt]
   · rw[oe hj]
 · rfl
theorem rR {top:Bool} {sh:Option (AV→AV)} {c:cw} {k:cw→aG} {K:Out→Sc→aG} {o:Out} (hk : ∀c,(k c).ok P E o→eZ P E top c K o) (h:(Bg sh c k).ok P E o):eZ P E top c K o:=by
 unfold Bg at h
 split at h
 · exact hk c h
 · split at h
   · obtain⟨h1,h2⟩:=h
     rw[F1 h1] at h2
     exact hk c h2
   · exact hk c h
def adq (P:Program) (E:Env) (call:FuncId→List AV→Mem→Option (AV×Mem)):Prop:= ∀g args m v m1,call g args m=some (v,m1)→an P E g args m v m1
theorem td {t:aG} {o:Out} : ∀{l:List ct},(F0 l t).ok P E o→eS P E l∧t.ok P E o
 |[],h=>⟨fun _ hq=>(by cases hq),h⟩
 |q::l,h=>⟨fun q' hq=>by
   cases hq with
   |head=>exact h.1
   |tail _ hq=>exact(td (l:=l) h.2).1 q' hq,(td (l:=l) h.2).2⟩
open Classical in
def only(O:FuncId→List AV→Mem→Option (AV×Mem)) (l:List ct) (g:FuncId) (args:List AV) (m:Mem):Option (AV×Mem):=
 if ∃q∈l,q.g=g∧q.args=args∧q.m=m then O g args m else none
theorem WO {O:FuncId→List AV→Mem→Option (AV×Mem)} {l:List ct} {g:FuncId} {args:List AV} {m:Mem} (h : ∃q∈l,q.g=g∧q.args=args∧q.m=m):only O l g args m=O g args m:=by
 unfold only;rw[if_pos h]
theorem F2 {f cO:Nat} {O O':FuncId→List AV→Mem→Option (AV×Mem)} {nx:Nat} {o:Oper} {st:St} (h : ∀q∈rQ E O o st,O' q.g q.args q.m=O q.g q.args q.m) {r:jF×Nat×Bool} (hr:sU P E f cO O nx o st=some r):sU P E f cO O' nx o st=some r:=by
 unfold sU at hr ⊢
 unfold rQ at h
 cases ht:target (ev E st.tm) o with
 |none=>simp only[ht] at hr ⊢;exact hr
 |some ga=>
  obtain⟨g,args⟩:=ga
  simp only[ht] at hr h ⊢
  cases hO:O g (fL (idx (close st.mem 0 args)) args) (pack st.mem (close st.mem 0 args)) with
  |none=>simp only[hO] at hr;cases hr
  |some vm=>
   obtain⟨v,m1⟩:=vm
   simp only[hO] at h hr
   have:=h _ (.head _)
   simp only at this
   rw[this,hO]
   exact hr
theorem Hw {f cO:Nat} {O O':FuncId→List AV→Mem→Option (AV×Mem)} {nx:Nat} {o:Oper} {st:St} (h : ∀q∈rQ E O o st,O' q.g q.args q.m=O q.g q.args q.m) {r:jF×Nat×Bool} (hr:lQ P E f cO O nx o st=some r):lQ P E f cO O' nx o st=some r:=by
 unfold lQ at hr ⊢
 cases hl:sU P E f cO O nx o st with
 |none=>
  rw[hl] at hr
  unfold LO at hr
  split at hr<;>cases hr
 |some x=>
  rw[F2 h hl]
  rw[hl] at hr
  exact hr
theorem uL {f cO:Nat} {O O':FuncId→List AV→Mem→Option (AV×Mem)} {ops:Array Oper} : ∀(l:List Oper) (nx:Nat) (st:St) (r:St×Nat×List jF×Bool),(∀q∈ug P E f cO O ops l nx st,O' q.g q.args q.m=O q.g q.args q.m)→kA P E f cO O ops l nx st=some r→kA P E f cO O' ops l nx st=some r
 |[],_,_,_,_,h=>h
 |o::l,nx,st,r,ha,h=>by
  unfold kA at h ⊢
  unfold ug at ha
  have Zf : ∀r,(∀q∈ug P E f cO O ops l nx (put st o.dst (.aD [])),O' q.g q.args q.m=O q.g q.args q.m) →
    (match kA P E f cO O ops l nx (put st o.dst (.aD [])) with
      |some (st',tU,ds,ok)=>some (st',tU,(⟨.aD [],[],[],fun _ _=>false⟩:jF)::ds,fits st o.dst&&ok)
      |none=>none)=some r →
    (match kA P E f cO O' ops l nx (put st o.dst (.aD [])) with
      |some (st',tU,ds,ok)=>some (st',tU,(⟨.aD [],[],[],fun _ _=>false⟩:jF)::ds,fits st o.dst&&ok)
      |none=>none)=some r:=by
   intro r hq hr
   cases hg:kA P E f cO O ops l nx (put st o.dst (.aD [])) with
   |none=>rw[hg] at hr;cases hr
   |some x=>rw[uL l nx _ x hq hg];rw[hg] at hr;exact hr
  have Z5 : ∀r,(∀q∈rQ E O o st++(match lQ P E f cO O nx o st with
        |some (d,mY,_)=>ug P E f cO O ops l mY (put {st with mem:=apply st.mem d.us} o.dst d.v)
        |none=>[]),O' q.g q.args q.m=O q.g q.args q.m) →
    (match lQ P E f cO O nx o st with
      |some (d,mY,ok)=>match kA P E f cO O ops l mY (put {st with mem:=apply st.mem d.us} o.dst d.v) with
       |some (st',tU,ds,ok')=>some (st',tU,d::ds,ok&&(fits st o.dst&&ok'))
       |none=>none
      |none=>none)=some r →
    (match lQ P E f cO O' nx o st with
      |some (d,mY,ok)=>match kA P E f cO O' ops l mY (put {st with mem:=apply st.mem d.us} o.dst d.v) with
       |some (st',tU,ds,ok')=>some (st',tU,d::ds,ok&&(fits st o.dst&&ok'))
       |none=>none
      |none=>none)=some r:=by
   intro r hq hr
   cases h1:lQ P E f cO O nx o st with
   |none=>rw[h1] at hr;cases hr
   |some x=>
    obtain⟨d,mY,ok⟩:=x
    rw[Hw (fun q hm=>hq q (oE.2 (.inl hm))) h1]
    rw[h1] at hr hq
    dsimp only at hr hq ⊢
    cases hg:kA P E f cO O ops l mY (put {st with mem:=apply st.mem d.us} o.dst d.v) with
    |none=>rw[hg] at hr;cases hr
    |some y=>rw[uL l mY _ y (fun q hm=>hq q (oE.2 (.inr hm))) hg];rw[hg] at hr;exact hr
  dsimp only at h ha ⊢
  cases hw:fA ops st.tm o with
  |yes=>simp only[hw] at h ha ⊢;exact Z5 r ha h
  |no=>simp only[hw] at h ha ⊢;exact Zf r ha h
  |lost=>simp only[hw] at h;cases h
  |ask d b want=>
   simp only[hw] at h ha ⊢
   cases hb:b==want with
   |true=>simp only[hb] at h ha ⊢;exact Z5 r ha h
   |false=>simp only[hb] at h ha ⊢;exact Zf r ha h
theorem DF {f cO:Nat} {O:FuncId→List AV→Mem→Option (AV×Mem)} {ops:Array Oper} {st:St} {r:St×Bool} (h:mZ P E f cO O ops st=some r):mZ P E f cO (only O (asked P E f cO O ops st)) ops st=some r:=by
 unfold mZ at h ⊢
 cases hg:kA P E f cO O ops (ops.toList.take (jq ops)) st.mem.length {st with mem:=st.mem++fB (60+ops.size)} with
 |none=>rw[hg] at h;cases h
 |some x=>
  rw[uL (O':=only O (asked P E f cO O ops st)) _ _ _ x (fun q hq=>WO ⟨q,hq,rfl,rfl,rfl⟩) hg]
  rw[hg] at h;exact h
theorem Nn {O:FuncId→List AV→Mem→Option (AV×Mem)} {o:Oper} {st:St} {q:ct} (h:q∈rQ E O o st):O q.g q.args q.m=some (q.v,q.m'):=by
 unfold rQ at h
 split at h
 · split at h
   · rename_i hO
     cases h with
     |head=>exact hO
     |tail _ h=>cases h
   · cases h
 · cases h
theorem vV {f cO:Nat} {O:FuncId→List AV→Mem→Option (AV×Mem)} {ops:Array Oper} : ∀(l:List Oper) (nx:Nat) (st:St) (q:ct),q∈ug P E f cO O ops l nx st→O q.g q.args q.m=some (q.v,q.m')
 |[],_,_,_,h=>by cases h
 |o::l,nx,st,q,h=>by
  unfold ug at h
  have Z5:q∈rQ E O o st++(match lQ P E f cO O nx o st with
        |some (d,mY,_)=>ug P E f cO O ops l mY (put {st with mem:=apply st.mem d.us} o.dst d.v)
        |none=>[])→O q.g q.args q.m=some (q.v,q.m'):=by
   intro h
   rcases oE.1 h with h | h
   · exact Nn h
   · split at h
     · exact vV l _ _ q h
     · cases h
  dsimp only at h
  split at h
  · exact Z5 h
  · exact vV l _ _ q h
  · split at h
    · exact Z5 h
    · exact vV l _ _ q h
  · cases h
theorem Bw {f cO:Nat} {O:FuncId→List AV→Mem→Option (AV×Mem)} {ops:Array Oper} {st:St} (h:eS P E (asked P E f cO O ops st)):adq P E (only O (asked P E f cO O ops st)):=by
 intro g args m v m1 hO
 unfold only at hO
 split at hO
 · rename_i hq
   obtain⟨q,hm,rfl,rfl,rfl⟩:=hq
   have:=vV _ _ _ q hm
   rw[this] at hO
   obtain⟨rfl,rfl⟩:q.v=v∧q.m'=m1:=by simpa using hO
   exact h q hm
 · cases hO
theorem bH (hN:ju P) {O:oP} {o:Out} : ∀(n:Nat) (top:Bool) (c:cw) (s:Sc) (K:Out→Sc→aG),(grow P E O n top c s K).ok P E o→eZ P E top c K o
 |0,_,_,_,_,h=>h.elim
 |n+1,top,c,s,K,h=>by
  unfold grow at h
  split at h
  · split at h
    · rename_i c' hs;exact .inr ⟨rfl,bp.bL (xR hs) h⟩
    · exact h.elim
  · split at h
    · rename_i c' hs;exact eZ.bL (xR hs) (bH hN n top c' s K h)
    · rename_i b c' hs
      obtain⟨rfl,hb⟩:=xU h
      exact eZ.bL (DB hs) (pZ (fun c=>rR fun c=>bH hN n top c s K) hb)
    · rename_i b y z hs
      have gt:=DC hs
      split at h
      · split at h
        · cases b with
          |true=>exact eZ.bL gt (bH hN n top y _ K (h.1 rfl))
          |false=>exact eZ.bL gt (bH hN n top z _ K (h.2 rfl))
        · obtain⟨rfl,h⟩:=h
          exact eZ.bL gt (bH hN n top y _ K h)
        · obtain⟨hb,h⟩:=h
          cases b with
          |true=>cases hb
          |false=>exact eZ.bL gt (bH hN n top z _ K h)
        · cases b with
          |true=>exact eZ.bL gt (bH hN n top y _ K h)
          |false=>exact eZ.bL gt (bH hN n top z _ K h)
        · cases b with
          |true=>exact eZ.bL gt (bH hN n top y _ K (h.1 rfl))
          |false=>exact eZ.bL gt (bH hN n top z _ K (h.2 rfl))
      · cases b with
        |true=>exact eZ.bL gt (bH hN n top y _ K h)
        |false=>exact eZ.bL gt (bH hN n top z _ K h)
    · rename_i f args m ord dst c' hs
      split at h
      · rename_i v m1 s' _
        exact eZ.bL (oO hs h.1) (pZ (fun c=>bH hN n top c s' K) h.2)
      split at h
      · exact eZ.bL (oO hs h.1) (pZ (fun c=>bH hN n top c s K) h.2)
      · split at h
        · rename_i ci hi
          rcases bH hN n false ci s _ h with⟨o1,s1,h1,h2⟩ | ⟨h1,_⟩
          · cases o1 with
            |ret v m1=>exact eZ.bL (oO hs (gw hN hi h1)) (bH hN n top _ s1 K h2)
            |Co v m1=>exact eZ.bL (zg hs (ud hN hi h1)) (bH hN n top _ s1 K h2)
          · cases h1
        · exact h.elim
    · rename_i g args m ord pv c' hs
      split at h
      · rename_i ci hi
        rcases bH hN n false ci s _ h with⟨o1,s1,h1,h2⟩ | ⟨h1,_⟩
        · cases o1 with
          |ret v m1=>exact eZ.bL (DD hs (uf hN hi h1)) (bH hN n top _ s1 K h2)
          |Co v m1=>exact h2.elim
        · cases h1
      · exact h.elim
    · rename_i args m ord dst c' hs
      split at h
      · rename_i ci hi
        rcases bH hN n false ci s _ h with⟨o1,s1,h1,h2⟩ | ⟨h1,_⟩
        · cases o1 with
          |ret v m1=>exact eZ.bL (Bs hs (ue hi h1)) (bH hN n top _ s1 K h2)
          |Co v m1=>exact h2.elim
        · cases h1
      · exact h.elim
    · rename_i g args m ord L c' hs
      split at h
      · split at h
        · rename_i m2 pd hend
          exact eZ.bL (uK hs h.1 hend) (bH hN n top _ s K h.2)
        · exact h.elim
      split at h
      · rename_i ci hi
        rcases bH hN n false ci s _ h with⟨o1,s1,h1,h2⟩ | ⟨h1,_⟩
        · cases o1 with
          |ret v m1=>
           dsimp only at h2
           split at h2
           · rename_i m2 pd hend
             exact eZ.bL (uK hs (gw hN hi h1) hend) (bH hN n top _ s1 K h2)
           · exact h2.elim
          |Co v m1=>exact h2.elim
        · cases h1
      · exact h.elim
    · rename_i cO ops c' hs
      split at h
      · rename_i L s' _
        split at h
        · rename_i st ok hq
          obtain⟨hcs,h⟩:=td h
          obtain⟨rfl,hb⟩:=xU h
          exact eZ.bL (xS hs (Bw hcs) (DF hq)) (rR (fun c=>bH hN n top c s' K) hb)
        · exact h.elim
      split at h
      · rename_i st ok hq
        obtain⟨hcs,h⟩:=td h
        obtain⟨rfl,hb⟩:=xU h
        exact eZ.bL (xS hs (Bw hcs) (DF hq)) (rR (fun c=>bH hN n top c s K) hb)
      · exact h.elim
    · rename_i o' hs
      exact .inl ⟨o',s,DA hs,h⟩
    · exact h.elim
def atEnd (o:Out) (_:Sc):aG:= .out o
theorem af (hN:ju P) {O:oP} {n:Nat} {c:cw} {s:Sc} {t:aG} {o:Out} (ht:grow P E O n true c s atEnd=t) (h:t.ok P E o):bp P E c o:=by
 subst ht
 rcases bH hN n true c s atEnd h with⟨o1,s1,h1,h2⟩ | ⟨_,h1⟩
 · have:o1=o:=h2
   exact this▸h1
 · exact h1
def aE (P:Program) (E:Env) (O:oP) (n:Nat) (f:FuncId) (args:List AV) (m:Mem) (s:Sc):aG:=
 match init P f args m with
 |some c=>grow P E O n true c s atEnd
 |none=> .stuck
theorem aa (hN:ju P) {O:oP} {n:Nat} {f:FuncId} {args:List AV} {m m':Mem} {s:Sc} {v:AV} {t:aG} (ht:aE P E O n f args m s=t) (h:t.ok P E (.ret v m')):an P E f args m v m':=by
 subst ht
 unfold aE at h
 split at h
 · rename_i c hi;exact gw hN hi (af hN rfl h)
 · exact h.elim
theorem J8 {P:Program} (h:(P.funcs.toList.all fun fn=> !(fn.name == "runtime.NumGoroutine"))=true):ju P:=by
 intro f fn hf
 rw[QQ] at h
 have:=h fn (by rw[←Array.getElem?_toList] at hf;exact mf hf)
 simpa using this
def jZ (E:Env) (f t:Nat):Code→Nat→List It→Option (Code×List It)
 |.loop b,i,k=>match ai i t with
  |true=>some (b,k)
  |false=>jZ E f t b (i+1) (.inLoop i b::fT (E.keep f (2*i+1)) k)
 |.seq a b,i,k=>match jZ E f t a i (.code (i+nodes a) b::k) with
  |some r=>some r
  |none=>jZ E f t b (i+nodes a) k
 |.cond _ a b,i,k=>match jZ E f t a (i+1) (fT (E.keep f (2*i)) k) with
  |some r=>some r
  |none=>jZ E f t b (i+1+nodes a) (fT (E.keep f (2*i)) k)
 |.block id b,i,k=>jZ E f t b i (.inBlock id::k)
 |.scope b,i,k=>jZ E f t b i (.inScope b::k)
 |_,_,_=>none
def ah (P:Program) (E:Env) (f t:Nat) (vs:List AV) (m:Mem) (fix nt:Nat):cw:=
 match P.funcs[f]? with
 |some fn=>match fn.body with
  |some c=>match jZ E f t c 0 [] with
   |some (b,k)=>⟨f,.code (t+1) b :: .inLoop t b::fT (E.keep f (2*t+1)) k,⟨((E.keep f (2*t)).getD []).zip vs,nt,m,fix,[],.call⟩⟩
   |none=>⟨f,[],⟨[],0,[],0,[],.call⟩⟩
  |none=>⟨f,[],⟨[],0,[],0,[],.call⟩⟩
 |none=>⟨f,[],⟨[],0,[],0,[],.call⟩⟩
def J9 (l:List (Nat×Nat×Nat)) (f a b:Nat):Bool:=match l with
 |[]=>false
 |(f',a',b')::r=>cond (ai f f') (cond (ai a a') (cond (ai b b') true (J9 r f a b)) (J9 r f a b)) (J9 r f a b)
def Ma (l:List (Nat×Nat)) (f a:Nat):Bool:=match l with
 |[]=>false
 |(f',a')::r=>cond (ai f f') (cond (ai a a') true (Ma r f a)) (Ma r f a)
def Ka (rows:List (Nat×Nat×List Nat)) (f j:Nat):Option (List Nat):=match rows with
 |[]=>none
 |(f',j',l)::r=>cond (ai f f'&&ai j j') (some l) (Ka r f j)
def av (_:FuncId) (_:List AV) (_:Mem):Option (AV×Mem):=none
def aJ (call ou:FuncId→List AV→Mem→Option (AV×Mem)) (aav:List (Nat×Nat)) (QT QU:List (Nat×Nat×Nat)):oP where
 call:=call
 ou:=ou
 cut:=Ma aav
 fork:=J9 QT
 hard:=J9 QU
 shape _ _ _:=none
def cJ (l:List (Nat×Nat×Nat×AV)) (f a b:Nat):Option (AV→AV):=match l with
 |[]=>none
 |(f',a',b',v)::r=>cond (ai f f'&&(ai a a'&&ai b b')) (some fun _=>v) (cJ r f a b)
def fc (call ou:FuncId→List AV→Mem→Option (AV×Mem)) (aav:List (Nat×Nat)) (QT QU:List (Nat×Nat×Nat)) (shape:FuncId→Nat→Nat→Option (AV→AV)):oP where
 call:=call
 ou:=ou
 cut:=Ma aav
 fork:=J9 QT
 hard:=J9 QU
 shape:=shape
def jH (t:Nat):Code→Nat→Option (Array Tmp×Code×Code)
 |.rangeFunc _ ps as bd,i=>cond (ai i t) (some (ps,as,bd)) none
 |.seq a b,i=>match jH t a i with
  |some r=>some r
  |none=>jH t b (i+nodes a)
 |.cond _ a b,i=>match jH t a (i+1) with
  |some r=>some r
  |none=>jH t b (i+1+nodes a)
 |.block _ b,i=>jH t b i
 |.scope b,i=>jH t b i
 |.loop b,i=>jH t b (i+1)
 |_,_=>none
def rS (P:Program) (f t:Nat) (st:LoopState) (pd:Option Code):eG:=
 match P.funcs[f]? with
 |some fn=>match fn.body with
  |some c=>match jH t c 0 with
   |some (ps,as,bd)=> .loop f ps as bd st pd
   |none=> .opq
  |none=> .opq
 |none=> .opq
end
end Go.Am
end
