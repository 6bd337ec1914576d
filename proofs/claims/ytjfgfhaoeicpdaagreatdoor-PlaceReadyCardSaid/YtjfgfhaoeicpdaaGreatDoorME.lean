import Derived.Test.YtjfgfhaoeicpdaaGreatDoorMD
import Derived.Laws.Externs
import Derived.KernelRfl
import Derived.Orders
open Go.Deferred renaming ofValue→xi
open Go.Sem renaming run_bind→il,run_pure→im
open Go.Result renaming andThen_ok→iu
open Bool renaming and_eq_true→ch,false_eq_true→oE,or_eq_true→ib,not_eq_true'→ic,false_or→xn,not_true→xo
open Go.Region renaming ready→xr,wanted→xf,schedule→xv,binds→yb,linearise→ye
open Go.Frame renaming finish_atR→yi,atR→yn
open Array renaming getD_eq_getD_getElem?→xb,replicate→yo,getElem?_eq_some_iff→yr,getElem?_eq_none→yv,toList_map→fx,toList_append→zd,getElem?_eq_getElem→fl,getElem?_replicate→zr,empty_append→zt
open Option.some renaming injEq→cp
open List renaming range'→wx,getElem?_eq_getElem→bm,getElem?_eq_some_iff→di,mem_append_right→Fs,getElem?_append_left→my,mem_append_left→Ha,getD_eq_getElem?_getD→cb,getElem?_cons_zero→lv,map_congr_left→Hb,mem_cons→oi,getElem?_append_right→Hc,mem_of_getElem?→mc,reverse_singleton→Hd,map_cons→oe,singleton_append→Hk,getElem?_take→c9,getElem?_cons_succ→lL,getElem?_replicate→Hm,mem_range'_1→Hn,replicate→bx,eq_nil_of_length_eq_zero→H0,take_append_of_le_length→mv,mem_append→mi,mem_map→ed,length_erase_of_mem→H2,range'_zero→H3,append_nil→H4,getElem?_eq_none→dp,mem_erase_of_ne→H5,getElem?_map→dC,map_toArray→vb,mem_toArray→If,all_eq_true→Lk,length_take→du,nil_append→M2,mem_range→Pl,toArray→vj,map_nil→vd,range→ee
open Nat renaming testBit→bc,eq_of_beq_eq_true→ag,lt_or_ge→fb,not_lt_zero→ui,le_of_ble_eq_true→eh,le_refl→bj,lt_trichotomy→Ps,beq_refl→ua,sub_self→PH,strongRecOn→PQ,mod_lt→pt,add_assoc→fg,add_comm→QP,beq→ae,zero_le→QQ
open Prod.mk renaming injEq→ie
open Go.Op renaming operands→QR
open Go.Region.linearise renaming go→aao
open Go.Steps renaming refl→aaN
open Option renaming bind_some→tp,map_some→hC
section
namespace Go.Am
open Go.RowKit
section
variable {P:Program} {E:Env} {g:Gh} {w:World}
theorem eB : ∀(us:mX) (m:Mem),(apply m us).length=m.length
 |[],_=>rfl
 |(i,b)::us,m=>by simp[apply,eB us]
def Cl (P:Program) (E:Env) (g:Gh) (c:cm) (fr:Frame) (w:World) (l:List cm):Prop:=
 ∀cs,∃c'∈l,∃g' fr' w',Steps P (lone fr cs w) (lone fr' cs w')∧dN P E g' c' fr' w'∧dc g c.st.mem w g' c'.st.mem w'∧bM g g' c.st.fix∧c'.f=c.f∧c'.st.fix=c.st.fix∧c'.st.b9=c.st.b9
def Cm (P:Program) (E:Env) (g:Gh) (c:cm) (fr:Frame) (w:World):Ev→Prop
 |.next c'=>eN P E g c fr w c'
 |.must b c'=>b=true→eN P E g c fr w c'
 |.test b y z=>(b=true→eN P E g c fr w y)∧(b=false→eN P E g c fr w z)
 |.call f args m ord dst c'=>(∀v m1,an P E f args m v m1→eN P E g c fr w {c' with st:=back ord dst c'.st v m1}) ∧ ∀u m1,M1 P E f args m u m1→eN P E g c fr w (m9 ord c' u m1)
 |.late f args m ord pv c'=> ∀m1,M4 P E f args m pv m1→eN P E g c fr w {c' with st:=back ord none c'.st (.aA []) m1}
 |.round args m ord dst c'=> ∀v m1,Ii P E args m v m1→eN P E g c fr w {c' with st:=back ord dst c'.st v m1}
 |.range f args m ord L c'=> ∀v m1,an P E f args m v m1 → ∀m2 pd,gh (back ord none c'.st v m1).mem L=some (m2,pd)→eN P E g c fr w (behind c' m2 pd)
 |.draw bZ ops c'=> ∀(O:FuncId→List AV→Mem→Option (AV×Mem)) (st':St),(∀g args m v m1,O g args m=some (v,m1)→an P E g args m v m1)→jK P E c'.f bZ O ops c'.st=some (st',true) →
    eN P E g c fr w {c' with st:={st' with cw:=c'.st.cw,b9:=c'.st.b9}}
 |.fork l=>Cl P E g c fr w l
 |.done (.ret v m')=>fr.fn=c.f∧m'=c.st.mem ∧ ∃cv w2,M0 P c.st.b9 fr w cv w2∧VA g w2 v cv∧Rel g m' w2∧dc g m' w g m' w2∧c.st.fix≤m'.length
 |.done (.zw v m')=>fr.fn=c.f∧m'=c.st.mem ∧ ∃cv,fr.leaving P w (.panicked [{v:=cv,recovered:=false}])∧VA g w v cv∧Rel g m' w∧c.st.fix≤m'.length
 |.fail=>True
theorem nf {x:It} {k:List It} (hx:It.pl x) (hk : ∀y∈k,It.pl y) : ∀y∈x::k,It.pl y:=by
 intro y hy
 cases hy with
 |head=>exact hx
 |tail _ hy=>exact hk y hy
theorem dN.mk {c:cm} {b:Frame} {a:Act} (hnf : ∀x∈c.todo,It.pl x) (h1:b.fn=c.f) (h2:eJ g c.st.b9 b) (h3:Mk g c.st.cw a.defers) (h4:cK E g c.st a w):dN P E g c (b.atR a (dU c.todo)) w:=by
 unfold dN
 split
 · rename_i hk;exact absurd (hnf _ (by rw[hk];exact .head _)) id
 · rename_i hk;exact absurd (hnf _ (by rw[hk];exact .head _)) id
 · rename_i hk;exact absurd (hnf _ (by rw[hk];exact .head _)) id
 · rename_i hk;exact absurd (hnf _ (by rw[hk];exact .head _)) id
 · exact⟨b,a,rfl,h1,h2,h3,h4,hnf⟩
theorem eN.quiet {c c':cm} {b:Frame} {a:Act} {fr:Frame} (hst : ∀cs,Steps P (lone fr cs w) (lone (b.atR a (dU c'.todo)) cs w))
  (hnf : ∀x∈c'.todo,It.pl x) (h1:b.fn=c.f) (hf:c'.f=c.f) (h2:eJ g c'.st.b9 b) (h3:Mk g c'.st.cw a.defers) (h4:cK E g c'.st a w) (hm:c'.st.mem=c.st.mem) (hx:c'.st.fix=c.st.fix) (hr:c'.st.b9=c.st.b9:=by rfl):eN P E g c fr w c':=by
 intro cs
 exact⟨g,_,w,hst cs,dN.mk hnf (h1.trans hf.symm) h2 h3 h4,by rw[hm];exact dc.refl _ _ _,bM.refl _ _,hf,hx,hr⟩
theorem put_defers {a:Act} {d:Option Tmp} {v:Value}:(a.put d v).defers=a.defers:=by cases d<;>rfl
theorem WH {st:St} {d:Option Tmp} {v:AV}:(Am.put st d v).cw=st.cw:=by cases d<;>rfl
theorem iG {st:St} {d:Option Tmp} {v:AV}:(Am.put st d v).b9=st.b9:=by cases d<;>rfl
theorem eJ.put {g g':Gh} {w w':World} {st st':St} {b:Frame} {d:Option Tmp} {u:AV} (h:eJ g st.b9 b) (e:Ext g w g' w') (hm:st'.b9=st.b9):eJ g' (Am.put st' d u).b9 b:=by
 rw[iG,hm]
 exact h.ext fun i c q=>(e.bS i c q).1
theorem Mk.put {g g':Gh} {w w':World} {st st':St} {a:Act} {d:Option Tmp} {v:Value} {u:AV} (h:Mk g st.cw a.defers) (e:Ext g w g' w') (hm:st'.cw=st.cw):Mk g' (Am.put st' d u).cw (a.put d v).defers:=by
 rw[put_defers,WH,hm]
 exact h.ext fun i c q=>(e.bS i c q).1
theorem xu {a:Act} {o:Oper} {c:Call} {x:Operand} {f:FuncId} {fa ca:Array Value} (ho:o.op = .call c) (hc:c.callee = .value x) (hx:a.eval x = .func (.func f) fa ca)
  {fn:Func} (hf:P.funcs[f]? = some fn) (hb:fn.body.isSome=true) (hn:(fn.name == "runtime.NumGoroutine")=false) :
  (execOp a.eval o).run P w = .ok (.enter f (fa++c.args.map a.eval++ca)) w:=by
 have VT:fn.body.isNone=false:=by cases hq:fn.body<;>simp_all
 simp only[execOp,ho,resolve,hc,hx,xi,il,im,iu,invoke,callFunc,run_program,hf,hn,oE,if_false,VT]
theorem F8 {b:Frame} {a:Act} {k:List Item} {cs:List Frame} {w':World} {ops:Array Oper} {i:Nat} {rest:List Nat} {o:Oper} {l:Nat} {f:FuncId} {tmps:Array Value} {as bd:Code} (ho:ops[i]? = some o)
  (hw:xf o (yielded ops a.tmps)=true) (hr:(execOp a.eval o).run P w = .ok (.round l f tmps as bd) w') :
  _root_.Go.step P (lone (b.atR a (.inRegion ops (i::rest)::k)) cs w) = .next (lone (Frame.round l f tmps as bd .normal) (b.atR a (.inRegion ops (i::rest)::k)::cs) w'):=by
 have hg:=stepGR_op (P:=P) (b:=b) (k:=k) (cs:=cs) (w:=w) (rest:=rest) ho hw
 exact step_lone_go (by rw[hg,semAt_eq hr fun _ e=>by cases e];simp[stepG.apply,hr,yn])
theorem zS {a:Act} {o:Oper} {c:Call} {x:Operand} {l:Nat} (ho:o.op = .call c) (hc:c.callee = .value x) (hx:a.eval x = .func (.yield l) #[] #[]) {n:Next} {w':World}
  (hy:(Instr.yield l (c.args.map a.eval)).run P w = .ok n w'):(execOp a.eval o).run P w = .ok n w':=by
 simp only[execOp,ho,resolve,hc,hx,xi,il,im,iu,invoke,callFunc,zt]
 exact hy
theorem M5 {st:St} {a:Act} {b:Frame} {k:List Item} {ops:Array Oper} {i:Nat} {rest:List Nat} {o:Oper} {args:List AV} {v:AV} {m1:Mem}
  (hs:cK E g st a w) (hd:Mk g st.cw a.defers) (hb:eJ g st.b9 b) (ho:ops[i]? = some o) (hw:xf o (yielded ops a.tmps)=true) (ht:vE (ev E st.tm) o=some args)
  (hf:fits st o.dst=true) (hlt:iM (close st.mem 0 args) st.mem.length=true)
  (fo:Ii P E (eR (idx (close st.mem 0 args)) args) (pack st.mem (close st.mem 0 args)) v m1) :
  ∀cs,∃g' a' w',Steps P (lone (b.atR a (.inRegion ops (i::rest)::k)) cs w) (lone (b.atR a' (.inRegion ops rest::k)) cs w') ∧
   Mk g' (back (close st.mem 0 args) o.dst st v m1).cw a'.defers∧eJ g' (back (close st.mem 0 args) o.dst st v m1).b9 b∧cK E g' (back (close st.mem 0 args) o.dst st v m1) a' w' ∧
   dc g st.mem w g' (back (close st.mem 0 args) o.dst st v m1).mem w'∧bM g g' st.fix∧(back (close st.mem 0 args) o.dst st v m1).fix=st.fix:=by
 intro cs
 have zx:=gk hs
 unfold vE at ht
 split at ht
 · rename_i call hop
   split at ht
   · rename_i x zT
     split at ht
     · rename_i bl hx
       simp only[cp] at ht
       subst ht
       have zM:=zx x
       rw[hx] at zM
       generalize hcx:a.eval x=cx at zM
       cases zM with
       |vy _ l hl=>
        have hin:bl∈close st.mem 0 (.vy bl::call.args.toList.map (ev E st.tm)):=by
         obtain⟨_,t,h2⟩:=dW (hJ (.vy bl::call.args.toList.map (ev E st.tm))) (upTo 0) (jS 0)
         obtain⟨_,t',h4⟩:=l7 st.mem (st.mem.length+1) (ia (upTo 0) (hJ (.vy bl::call.args.toList.map (ev E st.tm)))) 0 (dW _ _ (jS 0)).1
         unfold close
         rw[h4]
         refine Ha _ ?_
         show bl∈ia [] (bl::hJ (call.args.toList.map (ev E st.tm)))
         simp only[ia,has,cond_false,M2]
         obtain⟨_,t2,h5⟩:=dW (hJ (call.args.toList.map (ev E st.tm))) [bl] (by simp)
         rw[h5]
         exact Ha _ (by simp)
        have hargs:cA g w (call.args.toList.map (ev E st.tm)) (call.args.map a.eval).toList:=by
         rw[fx];exact gC zx _
        generalize hxs:call.args.toList.map (ev E st.tm)=xs at *
        obtain⟨hnd,_⟩:=eU st.mem 0 (.vy bl::xs)
        generalize close st.mem 0 (.vy bl::xs)=ord at *
        obtain⟨MY,MZ⟩:=hs.rel.pack hnd
        have l8:=dA.pack g ord
        obtain⟨j,hj1,hj2⟩:=List.getElem_of_mem hin
        have hoj:ord[j]? = some bl:=by rw[bm hj1,hj2]
        have hidx:idx ord bl=some j:=pV hnd hoj
        have hra:eR (idx ord) (.vy bl::xs) = .vy j::eR (idx ord) xs:=by simp only[eR,Am.jk,hidx]
        have hbj:(g.pack ord).bS j=some l:=by simp[Gh.pack,hoj,hl]
        obtain⟨f,tmps,as,bd,w',g',cv,y,q1,q4,q5,q6,q7,q8⟩:=fo (g.pack ord) w j l (eR (idx ord) xs) (call.args.map a.eval) (b.atR a (.inRegion ops (i::rest)::k)) cs hra MY hbj
         (cA.jk l8 hargs) (hs.cQ.mono fun _ _ p=>⟨p,rfl⟩)
        have hlen:(Am.pack st.mem ord).length=ord.length:=by simp[Am.pack]
        rw[hlen] at q7 q8
        obtain⟨r1,r2,r3,r4⟩:=hs.rel.back hnd (fJ hlt) q5 q6 q7 q8
        have hstep:=F8 (b:=b) (k:=k) (cs:=cs) (rest:=rest) ho hw (zS hop zT hcx y)
        have nE:(b.atR a (.inRegion ops (i::rest)::k)).finish cv=b.atR (a.put o.dst cv) (.inRegion ops rest::k):=by rw[yi,ho];rfl
        rw[nE] at q1
        have nF:st.fix≤(dr (bw ord st.mem.length) ord m1 st.mem).length:=by
         rw[dY _ _ _ _ q8];have:=hs.fix;omega
        refine⟨_,a.put o.dst cv,w',.head hstep q1,hd.put (st':={st with mem:=_}) r2 rfl,hb.put (st':={st with mem:=_}) r2 rfl,hs.put hf (q4.jk r4) r2 r1 nF,?_,bM.qV r2 _,?_⟩
        · have:(back ord o.dst st v m1).mem=dr (bw ord st.mem.length) ord m1 st.mem:=by
           unfold back Am.put;cases o.dst<;>rfl
          rw[this];exact r3
        · unfold back Am.put;cases o.dst<;>rfl
     · cases ht
   · cases ht
 · cases ht
theorem Kl {f:FuncId} (h:HV P f=true) (x:Value):(callFunc f #[x]).run P w = .ok (.value x) w:=by
 unfold HV at h
 split at h
 · rename_i fn hf
   simp only[ch] at h
   obtain⟨h1,h2,h3⟩:=h
   have h2:=of_decide_eq_true h2
   have h3:=of_decide_eq_true h3
   have hn:(fn.name == "runtime.NumGoroutine")=false:=by rw[h2];decide
   have q1:Extern.findNext fn=none:=by
    simp only[Extern.findNext,h2,h3]
    kernel_rfl
   have q2:Extern.find fn=some Extern.AbiNoEscape.same:=by
    simp only[Extern.find,h2,h3]
    kernel_rfl
   rw[run_callFunc_extern hf hn h1 q1 q2]
   rfl
 · cases h
theorem DO {ρ:Operand→AV} {bX:Operand→Value} (hr : ∀x,VA g w (ρ x) (bX x)) {o:Oper} {v:AV} (h:Mw P ρ o=some v) : ∃cv,(execOp bX o).run P w = .ok (.value cv) w∧VA g w v cv:=by
 unfold Mw at h
 split at h
 · rename_i c ho
   split at h
   · rename_i f x hc ha
     have j9:c.args = #[x]:=by have:=congrArg vj ha;simpa using this
     split at h
     · rename_i q hq
       cases he:HV P q with
       |false=>rw[he] at h;cases h
       |true=>
        rw[he] at h
        simp only[cond_true,cp] at h
        subst h
        have hf:=hr f
        rw[hq,VA.fns] at hf
        obtain⟨fa,ca,hcf,q1,q2⟩:=hf
        have e1:fa = #[]:=by cases fa with | mk l=>cases l with | nil=>rfl | cons _ _=>exact q1.elim
        have e2:ca = #[]:=by cases ca with | mk l=>cases l with | nil=>rfl | cons _ _=>exact q2.elim
        subst e1;subst e2
        refine⟨bX x,?_,hr x⟩
        simp only[execOp,ho,resolve,hc,hcf,j9,xi,il,im,iu,invoke,vb,oe,vd,Array.append_empty,zt]
        exact Kl he _
     · cases h
   · cases h
 · cases h
theorem DP {v:AV} {cv:Value} (h:Ak v=true) (hv:VA g w v cv) : ∃t x,cv = .iface t x:=by
 cases hv with
 |mW t v cv h=>exact⟨t,cv,rfl⟩
 |p v cv h'=>cases h' with
  |mW t v cv h=>exact⟨t,cv,rfl⟩
  |_=>cases h
 |_=>cases h
theorem F9 {b:Frame} {a:Act} {k:List Item} {cs:List Frame} {ops:Array Oper} {i:Nat} {rest:List Nat} {o:Oper} {v:Value} (ho:ops[i]? = some o) (hw:xf o (yielded ops a.tmps)=true)
  (hr:(o.semAt b.roundOf a.eval).run P w = .halt (.panic v) w) :
  _root_.Go.step P (lone (b.atR a (.inRegion ops (i::rest)::k)) cs w) = .next (lone {b.atR a (.inRegion ops (i::rest)::k) with mode:=cX (some v) false} cs w):=by
 have hg:=stepGR_op (P:=P) (b:=b) (k:=k) (cs:=cs) (w:=w) (rest:=rest) ho hw
 refine step_lone_go ?_
 rw[hg]
 simp[stepG.apply,hr,Frame.raise,yn,cX]
theorem nG : ∀{l:List AV} {q:List (Nat×Nat)} {cs:List Value},Aj l=some q→cA g w l cs→Mps g q cs
 |[],q,[],h,_=>by
  simp only[Aj,cp] at h;subst h;trivial
 |.mp b off::l,q,cv::cs,h,hv=>by
  simp only[Aj] at h
  split at h
  · rename_i l' hl
    simp only[cp] at h;subst h
    have h1:=hv.1
    cases h1 with
    |mp _ _ c hc=>exact⟨⟨c,hc,rfl⟩,nG hl hv.2⟩
  · cases h
 |[],_,_::_,_,hv=>hv.elim
 |_::_,_,[],_,hv=>hv.elim
 |.aj::_,_,_::_,h,_ | .p _::_,_,_::_,h,_ | .os .. :: _,_,_::_,h,_ | .ms .. :: _,_,_::_,h,_ | .fn .. :: _,_,_::_,h,_ | .agg _::_,_,_::_,h,_ | .aA _::_,_,_::_,h,_
 |.mW .. :: _,_,_::_,h,_ | .vm _::_,_,_::_,h,_ | .vy _::_,_,_::_,h,_=>by cases h
theorem M6 {c:cm} {b:Frame} {a:Act} {k0:List It} {ops:Array Oper} {i bZ:Nat} {o:Oper} (hs:cK E g c.st a w) (vO:b.fn=c.f) (hbk:eJ g c.st.b9 b) (hd:Mk g c.st.cw a.defers)
  (ho:ops[i]? = some o) (hw:xf o (yielded ops a.tmps)=true) (FN : ∀x∈k0,It.pl x) :
  Cm P E g c (b.atR a (.inRegion ops (i::wx (i+1) (ops.size-(i+1)))::dU k0)) w (Mx E c o (.ops bZ ops (i+1) false::k0)):=by
 have zx:=gk hs
 have throw : ∀(x:Operand),Ak (ev E c.st.tm x)=true→(∀v,a.eval x=v→(∃t y,v = .iface t y)→(o.semAt b.roundOf a.eval).run P w = .halt (.panic v) w) →
   eN P E g c (b.atR a (.inRegion ops (i::wx (i+1) (ops.size-(i+1)))::dU k0)) w {c with todo:=[.gQ (ev E c.st.tm x)]}:=by
  intro x hx hrun cs
  have hr:=hrun _ rfl (DP hx (zx x))
  exact⟨g,_,w,.one (F9 ho hw hr),⟨b,a,_,a.eval x,rfl,vO,hbk,hd,hs,zx x⟩,dc.refl _ _ _,bM.refl _ _,rfl,rfl,rfl⟩
 unfold Mx
 split
 · rename_i x hop
   cases hx:Ak (ev E c.st.tm x) with
   |false=>trivial
   |true=>
    refine throw x hx fun v hv ⟨t,y,e⟩=> ?_
    have WI:o.semAt b.roundOf a.eval=execOp a.eval o:=by unfold Oper.semAt;rw[hop];cases b.roundOf<;>rfl
    rw[WI]
    subst hv
    simp only[execOp,hop,e,Instr.panic]
    rfl
 · rename_i d hop
   split
   · rename_i x hc ha
     have j9:d.args = #[x]:=by have:=congrArg vj ha;simpa using this
     cases hx:Ak (ev E c.st.tm x) with
     |false=>trivial
     |true=>
      refine throw x hx fun v hv ⟨t,y,e⟩=> ?_
      have WI:o.semAt b.roundOf a.eval=execOp a.eval o:=by unfold Oper.semAt;rw[hop];cases b.roundOf<;>rfl
      rw[WI]
      subst hv
      simp only[execOp,hop,resolve,hc,j9,il,im,iu,invoke,vb,oe,vd,e]
      rfl
   · trivial
 · rename_i d hop
   split
   · trivial
   · rename_i f hmk zT xw
     split
     · rename_i gf first captured hf
       split
       · rename_i l m hl hm
         intro hfit cs
         have hvf:=zx f
         rw[hf,VA.fns] at hvf
         obtain⟨fa,ca,hcf,WJ,hca⟩:=hvf
         have hro:=hbk.Ck fun i e=>xw i e
         have hrun:(o.semAt b.roundOf a.eval).run P w = .ok (.defer {target:= .fn (.func gf) ca,args:=fa++d.args.map a.eval}) w:=by
          rw[hro]
          simp only[Oper.semAt,execOp,hop,resolve,zT,hcf,xi,il,im,iu]
         have hargs:cA g w (first++d.args.toList.map (ev E c.st.tm)) (fa++d.args.map a.eval).toList:=by
          simp only[zd,fx]
          exact WJ.append (gC zx _)
         rw[hmk] at hd
         have hds:a.defers=[]:=by
          cases hq:a.defers with
          |nil=>rfl
          |cons _ _=>rw[hq] at hd;exact hd.elim
         have hstep:_root_.Go.step P (lone (b.atR a (.inRegion ops (i::wx (i+1) (ops.size-(i+1)))::dU k0)) cs w) =
          .next (lone (b.atR ({a with defers:=[{target:= .fn (.func gf) ca,args:=fa++d.args.map a.eval}]}.put o.dst undef) (.inRegion ops (wx (i+1) (ops.size-(i+1)))::dU k0)) cs w):=by
          have hg:=stepGR_op (P:=P) (b:=b) (k:=dU k0) (cs:=cs) (w:=w) (rest:=wx (i+1) (ops.size-(i+1))) ho hw
          have nE:({b.atR a (.inRegion ops (i::wx (i+1) (ops.size-(i+1)))::dU k0) with defers:={target:= .fn (.func gf) ca,args:=fa++d.args.map a.eval}::a.defers}:Frame).finish undef =
           b.atR ({a with defers:=[{target:= .fn (.func gf) ca,args:=fa++d.args.map a.eval}]}.put o.dst undef) (.inRegion ops (wx (i+1) (ops.size-(i+1)))::dU k0):=by
           have:=yi b {a with defers:=[{target:= .fn (.func gf) ca,args:=fa++d.args.map a.eval}]} ops i (wx (i+1) (ops.size-(i+1))) (dU k0) undef
           rw[ho] at this
           rw[hds]
           exact this
          refine step_lone_go ?_
          rw[hg]
          simp only[stepG.apply,Sem.runT_eq,hrun,GStep.bare_after]
          exact congrArg (fun fr=>GStep.go {frame:=fr,callers:=cs,status:= .running,dying:=none} w) nE
         have hs':cK E g {c.st with cw:=[.late gf l m]} {a with defers:=[{target:= .fn (.func gf) ca,args:=fa++d.args.map a.eval}]} w:=⟨hs.tm,hs.nt,hs.rel,hs.fix,hs.cQ⟩
         have hd':Mk g [.late gf l m] [{target:= .fn (.func gf) ca,args:=fa++d.args.map a.eval}]:=⟨⟨_,_,nG hl hargs,nG hm hca,rfl⟩,trivial⟩
         refine⟨g,_,w,.one hstep,dN.mk (c:={c with todo:= .ops bZ ops (i+1) false::k0,st:=put {c.st with cw:=[.late gf l m]} o.dst (.aA [])}) (nf trivial FN) vO
          (hbk.put (st:=c.st) (st':={c.st with cw:=[.late gf l m]}) (Ext.refl g w) rfl)
          (Mk.put (st:={c.st with cw:=[.late gf l m]}) (st':={c.st with cw:=[.late gf l m]}) (a:={a with defers:=[{target:= .fn (.func gf) ca,args:=fa++d.args.map a.eval}]}) hd' (Ext.refl g w) rfl)
          (hs'.put (cv:=undef) (v:= .aA []) (m':=c.st.mem) hfit (VA.mR.2 trivial) (Ext.refl g w) hs.rel hs.fix),?_,bM.refl _ _,rfl,?_,iG⟩
         · have:(put {c.st with cw:=[.late gf l m]} o.dst (.aA [])).mem=c.st.mem:=by unfold Am.put;cases o.dst<;>rfl
           show dc g c.st.mem w g (put {c.st with cw:=[.late gf l m]} o.dst (.aA [])).mem w
           rw[this];exact dc.refl _ _ _
         · show(put {c.st with cw:=[.late gf l m]} o.dst (.aA [])).fix=c.st.fix
           unfold Am.put;cases o.dst<;>rfl
       · trivial
     · trivial
   · trivial
 · trivial
theorem Ij {c:cm} {b:Frame} {a:Act} {k0:List It} {ops:Array Oper} {i bZ:Nat} {o:Oper} (hs:cK E g c.st a w) (vO:b.fn=c.f) (hbk:eJ g c.st.b9 b) (hd:Mk g c.st.cw a.defers)
  (ho:ops[i]? = some o) (hw:xf o (yielded ops a.tmps)=true) (FN : ∀x∈k0,It.pl x) :
  Cm P E g c (b.atR a (.inRegion ops (wx i (ops.size-i))::dU k0)) w (My P E c bZ o (.ops bZ ops (i+1) false::k0)):=by
 have hi:i<ops.size:=by
  rcases fb i ops.size with q | q
  · exact q
  · rw[yv q] at ho;cases ho
 rw[nD hi]
 unfold My
 have zx:=gk hs
 split
 · rename_i f args ht
   split
   · rename_i v afp
     intro hok cs
     obtain⟨cv,k1,k2⟩:=DO zx afp
     have hstep:=oy (b:=b) (k:=dU k0) (cs:=cs) (rest:=wx (i+1) (ops.size-(i+1))) ho hw (.inl k1)
     refine⟨g,_,w,.one hstep,dN.mk (a:=a.put o.dst cv) (c:={c with todo:= .ops bZ ops (i+1) false::k0,st:=put {c.st with mem:=c.st.mem} o.dst v}) (nf trivial FN) vO (hbk.put (st':={c.st with mem:=_}) (Ext.refl g w) rfl) (hd.put (st':={c.st with mem:=_}) (Ext.refl g w) rfl) (hs.put hok k2 (Ext.refl g w) hs.rel hs.fix),?_,bM.refl _ _,rfl,?_,iG⟩
     · have:(put c.st o.dst v).mem=c.st.mem:=(by unfold Am.put;cases o.dst<;>rfl)
       show dc g c.st.mem w g (put c.st o.dst v).mem w
       rw[this];exact dc.refl _ _ _
     · show(put c.st o.dst v).fix=c.st.fix
       unfold Am.put;cases o.dst<;>rfl
   cases hb:(fits c.st o.dst&&iM (close c.st.mem 0 args) c.st.mem.length) with
   |false=>simp only[hb,cond_false];trivial
   |true=>
    simp only[hb,cond_true]
    simp only[ch] at hb
    unfold target at ht
    split at ht
    · rename_i call hop
      split at ht
      · rename_i x zT
        split at ht
        · rename_i f' first captured hx
          simp only[cp,ie] at ht
          obtain⟨rfl,rfl⟩:=ht
          have zM:=zx x
          rw[hx,VA.fns] at zM
          obtain⟨fa,ca,zM,WJ,hca⟩:=zM
          have hargs:cA g w (first++call.args.toList.map (ev E c.st.tm)++captured) (fa++call.args.map a.eval++ca).toList:=by
           simp only[zd,fx]
           exact(WJ.append (gC zx _)).append hca
          generalize first++call.args.toList.map (ev E c.st.tm)++captured=args at *
          obtain⟨hnd,_⟩:=eU c.st.mem 0 args
          generalize close c.st.mem 0 args=ord at *
          obtain⟨MY,MZ⟩:=hs.rel.pack hnd
          have l8:=dA.pack g ord
          have hlen:(Am.pack c.st.mem ord).length=ord.length:=by simp[Am.pack]
          constructor
          · intro v m1 fo cs
            obtain⟨⟨fn,SG,SH,SI⟩,fo⟩:=fo
            have hrun:=xu (P:=P) (w:=w) hop zT zM SG SH SI
            obtain⟨w',g',cv,fr,q1,q2,q3,q4,q5,q6,q7,q8⟩:=fo (g.pack ord) w (fa++call.args.map a.eval++ca) (b.atR a (.inRegion ops (i::wx (i+1) (ops.size-(i+1)))::dU k0)::cs) MY
             (cA.jk l8 hargs) (hs.cQ.mono fun _ _ p=>⟨p,rfl⟩)
            rw[hlen] at q7 q8
            obtain⟨r1,r2,r3,r4⟩:=hs.rel.back hnd (fJ hb.2) q5 q6 q7 q8
            have hstep:=pW (b:=b) (k:=dU k0) (cs:=cs) (rest:=wx (i+1) (ops.size-(i+1))) ho hw hrun
            have hleave:=step_leave_returned (P:=P) (c:=b.atR a (.inRegion ops (i::wx (i+1) (ops.size-(i+1)))::dU k0)) (cs:=cs) q2
            have nE:(b.atR a (.inRegion ops (i::wx (i+1) (ops.size-(i+1)))::dU k0)).finish cv=b.atR (a.put o.dst cv) (.inRegion ops (wx (i+1) (ops.size-(i+1)))::dU k0):=by
             rw[yi,ho];rfl
            rw[nE] at hleave
            have nF:c.st.fix≤(dr (bw ord c.st.mem.length) ord m1 c.st.mem).length:=by
             rw[dY _ _ _ _ q8];have:=hs.fix;omega
            refine⟨_,_,w',.head hstep (q1.trans (.one hleave)),dN.mk (a:=a.put o.dst cv) (c:={c with todo:= .ops bZ ops (i+1) false::k0,st:=back ord o.dst c.st v m1}) (nf trivial FN) vO (hbk.put (st':={c.st with mem:=_}) r2 rfl) (hd.put (st':={c.st with mem:=_}) r2 rfl) (hs.put hb.1 (q4.jk r4) r2 r1 nF),?_,bM.qV r2 _,rfl,?_,iG⟩
            · have:(back ord o.dst c.st v m1).mem=dr (bw ord c.st.mem.length) ord m1 c.st.mem:=by
               unfold back Am.put;cases o.dst<;>rfl
              show dc g c.st.mem w _ (back ord o.dst c.st v m1).mem w'
              rw[this];exact r3
            · show(back ord o.dst c.st v m1).fix=c.st.fix
              unfold back Am.put;cases o.dst<;>rfl
          · intro u m1 fo cs
            obtain⟨⟨fn,SG,SH,SI⟩,fo⟩:=fo
            have hrun:=xu (P:=P) (w:=w) hop zT zM SG SH SI
            obtain⟨w',g',cv,fr,q1,q2,q3,q4,q5,q6,q7,q8⟩:=fo (g.pack ord) w (fa++call.args.map a.eval++ca) (b.atR a (.inRegion ops (i::wx (i+1) (ops.size-(i+1)))::dU k0)::cs) MY
             (cA.jk l8 hargs) (hs.cQ.mono fun _ _ p=>⟨p,rfl⟩)
            rw[hlen] at q7 q8
            obtain⟨r1,r2,r3,r4⟩:=hs.rel.back hnd (fJ hb.2) q5 q6 q7 q8
            have hstep:=pW (b:=b) (k:=dU k0) (cs:=cs) (rest:=wx (i+1) (ops.size-(i+1))) ho hw hrun
            have hleave:=step_leave_panicked (P:=P) (c:=b.atR a (.inRegion ops (i::wx (i+1) (ops.size-(i+1)))::dU k0)) (cs:=cs) q2
            have nF:c.st.fix≤(dr (bw ord c.st.mem.length) ord m1 c.st.mem).length:=by
             rw[dY _ _ _ _ q8];have:=hs.fix;omega
            refine⟨_,_,w',.head hstep (q1.trans (.one hleave)),⟨b,a,_,cv,rfl,vO,hbk.ext fun i c q=>(r2.bS i c q).1,hd.ext fun i c q=>(r2.bS i c q).1,⟨fun k=>(hs.tm k).mono r2,hs.nt,r1,nF,hs.cQ.mono r2.pure⟩,q4.jk r4⟩,r3,bM.qV r2 _,rfl,rfl,rfl⟩
        · cases ht
      · cases ht
    · cases ht
 · dsimp only
   split
   · rename_i args ht
     cases hb:(fits c.st o.dst&&iM (close c.st.mem 0 args) c.st.mem.length) with
     |false=>trivial
     |true=>
      simp only[cond_true]
      simp only[ch] at hb
      intro v m1 fo cs
      obtain⟨g',a',w',r1,r2,r3,r4,r5,r6,r7⟩:=M5 (P:=P) (k:=dU k0) (rest:=wx (i+1) (ops.size-(i+1))) hs hd hbk ho hw ht hb.1 hb.2 fo cs
      exact⟨g',_,w',r1,dN.mk (a:=a') (c:={c with todo:= .ops bZ ops (i+1) false::k0,st:=back (close c.st.mem 0 args) o.dst c.st v m1}) (nf trivial FN) vO r3 r2 r4,r5,r6,rfl,r7,iG⟩
   · split
     · rename_i v us ok he
       intro hok cs
       simp only[ch] at hok
       obtain⟨rfl,hfit⟩:=hok
       have hres:Rel g (reserve o c.st.mem) w∧dc g c.st.mem w g (reserve o c.st.mem) w:=by
        unfold reserve
        cases makes o with
        |true=>exact hs.rel.reserve
        |false=>exact⟨hs.rel,dc.refl _ _ _⟩
       have hfree:makes o=true→(reserve o c.st.mem)[c.st.mem.length]? = some .free:=by
        intro hm
        simp[reserve,hm]
       obtain⟨cv,w',g',k1,k2,k3,k4,k5⟩:=ox hres.1 zx (fun _=>rfl) hfree he
       have hstep:=oy (b:=b) (k:=dU k0) (cs:=cs) (rest:=wx (i+1) (ops.size-(i+1))) ho hw k1
       have nF:c.st.fix≤(apply (reserve o c.st.mem) us).length:=by
        rw[eB]
        have:=hs.fix
        unfold reserve
        cases makes o<;>simp<;>omega
       refine⟨g',_,w',.one hstep,dN.mk (a:=a.put o.dst cv) (c:={c with todo:= .ops bZ ops (i+1) false::k0,st:=put {c.st with mem:=apply (reserve o c.st.mem) us} o.dst v}) (nf trivial FN) vO (hbk.put (st':={c.st with mem:=_}) k4 rfl) (hd.put (st':={c.st with mem:=_}) k4 rfl) (hs.put hfit k2 k4 k3 nF),?_,bM.qV k4 _,rfl,?_,iG⟩
       · have:(put {c.st with mem:=apply (reserve o c.st.mem) us} o.dst v).mem=apply (reserve o c.st.mem) us:=by unfold Am.put;cases o.dst<;>rfl
         show dc g c.st.mem w _ (put {c.st with mem:=apply (reserve o c.st.mem) us} o.dst v).mem w'
         rw[this];exact hres.2.trans k5
       · show(put {c.st with mem:=apply (reserve o c.st.mem) us} o.dst v).fix=c.st.fix
         unfold Am.put;cases o.dst<;>rfl
     · split
       · rename_i afq
         cases hfit:fits c.st o.dst with
         |false=>trivial
         |true=>
          simp only[cond_true]
          intro cs
          obtain⟨bb,k1⟩:=Ci zx (fun _=>rfl) afq
          have hstep:=oy (b:=b) (k:=dU k0) (cs:=cs) (rest:=wx (i+1) (ops.size-(i+1))) ho hw (.inl k1)
          refine⟨{c with todo:= .ops bZ ops (i+1) false::k0,st:=put c.st o.dst (sB bb)},by cases bb<;>simp,g,_,w,.one hstep,dN.mk (a:=a.put o.dst (.bool bb)) (c:={c with todo:= .ops bZ ops (i+1) false::k0,st:=put c.st o.dst (sB bb)}) (nf trivial FN) vO (hbk.put (st':=c.st) (Ext.refl g w) rfl) (hd.put (st':=c.st) (Ext.refl g w) rfl) (hs.put hfit (.p _ _ (.sc _)) (Ext.refl _ _) hs.rel hs.fix),?_,bM.refl _ _,rfl,?_,iG⟩
          · have:(put c.st o.dst (sB bb)).mem=c.st.mem:=by unfold Am.put;cases o.dst<;>rfl
            show dc g c.st.mem w _ (put c.st o.dst (sB bb)).mem w
            rw[this];exact dc.refl _ _ _
          · show(put c.st o.dst (sB bb)).fix=c.st.fix
            unfold Am.put;cases o.dst<;>rfl
       · exact M6 hs vO hbk hd ho hw FN
end
end Go.Am
end
section
namespace Go.Am
section
variable {P:Program} {E:Env}
theorem uw {ρ ρ':Operand→AV} : ∀{l:List Operand},(∀x∈l,ρ x=ρ' x)→tY ρ l=tY ρ' l
 |[],_=>rfl
 |x::r,h=>by simp only[tY,h x (.head _),uw fun y hy=>h y (.tail _ hy)]
theorem nH {ρ ρ':Operand→AV} {x:Option Operand} (h : ∀y∈x,ρ y=ρ' y) (d:Nat):bound ρ x d=bound ρ' x d:=by
 cases x with
 |none=>rfl
 |some x=>simp only[bound,h x (by simp)]
theorem AD {rd:Nat→aU} {wr:Bool} {br:Nat} {ρ ρ':Operand→AV} {o:Oper} (hq:gx o=true) (h : ∀x∈o.op.operands,ρ x=ρ' x):uc P rd wr br ρ o=uc P rd wr br ρ' o:=by
 have hsel : ∀cs b,o.op ≠ .select cs b:=by
  intro cs b e
  simp[gx,e] at hq
 have hsc:scalar P ρ o=scalar P ρ' o:=by
  unfold scalar
  rw[uw (ρ:=ρ) (ρ':=ρ') fun x hx=>h x (by simpa using hx),
   execOp_congr (ρ:=fun x=>(J6 (ρ x)).getD undef) (ρ':=fun x=>(J6 (ρ' x)).getD undef) o hsel fun x hx=>by rw[h x hx]]
 obtain⟨dst,op,type,pos,after,guard⟩:=o
 cases op<;>simp only[gx,oE] at hq<;>simp only[QR] at h<;>simp only[uc]
 case move x=>rw[h x (by simp)]
 case assign x=>rw[h x (by simp)]
 case pick c a b=>rw[h c (by simp),h a (by simp),h b (by simp)]
 case build t ps=>
  have:ps.toList.map (fun q=>(q.1,ρ q.2))=ps.toList.map fun q=>(q.1,ρ' q.2):=
   Hb fun q hq=>by rw[h q.2 (by simp only[If,ed];exact⟨q,hq,rfl⟩)]
  rw[this]
 case load t a=>rw[h a (by simp)]
 case nilCheck x=>rw[h x (by simp)];simp only[jF,hsc]
 case binOp op t x y r=>rw[h x (by simp),h y (by simp)];simp only[qA,hsc]
 case unOp op t x=>rw[h x (by simp)];simp only[wm,hsc]
 case convert s d x=>rw[h x (by simp)];simp only[convertOp,hsc]
 case makeInterface t x=>rw[h x (by simp)]
 case makeFunc f first captured=>
  rw[Hb (l:=first.toList) fun x hx=>h x (by simp_all),Hb (l:=captured.toList) fun x hx=>h x (by simp_all)]
 case slice t x lo hi mx=>
  rw[h x (by simp)]
  have h1:=nH (ρ:=ρ) (ρ':=ρ') (x:=lo) fun y hy=>h y (by simp_all)
  have h2:=nH (ρ:=ρ) (ρ':=ρ') (x:=hi) fun y hy=>h y (by simp_all)
  have h3:=nH (ρ:=ρ) (ρ':=ρ') (x:=mx) fun y hy=>h y (by simp_all)
  cases mx with
  |none=>
   simp only[og,h1,h2]
   repeat' first | rfl | split
   all_goals simp_all
  |some m=>
   simp only[og,h1,h2]
   repeat' first | rfl | split
   all_goals simp_all
 case fieldAddr t x f=>rw[h x (by simp)]
 case field t x f=>rw[h x (by simp)]
 case indexAddr t x i=>rw[h x (by simp),h i (by simp)]
 case index t x i=>rw[h x (by simp),h i (by simp)]
 case extract x i=>rw[h x (by simp)]
 case call c=>
  obtain⟨callee,args,tys⟩:=c
  cases callee with
  |value _=>simp at hq
  |invoke _ _=>simp at hq
  |builtin b=>
   simp only[Call.operands] at h
   obtain⟨args⟩:=args
   have hmm : ∀mn,jH P ρ ⟨dst,.call ⟨.builtin b,⟨args⟩,tys⟩,type,pos,after,guard⟩ mn args=jH P ρ' ⟨dst,.call ⟨.builtin b,⟨args⟩,tys⟩,type,pos,after,guard⟩ mn args:=by
    intro mn
    unfold jH
    rw[hsc,Hb (l:=args) fun x hx=>h x (by simp_all)]
   cases b<;>simp only[oE] at hq<;>simp only[hmm]
   cases args with
   |nil=>rfl
   |cons x r=>cases r with
    |nil=>simp only[h x (by simp)]
    |cons _ _=>rfl
theorem qX (st:St) (dst:Option Tmp) (v:AV) (t:Nat):look (put st dst v).tm t=if dst=some t then v else look st.tm t:=by
 cases dst with
 |none=>simp[put]
 |some d=>simp only[put,jy,cp]
theorem Cn (st:St) (dst:Option Tmp) (v:AV):(put st dst v).mem=st.mem∧(put st dst v).nt=st.nt∧(put st dst v).fix=st.fix:=by
 cases dst<;>exact⟨rfl,rfl,rfl⟩
theorem l9 {a b:List Nat} (h:meet a b=false) {i:Nat} (ha:i∈a) (hb:i∈b):False:=by
 simp only[meet,List.any_eq_false] at h
 have:=h i ha
 simp only[List.any_eq_true,not_exists,not_and] at this
 exact this i hb (ua i)
theorem DQ : ∀(l:List Oper) (acc:List Nat),∃M,masks acc l=acc++M∧M.length=l.length ∧ ∀i o,l[i]? = some o→M[i]? = some (pN (acc++M.take i) o)
 |[],acc=>⟨[],by simp[masks]⟩
 |o::r,acc=>by
  obtain⟨M,h1,h2,h3⟩:=DQ r (acc++[pN acc o])
  refine⟨pN acc o::M,by simp[masks,h1],by simp[h2],?_⟩
  intro i p hp
  cases i with
  |zero=>simp only[lv,cp] at hp;subst hp;simp
  |succ i=>
   simp only[lL] at hp
   have:=h3 i p hp
   simpa using this
theorem Ga {acc:List Nat} {o:Oper} {j:Nat} (h:bc (pN acc o) j=true) : ∃e∈o.after,yb .any e=true∧(e.on=j∨bc (acc.getD e.on 0) j=true):=by
 unfold pN at h
 have key : ∀(l:List Edge) (s:Nat),bc (l.foldl (fun s e=>cond (yb .any e) (s|||(2 ^ e.on|||acc.getD e.on 0)) s) s) j=true →
   bc s j=true ∨ ∃e∈l,yb .any e=true∧(e.on=j∨bc (acc.getD e.on 0) j=true):=by
  intro l
  induction l with
  |nil=>intro s h;exact .inl h
  |cons e r ih=>
   intro s h
   simp only[List.foldl_cons] at h
   rcases ih _ h with h | ⟨e',he',q⟩
   · cases hb:yb .any e with
     |false=>rw[hb] at h;exact .inl h
     |true=>
      rw[hb] at h
      simp only[cond_true,Nat.testBit_or,ib] at h
      rcases h with h | h | h
      · exact .inl h
      · refine .inr ⟨e,.head _,hb,.inl ?_⟩
        rw[Nat.testBit_two_pow] at h
        exact of_decide_eq_true h
      · exact .inr ⟨e,.head _,hb,.inr h⟩
   · exact .inr ⟨e',.tail _ he',q⟩
 rcases key _ _ h with h | ⟨e,he,q⟩
 · simp at h
 · exact⟨e,by simpa using he,q⟩
theorem oV {q:Oper→Bool} {ops:Array Oper} {L:List Nat} : ∀{r mQ:List Oper},jI q ops L mQ.length mQ r=true →
  ∀i o,(mQ++r)[i]? = some o→mQ.length≤i →
   q o=true∧(∀e∈o.after,yb .any e=true→e.on<i) ∧ ∀j p,j<i→(mQ++r)[j]? = some p→pO ops L i o j p=true
 |[],mQ,_,i,o,ho,hi=>by
  simp only[H4] at ho
  rw[dp hi] at ho;cases ho
 |q0::r,mQ,h,i,o,ho,hi=>by
  simp only[jI,ch] at h
  obtain⟨⟨⟨h1,h2⟩,h3⟩,h4⟩:=h
  by_cases hc:i=mQ.length
  · subst hc
    have:o=q0:=by simpa using ho.symm
    subst this
    refine⟨h1,?_,?_⟩
    · intro e he hb
      have:=Lk.1 h2 e (by simpa using he)
      simp only[hb,xo,xn] at this
      rwa [Nat.blt_eq] at this
    · intro j p hj hp
      have key : ∀(l:List Oper) (k:Nat),vG ops L mQ.length o k l=true → ∀m p,l[m]? = some p→pO ops L mQ.length o (k+m) p=true:=by
       intro l
       induction l with
       |nil=>intro k _ m p hp;simp at hp
       |cons x l ih=>
        intro k hk m p hp
        simp only[vG,ch] at hk
        cases m with
        |zero=>simp only[lv,cp] at hp;subst hp;exact hk.1
        |succ m=>
         simp only[lL] at hp
         have:=ih (k+1) hk.2 m p hp
         rwa [fg,QP 1 m] at this
      have hp':mQ[j]? = some p:=by rwa [my hj] at hp
      simpa using key mQ 0 h3 j p hp'
  · have h4':jI q ops L (mQ++[q0]).length (mQ++[q0]) r=true:=by simpa using h4
    have:=oV h4' i o (by simpa using ho) (by simp;omega)
    simpa using this
def VU (P:Program) (E:Env) (rd:Nat→aU) (wr:Bool) (br:Nat) (ops:Array Oper) (st:St) (o:Oper) (v:AV):Prop:=
 ((ep ops st.tm o = .yes ∨ ∃d b want,ep ops st.tm o = .ask d b want∧(b==want)=true)∧uc P rd wr br (ev E st.tm) o=some (v,[],true)) ∨
 ((ep ops st.tm o = .no ∨ ∃d b want,ep ops st.tm o = .ask d b want∧(b==want)=false)∧v = .aA [])
inductive Co (P:Program) (E:Env) (rd:Nat→aU) (wr:Bool) (br:Nat) (ops:Array Oper):List Oper→St→List AV→St→Prop
 |nil (st:St):Co P E rd wr br ops [] st [] st
 |cons (o:Oper) (r:List Oper) (st:St) (v:AV) (vs:List AV) (st':St) (hf:fits st o.dst=true) (h:VU P E rd wr br ops st o v)
   (hr:Co P E rd wr br ops r (put st o.dst v) vs st'):Co P E rd wr br ops (o::r) st (v::vs) st'
theorem nI {rd:Nat→aU} {wr:Bool} {br:Nat} {ops:Array Oper} : ∀{l:List Oper} {st st':St},kA P E rd wr br ops l st=some (st',true) → ∃vs,Co P E rd wr br ops l st vs st'
 |[],st,st',h=>by
  simp only[kA,cp,ie,and_true] at h
  subst h
  exact⟨[],.nil st⟩
 |o::r,st,st',h=>by
  have skip:(match kA P E rd wr br ops r (put st o.dst (.aA [])) with
   |some (st',ok)=>some (st',fits st o.dst&&ok)
   |none=>none)=some (st',true)→fits st o.dst=true ∧ ∃vs,Co P E rd wr br ops r (put st o.dst (.aA [])) vs st':=by
   intro h
   split at h
   · rename_i SJ ok hq
     simp only[cp,ie,ch] at h
     obtain⟨rfl,h1,rfl⟩:=h
     exact⟨h1,nI hq⟩
   · cases h
  have qE:(match uc P rd wr br (ev E st.tm) o with
   |some (v,[],ok)=>match kA P E rd wr br ops r (put st o.dst v) with
    |some (st',ok')=>some (st',ok&&(fits st o.dst&&ok'))
    |none=>none
   |_=>none)=some (st',true) → ∃v,uc P rd wr br (ev E st.tm) o=some (v,[],true)∧fits st o.dst=true ∧ ∃vs,Co P E rd wr br ops r (put st o.dst v) vs st':=by
   intro h
   split at h
   · rename_i v ok hop
     split at h
     · rename_i SJ ok' hq
       simp only[cp,ie,ch] at h
       obtain⟨rfl,rfl,h1,rfl⟩:=h
       exact⟨v,hop,h1,nI hq⟩
     · cases h
   · cases h
  unfold kA at h
  dsimp only at h
  cases hw:ep ops st.tm o with
  |yes=>
   rw[hw] at h
   obtain⟨v,h1,h2,vs,h3⟩:=qE h
   exact⟨v::vs,.cons o r st v vs st' h2 (.inl ⟨.inl hw,h1⟩) h3⟩
  |no=>
   rw[hw] at h
   obtain⟨h2,vs,h3⟩:=skip h
   exact⟨.aA []::vs,.cons o r st _ vs st' h2 (.inr ⟨.inl hw,rfl⟩) h3⟩
  |lost=>rw[hw] at h;cases h
  |ask d b want=>
   rw[hw] at h
   dsimp only at h
   cases hb:b==want with
   |true=>
    rw[hb] at h
    obtain⟨v,h1,h2,vs,h3⟩:=qE h
    exact⟨v::vs,.cons o r st v vs st' h2 (.inl ⟨.inr ⟨d,b,want,hw,hb⟩,h1⟩) h3⟩
   |false=>
    rw[hb] at h
    obtain⟨h2,vs,h3⟩:=skip h
    exact⟨.aA []::vs,.cons o r st _ vs st' h2 (.inr ⟨.inr ⟨d,b,want,hw,hb⟩,rfl⟩) h3⟩
def DR (l:List Oper):Prop:= ∀(i j:Nat) (p q:Oper) (t:Tmp),i<j→l[i]? = some p→l[j]? = some q→p.dst=some t→q.dst≠some t
def dL (l:List Oper) (vs:List AV) (st:St) (i:Nat) (iH:St):Prop:=
 iH.mem=st.mem∧iH.nt=st.nt∧iH.fix=st.fix∧(∀j p v t,j<i→l[j]? = some p→vs[j]? = some v→p.dst=some t→look iH.tm t=v) ∧
 (∀t,(∀j p,j<i→l[j]? = some p→p.dst≠some t)→look iH.tm t=look st.tm t)
theorem dL.cons {o:Oper} {r:List Oper} {v:AV} {vs:List AV} {st iH:St} {i:Nat} (hu:DR (o::r)) (h:dL r vs (put st o.dst v) i iH):dL (o::r) (v::vs) st (i+1) iH:=by
 obtain⟨h1,h2,h3,h4,h5⟩:=h
 obtain⟨q1,q2,q3⟩:=Cn st o.dst v
 refine⟨h1.trans q1,h2.trans q2,h3.trans q3,?_,?_⟩
 · intro j p w t hj hp hw ht
   cases j with
   |zero=>
    simp only[lv,cp] at hp hw
    subst hp;subst hw
    rw[h5 t fun j p _ hp=>hu 0 (j+1) o p t (by omega) rfl (by simpa using hp) ht,qX,if_pos ht]
   |succ j=>exact h4 j p w t (by omega) (by simpa using hp) (by simpa using hw) ht
 · intro t ht
   rw[h5 t fun j p hj hp=>ht (j+1) p (by omega) (by simpa using hp),qX,if_neg (ht 0 o (by omega) rfl)]
theorem Co.spec {rd:Nat→aU} {wr:Bool} {br:Nat} {ops:Array Oper} {l:List Oper} {st st':St} {vs:List AV} (h:Co P E rd wr br ops l st vs st') (hu:DR l) :
  vs.length=l.length∧dL l vs st l.length st' ∧ ∀i o,l[i]? = some o → ∃v iH,vs[i]? = some v∧VU P E rd wr br ops iH o v∧fits iH o.dst=true∧dL l vs st i iH:=by
 induction h with
 |nil st=>exact⟨rfl,⟨rfl,rfl,rfl,fun j _ _ _ hj=>absurd hj (ui _),fun _ _=>rfl⟩,fun i o ho=>by simp at ho⟩
 |cons o r st v vs st' hf hk hr ih=>
  have Sf:DR r:=fun i j p q t hij hp hq=>hu (i+1) (j+1) p q t (by omega) (by simpa using hp) (by simpa using hq)
  obtain⟨h1,h2,h3⟩:=ih Sf
  refine⟨by simp[h1],h2.cons hu,?_⟩
  intro i p hp
  cases i with
  |zero=>
   simp only[lv,cp] at hp
   subst hp
   exact⟨v,st,rfl,hk,hf,rfl,rfl,rfl,fun j _ _ _ hj=>absurd hj (ui _),fun _ _=>rfl⟩
  |succ i=>
   obtain⟨w,iH,q1,q2,q3,q4⟩:=h3 i p (by simpa using hp)
   exact⟨w,iH,by simpa using q1,q2,q3,q4.cons hu⟩
structure mS (ops:Array Oper) (L:List Nat) (vs:List AV) (gA eG:St) (S:Array Bool):Prop where
 size:S.size=ops.size
 mem:eG.mem=gA.mem
 nt:eG.nt=gA.nt
 fix:eG.fix=gA.fix
 a : ∀(j:Nat) (p:Oper) (v:AV) (t:Tmp),S.getD j false=true→ops.toList[j]? = some p→vs[j]? = some v→p.dst=some t→look eG.tm t=v
 b : ∀t:Tmp,(∀(j:Nat) (p:Oper),S.getD j false=true→ops.toList[j]? = some p→p.dst≠some t)→look eG.tm t=look gA.tm t
 cl : ∀i j:Nat,S.getD i false=true→bc (L.getD i 0) j=true→S.getD j false=true
structure vi (ops:Array Oper) (L:List Nat):Prop where
 mask : ∀i o,ops.toList[i]? = some o→L[i]? = some (pN (L.take i) o)
 low : ∀(i:Nat) o,ops.toList[i]? = some o → ∀e∈o.after,yb .any e=true→e.on<i
 pair : ∀(i:Nat) o,ops.toList[i]? = some o → ∀j p,j<i→ops.toList[j]? = some p→pO ops L i o j p=true
theorem vi.of {q:Oper→Bool} {ops:Array Oper} (h:jI q ops (masks [] ops.toList) 0 [] ops.toList=true):vi ops (masks [] ops.toList) ∧ ∀(i:Nat) o,ops.toList[i]? = some o→q o=true:=by
 obtain⟨M,h1,_,h3⟩:=DQ ops.toList []
 simp only[M2] at h1 h3
 rw[h1] at h ⊢
 have hs:=fun i o ho=>oV (mQ:=[]) h i o ho (QQ _)
 exact⟨⟨h3,fun i o ho=>(hs i o ho).2.1,fun i o ho=>(hs i o ho).2.2⟩,fun i o ho=>(hs i o ho).1⟩
theorem vi.uniq {ops:Array Oper} {L:List Nat} (h:vi ops L):DR ops.toList:=by
 intro i j p q t hij hp hq ht ht'
 have:=h.pair j q hq i p hij hp
 simp only[pO,ch,ic] at this
 exact l9 this.1 (i:=t) (by simp[ht']) (by simp[ht])
theorem lu {S:Array Bool} {j:Nat} (h:j<S.size) (d d':Bool):S.getD j d=S.getD j d':=by
 simp[xb,fl h]
theorem SK {S:Array Bool} {j:Nat} (h:S.getD j false=true):j<S.size:=by
 rcases fb j S.size with q | q
 · exact q
 · rw[xb,yv q] at h;cases h
section
variable {ops:Array Oper} {L:List Nat} {vs:List AV} {gA eG iH:St} {S:Array Bool}
theorem mS.ahead (hI:mS ops L vs gA eG S) (hO:vi ops L) {i:Nat} (hi:i∈xr .any ops S) {j:Nat} (hb:bc (L.getD i 0) j=true):S.getD j false=true:=by
 obtain⟨_,o,ho,hr⟩:=mem_ready.1 hi
 have ho':ops.toList[i]? = some o:=by simpa using ho
 have hm:=hO.mask i o ho'
 rw[cb,hm,Option.getD_some] at hb
 obtain⟨e,he,zy,h⟩:=Ga hb
 rcases h with h | h
 · exact h▸hr e he zy
 · have hlt:=hO.low i o ho' e he zy
   refine hI.cl e.on j (hr e he zy) ?_
   rw[cb,c9,if_pos hlt,←cb] at h
   exact h
theorem mS.slots (hI:mS ops L vs gA eG S) (hO:vi ops L) {i:Nat} {o:Oper} (ho:ops.toList[i]? = some o) (hi:i∈xr .any ops S) (hl:vs.length=ops.toList.length) (Gb:dL ops.toList vs gA i iH)
  {t:Tmp} (ht:t∈Am.slots ops o):look eG.tm t=look iH.tm t:=by
 obtain⟨_,_,_,hA,hB⟩:=Gb
 have hu:=hO.uniq
 have hni:S.getD i false=false:=by
  obtain⟨h,_⟩:=mem_ready.1 hi
  cases hq:S.getD i false with
  |false=>rfl
  |true=>rw[lu (SK hq) false true,h] at hq;cases hq
 by_cases hw : ∃(j:Nat) (p:Oper),ops.toList[j]? = some p∧p.dst=some t
 · obtain⟨j,p,hp,hd⟩:=hw
   have only : ∀(k:Nat) (q:Oper),ops.toList[k]? = some q→q.dst=some t→k=j:=by
    intro k q hq Sg
    rcases Ps k j with h | h | h
    · exact absurd hd (hu k j q p t h hq hp Sg)
    · exact h
    · exact absurd Sg (hu j k p q t h hp hq hd)
   rcases Ps j i with h | h | h
   · have DS:=hO.pair i o ho j p h hp
     simp only[pO,ch,ib,ic] at DS
     have WK:bc (L.getD i 0) j=true:=by
      rcases DS.2 with q | q
      · exact q
      · exact(l9 q.1 (i:=t) (by simp[hd]) ht).elim
     have hS:=hI.ahead hO hi WK
     have MJ : ∃v,vs[j]? = some v:=by
      have:j<vs.length:=by rw[hl];exact(di.1 hp).1
      exact⟨vs[j],bm this⟩
     obtain⟨v,hv⟩:=MJ
     rw[hI.a j p v t hS hp hv hd,hA j p v t h hp hv hd]
   · subst h
     rw[hI.b t,hB t]
     · intro k q hk hq Sg
       have:=only k q hq Sg
       omega
     · intro k q hk hq Sg
       have:=only k q hq Sg
       subst this
       rw[hni] at hk;cases hk
   · have DS:=hO.pair j p hp i o h ho
     simp only[pO,ch,ib,ic] at DS
     have WK:bc (L.getD j 0) i=true:=by
      rcases DS.2 with q | q
      · exact q
      · exact(l9 q.2 (i:=t) (by simp[hd]) ht).elim
     rw[hI.b t,hB t]
     · intro k q hk hq Sg
       have:=only k q hq Sg
       omega
     · intro k q hk hq Sg
       have:=only k q hq Sg
       subst this
       have:=hI.cl k i hk WK
       rw[hni] at this;cases this
 · have hno : ∀(k:Nat) (q:Oper),ops.toList[k]? = some q→q.dst≠some t:=fun k q hq hd=>hw ⟨k,q,hq,hd⟩
   rw[hI.b t fun k q _ hq=>hno k q hq,hB t fun k q _ hq=>hno k q hq]
theorem mS.step (hI:mS ops L vs gA eG S) (hO:vi ops L) {i:Nat} {o:Oper} {v:AV} (ho:ops.toList[i]? = some o) (hv:vs[i]? = some v) (hi:i∈xr .any ops S) :
  mS ops L vs gA (put eG o.dst v) (S.setIfInBounds i true):=by
 obtain⟨q1,q2,q3⟩:=Cn eG o.dst v
 have hu:=hO.uniq
 have zG : ∀j,(S.setIfInBounds i true).getD j false=true→j=i∨S.getD j false=true:=by
  intro j hj
  by_cases h:i=j
  · exact .inl h.symm
  · rw[getD_set_ne false h] at hj;exact .inr hj
 have hup : ∀j,S.getD j false=true→(S.setIfInBounds i true).getD j false=true:=fun j hj=>getD_set_true hj
 refine⟨by simp[hI.size],q1.trans hI.mem,q2.trans hI.nt,q3.trans hI.fix,?_,?_,?_⟩
 · intro j p w t hj hp hw hd
   rw[qX]
   by_cases hji:j=i
   · subst hji
     rw[ho] at hp;cases hp
     rw[hv] at hw;cases hw
     rw[if_pos hd]
   · have hne:o.dst≠some t:=by
      rcases Nat.lt_or_gt_of_ne hji with h | h
      · exact hu j i p o t h hp ho hd
      · exact fun hod=>hu i j o p t h ho hp hod hd
     rw[if_neg hne]
     rcases zG j hj with h | h
     · exact absurd h hji
     · exact hI.a j p w t h hp hw hd
 · intro t ht
   have ud:i<S.size:=by rw[hI.size];have:=(di.1 ho).1;simpa using this
   have hne:o.dst≠some t:=ht i o (by simp[xb,ud]) ho
   rw[qX,if_neg hne]
   exact hI.b t fun j p hj hp=>ht j p (hup j hj) hp
 · intro k j hk hb
   rcases zG k hk with h | h
   · subst h;exact hup j (hI.ahead hO hi hb)
   · exact hup j (hI.cl k j h hb)
theorem mS.all (hI:mS ops L vs gA eG S) (hO:vi ops L) (hr:xr .any ops S=[]) : ∀i,i<ops.size→S.getD i false=true:=by
 intro i
 induction i using PQ with
 |ind i ih=>
  intro hi
  have ho:ops[i]? = some ops[i]:=fl hi
  have ho':ops.toList[i]? = some ops[i]:=by simp[hi]
  cases hq:S.getD i false with
  |true=>rfl
  |false=>
   have:i∈xr .any ops S:=mem_ready.2 ⟨by rw[lu (by rw[hI.size];exact hi) true false];exact hq,ops[i],ho,fun e he hb=>ih e.on (hO.low i _ ho' e he hb) (by have:=hO.low i _ ho' e he hb;omega)⟩
   rw[hr] at this;cases this
theorem mS.ends (hI:mS ops L vs gA eG S) (hl:vs.length=ops.toList.length) {st':St} (hst:dL ops.toList vs gA ops.toList.length st') (hall : ∀i,i<ops.size→S.getD i false=true) :
  eG.mem=st'.mem∧eG.nt=st'.nt∧eG.fix=st'.fix ∧ ∀t,look eG.tm t=look st'.tm t:=by
 obtain⟨h1,h2,h3,hA,hB⟩:=hst
 refine⟨hI.mem.trans h1.symm,hI.nt.trans h2.symm,hI.fix.trans h3.symm,fun t=> ?_⟩
 by_cases hw : ∃(j:Nat) (p:Oper),ops.toList[j]? = some p∧p.dst=some t
 · obtain⟨j,p,hp,hd⟩:=hw
   have hjl:=(di.1 hp).1
   have MJ:vs[j]? = some vs[j]:=bm (by rw[hl];exact hjl)
   rw[hI.a j p _ t (hall j (by simpa using hjl)) hp MJ hd,hA j p _ t hjl hp MJ hd]
 · rw[hI.b t fun k q _ hq hd=>hw ⟨k,q,hq,hd⟩,hB t fun k q _ hq hd=>hw ⟨k,q,hq,hd⟩]
end
theorem cK.same {g:Gh} {w:World} {st st':St} {a:Act} (h:cK E g st a w) (h1:st.mem=st'.mem) (h2:st.nt=st'.nt) (h3:st.fix=st'.fix) (h4 : ∀t,look st.tm t=look st'.tm t):cK E g st' a w:=
 ⟨fun k=>h4 k▸h.tm k,h2▸h.nt,h1▸h.rel,by rw[←h1,←h3];exact h.fix,h.cQ⟩
theorem ux {ops:Array Oper} {tm tm':sA} {o:Oper} (h : ∀t∈slots ops o,look tm t=look tm' t):ep ops tm o=ep ops tm' o:=by
 unfold ep
 unfold slots at h
 cases hg:o.guard with
 |none=>rfl
 |some q=>
  obtain⟨j,want⟩:=q
  simp only[hg] at h
  dsimp only
  cases hj:ops[j]? with
  |none=>rfl
  |some oj=>
   simp only[hj] at h
   dsimp only
   cases hd:oj.dst with
   |none=>rfl
   |some d=>simp only[h d (by simp[hd])]
theorem DT {tm tm':sA} {ops:Array Oper} {o:Oper} (h : ∀t∈slots ops o,look tm t=look tm' t) : ∀x∈o.op.operands,ev E tm x=ev E tm' x:=by
 intro x hx
 cases x with
 |tmp t=>exact h t (Fs _ (List.mem_filterMap.2 ⟨.tmp t,by simpa using hx,rfl⟩))
 |_=>rfl
theorem Km {b:Frame} {k:List Item} {ops:Array Oper} {L:List Nat} {vs:List AV} {gA st':St} {wr:Bool} {br:Nat} (hO:vi ops L) (hQ : ∀(i:Nat) o,ops.toList[i]? = some o→gx o=true) (hn:gA.mem[br]? = some .free)
  (hrun:Co P E (fun i=>gA.mem.getD i .dead) wr br ops ops.toList gA vs st') : ∀(fuel t:Nat) (S:Array Bool) (eG:St) (a:Act) (g:Gh) (w:World) (u:List Nat),
    mS ops L vs gA eG S→cK E g eG a w→u.length=fuel→(∀i,i<ops.size→S.getD i false=false→i∈u) →
    ∃g' a' w',(∀cs,Steps P (lone (b.atR a (.inRegion ops (aao .any ops fuel t S [])::k)) cs w) (lone (b.atR a' (.inRegion ops []::k)) cs w'))∧a'.defers=a.defers∧cK E g' st' a' w' ∧
     dc g gA.mem w g' gA.mem w'∧bM g g' gA.fix ∧ ∀i c,g.bS i=some c→g'.bS i=some c:=by
 obtain⟨hl,hend,hspec⟩:=hrun.spec hO.uniq
 intro fuel
 induction fuel with
 |zero=>
  intro t S eG a g w u hI hs WL hu
  have hall : ∀i,i<ops.size→S.getD i false=true:=by
   intro i hi
   cases hq:S.getD i false with
   |true=>rfl
   |false=>
    have:=hu i hi hq
    rw[H0 WL] at this;cases this
  obtain⟨e1,e2,e3,e4⟩:=hI.ends hl hend hall
  exact⟨g,a,w,fun cs=>aaN _ _,rfl,hs.same e1 e2 e3 e4,dc.refl _ _ _,bM.refl _ _,fun _ _ h=>h⟩
 |succ fuel ih=>
  intro t S eG a g w u hI hs WL hu
  simp only[aao]
  show ∃g' a' w',(∀cs,Steps P (lone (b.atR a (.inRegion ops (match(xr .any ops S)[t%(xr .any ops S).length]? with
   |some i=>aao .any ops fuel (t / (xr .any ops S).length) (S.setIfInBounds i true) [i]
   |none=>[].reverse)::k)) cs w) (lone (b.atR a' (.inRegion ops []::k)) cs w'))∧_
  cases hi:(xr .any ops S)[t%(xr .any ops S).length]? with
  |none=>
   have M7:xr .any ops S=[]:=by
    cases hr:xr .any ops S with
    |nil=>rfl
    |cons x xs=>
     rw[hr] at hi
     have hlt:t%(x::xs).length<(x::xs).length:=pt _ (by simp)
     rw[bm hlt] at hi;cases hi
   obtain⟨e1,e2,e3,e4⟩:=hI.ends hl hend (hI.all hO M7)
   exact⟨g,a,w,fun cs=>aaN _ _,rfl,hs.same e1 e2 e3 e4,dc.refl _ _ _,bM.refl _ _,fun _ _ h=>h⟩
  |some i=>
   have SL:=mc hi
   obtain⟨hSi,o,ho,_⟩:=mem_ready.1 SL
   have ho':ops.toList[i]? = some o:=by simpa using ho
   obtain⟨v,iH,hv,hk,hf,Gb⟩:=hspec i o ho'
   have xy : ∀t∈slots ops o,look eG.tm t=look iH.tm t:=fun t ht=>hI.slots hO ho' SL hl Gb ht
   have hilt:i<ops.size:=(yr.1 ho).1
   have M8:i∈u:=hu i hilt (by rw[lu (by rw[hI.size];exact hilt) false true];exact hSi)
   have Sf : ∀j,j<ops.size→(S.setIfInBounds i true).getD j false=false→j∈u.erase i:=by
    intro j hj hq
    have hne:j≠i:=by
     intro e
     subst e
     rw[show(S.setIfInBounds j true).getD j false=true by simp[xb,hI.size,hj]] at hq
     cases hq
    rw[getD_set_ne false (fun e=>hne e.symm)] at hq
    exact(H5 hne).2 (hu j hj hq)
   have SM:(u.erase i).length=fuel:=by rw[H2 M8,WL];rfl
   have hI':=hI.step hO ho' hv SL
   have hfA:fits eG o.dst=true:=by
    have:fits eG o.dst=fits iH o.dst:=by unfold fits;rw[hI.nt,Gb.2.1]
    rw[this];exact hf
   dsimp only
   rw[linearise_go_acc,Hd,Hk]
   have Gc:=ux xy
   obtain⟨w1,w2,w3⟩:=oz hs (ops:=ops) (o:=o)
   rcases hk with⟨hw,hop⟩ | ⟨hw,rfl⟩
   · have iI:xf o (yielded ops a.tmps)=true:=by
      rcases hw with hw | ⟨d,b',want,hw,hb⟩
      · exact w1 (Gc.trans hw)
      · rw[(w3 d b' want (Gc.trans hw)).1];exact hb
     have aft:uc P (fun i=>eG.mem.getD i .dead) wr br (ev E eG.tm) o=some (v,[],true):=by
      rw[hI.mem,AD (hQ i o ho') (DT xy)];exact hop
     obtain⟨cv,w',g',k1,k2,k3,k4,k5⟩:=ox hs.rel (gk hs) (fun _=>rfl) (fun _=>by rw[hI.mem];exact hn) aft
     have hs':=hs.put hfA k2 k4 k3 hs.fix
     obtain⟨g2,a2,w2',r1,r2,r3,r4,r5,r6⟩:=ih (t / (xr .any ops S).length) _ _ _ _ _ _ hI' hs' SM Sf
     refine⟨g2,a2,w2',fun cs=> .head (oy ho iI k1) (r1 cs),r2.trans put_defers,r3,?_,(bM.qV k4 _).trans r5,fun i c q=>r6 i c (k4.bS i c q).1⟩
     have k5':dc g gA.mem w g' gA.mem w':=by rw[←hI.mem];exact k5
     exact k5'.trans r4
   · have iI:xf o (yielded ops a.tmps)=false:=by
      rcases hw with hw | ⟨d,b',want,hw,hb⟩
      · exact w2 (Gc.trans hw)
      · rw[(w3 d b' want (Gc.trans hw)).1];exact hb
     have hs':=hs.put (v:= .aA []) (cv:=undef) hfA (VA.mR.2 trivial) (Ext.refl g w) hs.rel hs.fix
     obtain⟨g2,a2,w2',r1,r2,r3,r4,r5,r6⟩:=ih (t / (xr .any ops S).length) _ _ _ _ _ _ hI' hs' SM Sf
     refine⟨g2,a2,w2',fun cs=> .head ?_ (r1 cs),r2.trans put_defers,r3,r4,r5,r6⟩
     have hst:=stepR_op_skip (P:=P) (b:=b) (a:=a) (k:=k) (cs:=cs) (w:=w) (ops:=ops) (i:=i) (rest:=aao .any ops fuel (t / (xr .any ops S).length) (S.setIfInBounds i true) []) (by simp[ho,iI])
     simpa only[ho,tp] using hst
theorem cK.drew {g:Gh} {w:World} {st:St} {a:Act} (h:cK E g st a w) (n:Nat):cK E g st a {w with drawn:=n}:=by
 have he:Ext g w g {w with drawn:=n}:=⟨fun _ _ e=>⟨e,rfl,rfl⟩,fun _ _ e=>⟨e,rfl⟩⟩
 refine⟨fun k=>(h.tm k).mono he,h.nt,(h.rel.jL (w':={w with drawn:=n}) rfl rfl rfl rfl).1,h.fix,h.cQ.mono he.pure⟩
theorem SN {g:Gh} {w:World} {b:Frame} {a:Act} {k:List Item} {ops:Array Oper} {f bZ:Nat} {st st':St} (hs:cK E g st a w) (h:wC P E f bZ ops st=some (st',true)) :
  ∃g' a' w',(∀cs,Steps P (lone (b.atR a (.code (.region bZ ops true)::k)) cs w) (lone (b.atR a' k) cs w'))∧a'.defers=a.defers∧cK E g' st' a' w' ∧
   dc g st.mem w g' st'.mem w'∧bM g g' st.fix∧st'.fix=st.fix ∧ ∀i c,g.bS i=some c→g'.bS i=some c:=by
 unfold wC at h
 dsimp only at h
 split at h
 · rename_i SJ ok hq
   cases M9:(ops.toList.all gx&&Mz E f ops) with
   |false=>rw[M9] at hq;cases hq
   |true=>
   rw[M9] at hq
   simp only[cond_true] at hq
   have hall:ops.toList.all gx=true:=(ch _ _▸M9).1
   simp only[cp,ie,ch] at h
   obtain⟨rfl,rfl,Na,WM⟩:=h
   obtain⟨vs,hrun⟩:=nI hq
   obtain⟨hO,hQ⟩:=vi.of Na
   obtain⟨FO,hr2⟩:=hs.rel.reserve
   have hs1:cK E g {st with mem:=st.mem++[.free]} a w:=⟨hs.tm,hs.nt,FO,by simp;have:=hs.fix;omega,hs.cQ⟩
   have hgd : ∀j,(yo ops.size false).getD j false=false:=by
    intro j
    rw[xb,zr]
    split<;>rfl
   have hI:mS ops (masks [] ops.toList) vs {st with mem:=st.mem++[.free]} {st with mem:=st.mem++[.free]} (yo ops.size false):=
    ⟨by simp,rfl,rfl,rfl,fun j _ _ _ hj=>(by rw[hgd] at hj;cases hj),fun _ _=>rfl,fun i _ hi=>(by rw[hgd] at hi;cases hi)⟩
   have hs2:=hs1.drew (w.drawn+1)
   obtain⟨g',a',w',r1,r2,r3,r4,r5,r6⟩:=Km (P:=P) (E:=E) (b:=b) (k:=k) hO hQ (by simp) hrun ops.size (w.tape w.drawn (.order b.fn bZ)) _ _ a g _ (ee ops.size) hI hs2 (by simp) (fun i hi _=>Pl.2 hi)
   have hend:=(hrun.spec hO.uniq).2.1
   refine⟨g',a',w',fun cs=> ?_,r2,r3,?_,r5,hend.2.2.1,r6⟩
   · refine .head stepR_region_draw ?_
     have Nb:xv (P.follows .mixedOrders) ops (w.tape w.drawn (.order b.fn bZ))=aao .any ops ops.size (w.tape w.drawn (.order b.fn bZ)) (yo ops.size false) []:=by
      simp only[xv,WM,if_true,ye]
     rw[Nb]
     exact(r1 cs).trans (.one stepR_region_end)
   · rw[hend.1]
     have hst:dc g (st.mem++[.free]) w g (st.mem++[.free]) {w with drawn:=w.drawn+1}:=⟨bj _,fun _ _ _=>rfl,fun _ _ h=>⟨h,rfl⟩,fun _ _ h=> .inl h,fun _ h=> .inl h,rfl,rfl,rfl⟩
     exact(hr2.trans hst).trans r4
 · cases h
end
set_option linter.unusedSimpArgs false
open Go.RowKit
section
variable {P:Program} {E:Env}
theorem oW {rd rd':Nat→aU} {a:AV} (h : ∀b∈refs a,rd b=rd' b) (n:Nat):lO rd a n=lO rd' a n:=by
 cases a with
 |mp b off=>simp only[lO,h b (by simp[refs])]
 |p v=>cases v<;>rfl
 |_=>rfl
theorem fG {rd rd':Nat→aU} {a:AV} (h : ∀b∈refs a,rd b=rd' b) (sz:Nat):contents rd sz a=contents rd' sz a:=by
 cases a with
 |ms b off len s c=>
  cases c with
  |none=>simp only[contents,h b (by simp[refs])]
  |some c=>simp only[contents,h b (by simp[refs])]
 |p v=>
  cases v with
  |sc v=>cases v<;>rfl
  |_=>rfl
 |_=>rfl
theorem vk {rd rd':Nat→aU} {a:AV} (h : ∀b∈refs a,rd b=rd' b) (sz:Nat):cO rd sz a=cO rd' sz a:=by
 have hc:=fG h sz
 unfold cO
 rw[hc]
 cases contents rd' sz a with
 |some r=>rfl
 |none=>
  cases a with
  |ms b off len s c=>
   cases c with
   |none=>rfl
   |some c=>simp only[h b (by simp[refs])]
  |_=>rfl
theorem pX {rd rd':Nat→aU} {x n:AV} (h : ∀b∈refs x,rd b=rd' b) {ts:List TypeId}:eL P rd ts x n=eL P rd' ts x n:=by
 have hg:Wk rd x=Wk rd' x:=by
  cases x with
  |mp b off=>cases off with
   |zero=>simp only[Wk,h b (by simp[refs])]
   |succ _=>rfl
  |_=>rfl
 unfold eL
 simp only[hg]
theorem zU {rd rd':Nat→aU} {a:AV} (h : ∀b∈refs a,rd b=rd' b) {br:Nat} {ρ:Operand→AV} {o:Oper} {s d:TypeId}:convertOp P rd br ρ o s d a=convertOp P rd' br ρ o s d a:=by
 have hc:=fun sz=>fG (a:=a) h sz
 unfold convertOp
 split<;>first
  |rfl
  |(rename_i b off len sz cap hd;have hb:=h b (by simp[refs]);simp only[hb];done)
  |(rename_i b off hd;have hb:=h b (by simp[refs]);simp only[hb];done)
  |(rename_i u b hd;have hb:=h b (by simp[refs]);simp only[hb];done)
  |simp only[hc]
theorem append_congr {rd rd':Nat→aU} {s x:AV} (h : ∀b∈refs s++refs x,rd b=rd' b) {br:Nat} {ts:Array TypeId}:iL P rd br ts s x=iL P rd' br ts s x:=by
 have hc:=fun sz=>fG (a:=x) (fun b hb=>h b (Fs _ hb)) sz
 have ht : ∀tok len sz cs,s = .os tok len sz cs→oh rd br tok=oh rd' br tok:=by
  rintro tok len sz cs rfl
  cases tok with
  |none=>rfl
  |some t=>simp only[oh,h t (by simp[refs])]
 unfold iL
 simp only[hc]
 repeat' first | rfl | split
 all_goals first
  |rfl
  |(rw[ht _ _ _ _ rfl])
  |simp_all
theorem xz {rd rd':Nat→aU} {s x:AV} (h : ∀b∈refs s++refs x,rd b=rd' b) {br:Nat} {ts:Array TypeId}:fB P rd br ts s x=fB P rd' br ts s x:=by
 have hc:=fun sz=>vk (a:=x) (fun b hb=>h b (Fs _ hb)) sz
 have hp : ∀sz,jE rd sz x=jE rd' sz x:=fun sz=>by unfold jE;rw[fG (a:=x) (fun b hb=>h b (Fs _ hb)) sz]
 cases s with
 |ms b off len sz cap=>
  have hb:=h b (by simp[refs])
  unfold fB
  simp only[hc,hp]
  cases off with
  |zero=>cases cap<;>simp only[hb]
  |succ off=>rfl
 |os tok len sz cells=>
  cases tok with
  |none=>
   unfold fB
   simp only[hc,hp]
  |some t=>
   unfold fB
   simp only[hc]
 |_=>
  unfold fB
  simp only[hc]
theorem sO {rd rd':Nat→aU} {wr:Bool} {s x:AV} (h : ∀b∈refs s++refs x,rd b=rd' b) {br:Nat} {ts:Array TypeId} :
  (match Wj s||wr with | true=>fB P rd br ts (m5 s) x | false=>iL P rd br ts (m5 s) x)=(match Wj s||wr with | true=>fB P rd' br ts (m5 s) x | false=>iL P rd' br ts (m5 s) x):=by
 have hs : ∀b∈refs (m5 s),b∈refs s:=by
  intro b hb
  unfold m5 at hb
  split at hb
  · simp[refs] at hb
  · exact hb
 have h' : ∀b∈refs (m5 s)++refs x,rd b=rd' b:=fun b hb=>h b ((mi.1 hb).elim (fun q=>Ha _ (hs b q)) fun q=>Fs _ q)
 rw[xz h',append_congr h']
theorem Gd {rd rd':Nat→aU} {d s:AV} (h : ∀b∈refs d++refs s,rd b=rd' b) {ts:Array TypeId}:sC P rd ts d s=sC P rd' ts d s:=by
 have hc:=fun sz=>fG (a:=s) (fun b hb=>h b (Fs _ hb)) sz
 have ht : ∀b off len sz cap,d = .ms b off len sz cap→rd b=rd' b:=by
  rintro b off len sz cap rfl
  exact h b (by simp[refs])
 unfold sC
 simp only[hc]
 repeat' first | rfl | split
 all_goals first
  |rfl
  |(rename_i h1 h2;rw[ht _ _ _ _ _ rfl] at h1;simp_all)
  |(rename_i h1;rw[ht _ _ _ _ _ rfl] at h1;simp_all)
  |simp_all
theorem Cp {rd rd':Nat→aU} {x:AV} (h : ∀b∈refs x,rd b=rd' b) {t:TypeId} {k:AV} {ok:Bool}:kW P rd t x k ok=kW P rd' t x k ok:=by
 have hm:mapOf rd x=mapOf rd' x:=by
  cases x with
  |vm b=>simp only[mapOf,h b (by simp[refs])]
  |p v=>
   cases v with
   |sc v=>
    cases v with
    |map r=>cases r<;>rfl
    |_=>rfl
   |_=>rfl
  |_=>rfl
 have hu:FV rd x=FV rd' x:=by
  cases x with
  |vm b=>simp only[FV,h b (by simp[refs])]
  |_=>rfl
 unfold kW vC
 simp only[hm,hu]
theorem vl {rd rd':Nat→aU} {x:AV} (h : ∀b∈refs x,rd b=rd' b) {t:TypeId} {k v:AV}:gE P rd t x k v=gE P rd' t x k v:=by
 cases x with
 |vm b=>
  have hb:=h b (by simp[refs])
  cases k with
  |p u=>
   cases u with
   |sc u=>simp only[gE,hb]
   |_=>rfl
  |agg l=>
   show hY P rd t (.vm b) (.agg l) v=hY P rd' t (.vm b) (.agg l) v
   unfold hY
   generalize J6 (AV.agg l)=kk
   generalize P.underlying t=tt
   cases kk with
   |none=>rfl
   |some key=>
    cases tt with
    |none=>rfl
    |some d=>cases d<;>first
     |rfl
     |simp only[hb]
  |_=>rfl
 |_=>cases k<;>rfl
theorem xA {rd rd':Nat→aU} {x:AV} (h : ∀b∈refs x,rd b=rd' b):pM rd x=pM rd' x:=by
 cases x with
 |vm b=>simp only[pM,h b (by simp[refs])]
 |_=>rfl
theorem Ge {rd rd':Nat→aU} {x:AV} (h : ∀b∈refs x,rd b=rd' b) {t:TypeId} {k:AV} {ok:Bool}:sD P rd t x k ok=sD P rd' t x k ok:=by
 unfold sD
 rw[xA h,Cp h]
theorem AE {rd rd':Nat→aU} {x:AV} (h : ∀b∈refs x,rd b=rd' b) {t:TypeId} {k v:AV}:wv P rd t x k v=wv P rd' t x k v:=by
 unfold wv
 rw[xA h,vl h]
theorem SO {rd rd':Nat→aU} {wr:Bool} {br:Nat} {ρ ρ':Operand→AV} {o:Oper} (hq:Al o=true) (h : ∀x∈o.op.operands,ρ x=ρ' x) (hrd : ∀b∈Kb ρ o,rd b=rd' b):uc P rd wr br ρ o=uc P rd' wr br ρ' o:=by
 have h1:uc P rd wr br ρ o=uc P rd' wr br ρ o:=by
  obtain⟨dst,op,type,pos,after,guard⟩:=o
  cases op<;>try rfl
  case load t a=>simp only[uc,kL,oW (a:=ρ a) hrd]
  case store t a v=>
   simp only[uc,qz]
   have hrd : ∀b∈refs (ρ a),rd b=rd' b:=hrd
   generalize ρ a=x at hrd ⊢
   cases x with
   |mp b off=>
    cases fZ P t with
    |none=>rfl
    |some n=>simp only[hrd b (by simp[refs])]
   |_=>rfl
  case convert s d x=>exact zU hrd
  case lookup t x i ok=>exact congrArg jj (Ge hrd)
  case mapUpdate t x k v=>exact AE hrd
  case insert t x k v=>exact AE hrd
  case next=>simp[Al,gx] at hq
  case call c=>
   obtain⟨callee,args,tys⟩:=c
   cases callee with
   |value _=>rfl
   |invoke _ _=>rfl
   |builtin b=>cases b<;>first
    |rfl
    |(obtain⟨args⟩:=args;rcases args with _ | ⟨x,_ | ⟨y,r⟩⟩<;>rfl)
    |(obtain⟨args⟩:=args;rcases args with _ | ⟨x,_ | ⟨y,_ | ⟨z,r⟩⟩⟩<;>first | rfl | exact sO fun b hb=>hrd b (by simpa[Kb,hJ] using hb) | exact Gd fun b hb=>hrd b (by simpa[Kb,hJ] using hb) | exact pX fun b hb=>hrd b (by simp[Kb,hJ,hb]))
    |simp[Al,gx] at hq
  case makeMap t r=>cases r<;>rfl
 rw[h1]
 cases hqq:gx o with
 |true=>exact AD hqq h
 |false=>
  simp only[Al,hqq,xn] at hq
  obtain⟨dst,op,type,pos,after,guard⟩:=o
  cases op<;>simp only[oE] at hq<;>simp only[QR] at h<;>simp only[uc]
  case box t v=>rw[h v (by simp)]
  case buildSlice t n ps=>
   have:ps.toList.map (fun q=>(q.1,ρ q.2))=ps.toList.map fun q=>(q.1,ρ' q.2):=
    Hb fun q hq=>by rw[h q.2 (by simp only[If,ed];exact⟨q,hq,rfl⟩)]
   rw[this]
  case makeSlice t l c=>rw[h l (by simp),h c (by simp)]
  case store t a v=>rw[h a (by simp),h v (by simp)]
  case makeMap t r=>cases r<;>rfl
  case lookup t x i ok=>rw[h x (by simp),h i (by simp)]
  case mapUpdate t x k v=>rw[h x (by simp),h k (by simp),h v (by simp)]
  case insert t x k v=>rw[h x (by simp),h k (by simp),h v (by simp)]
  case call c=>
   obtain⟨callee,args,tys⟩:=c
   cases callee with
   |value _=>simp at hq
   |invoke _ _=>simp at hq
   |builtin b=>
    simp only[Call.operands] at h
    obtain⟨args⟩:=args
    cases b<;>simp only[oE] at hq
    all_goals
     rcases args with _ | ⟨x,_ | ⟨y,_ | ⟨z,r⟩⟩⟩<;>first | rfl | simp only[h x (by simp),h y (by simp)] | simp only[h x (by simp)]
theorem Cq {ρ ρ':Operand→AV} {o:Oper} (h : ∀x∈o.op.operands,ρ x=ρ' x):target ρ o=target ρ' o:=by
 obtain⟨dst,op,type,pos,after,guard⟩:=o
 cases op<;>try rfl
 case call c=>
  obtain⟨callee,args,tys⟩:=c
  cases callee with
  |value f=>
   simp only[QR,Call.operands] at h
   have h1:ρ f=ρ' f:=h f (by simp)
   have h2:args.toList.map ρ=args.toList.map ρ':=Hb fun x hx=>h x (by simp_all)
   simp only[target,h1,h2]
  |_=>rfl
theorem iw : ∀(us:mX) (m:Mem) (b:Nat),b∉us.map (·.1)→(apply m us)[b]? = m[b]?
 |[],_,_,_=>rfl
 |(i,x)::us,m,b,h=>by
  simp only[oe,oi,not_or] at h
  simp only[apply]
  rw[iw us _ b h.2,List.getElem?_set_ne (fun e=>h.1 e.symm)]
theorem DU : ∀(us:mX) (m m':Mem) (b:Nat),m.length=m'.length→b∈us.map (·.1)→(apply m us)[b]? = (apply m' us)[b]?
 |(i,x)::us,m,m',b,hl,h=>by
  simp only[apply]
  by_cases hb:b∈us.map (·.1)
  · exact DU us _ _ b (by simp[hl]) hb
  · rw[iw us _ b hb,iw us _ b hb]
    simp only[oe,oi] at h
    have:b=i:=h.resolve_right hb
    subst this
    simp only[List.getElem?_set,hl,if_true]
abbrev gF.w (d:gF):List Nat:=d.us.map (·.1)
structure jT (ds:List gF) (base:Mem) (S:Nat→Prop) (M:Mem):Prop where
 len:M.length=base.length
 out : ∀b,(∀j d,S j→ds[j]? = some d→b∉d.w)→M[b]? = base[b]?
 last : ∀j d b,S j→ds[j]? = some d→b∈d.w→(∀k e,S k→j<k→ds[k]? = some e→b∉e.w)→M[b]? = (apply base d.us)[b]?
theorem jT.nil {ds:List gF} {base:Mem} {S:Nat→Prop} (h : ∀j,¬S j):jT ds base S base:=⟨rfl,fun _ _=>rfl,fun j _ _ hj=>absurd hj (h j)⟩
theorem jT.step {ds:List gF} {base M:Mem} {S S':Nat→Prop} {i:Nat} {d:gF} (h:jT ds base S M) (hd:ds[i]? = some d) (hS : ∀j,S' j↔S j∨j=i) (hi : ¬S i)
  (afv : ∀j e,S j→i<j→ds[j]? = some e → ∀b∈d.w,b∉e.w):jT ds base S' (apply M d.us):=by
 refine⟨by rw[eB];exact h.len,fun b hb=> ?_,fun j e b hj he zy hl=> ?_⟩
 · rw[iw _ _ _ (hb i d ((hS i).2 (.inr rfl)) hd)]
   exact h.out b fun j e hj he=>hb j e ((hS j).2 (.inl hj)) he
 · rcases(hS j).1 hj with hj' | rfl
   · have hbd:b∉d.w:=by
      intro q
      rcases Ps j i with hlt | heq | hgt
      · exact hl i d ((hS i).2 (.inr rfl)) hlt hd q
      · subst heq;exact hi hj'
      · exact afv j e hj' hgt he b q zy
     rw[iw _ _ _ hbd]
     exact h.last j e b hj' he zy fun k x hk Sh hx=>hl k x ((hS k).2 (.inl hk)) Sh hx
   · rw[hd] at he;cases he
     exact DU _ _ _ _ h.len zy
theorem Ik {p:Nat→Prop} {n:Nat} (hb : ∀k,p k→k<n) : ∀(r j:Nat),n-j=r→p j → ∃j,p j ∧ ∀k,p k → ¬j<k:=by
 intro r
 induction r using PQ with
 |ind r ih=>
  intro j hr hj
  by_cases h : ∃k,p k∧j<k
  · obtain⟨k,hk,Sh⟩:=h
    have:=hb k hk
    exact ih (n-k) (by omega) k rfl hk
  · exact⟨j,hj,fun k hk Sh=>h ⟨k,hk,Sh⟩⟩
theorem jT.agree {ds:List gF} {base M M':Mem} {S T:Nat→Prop} (h:jT ds base S M) (h':jT ds base T M') {b:Nat} (hST : ∀j d,ds[j]? = some d→b∈d.w→(S j↔T j)):M[b]? = M'[b]? :=by
 by_cases hw : ∃j d,S j∧ds[j]? = some d∧b∈d.w
 · obtain⟨j0,d0,q1,q2,q3⟩:=hw
   obtain⟨j,⟨hj,d,hd,hbd⟩,hl⟩:=Ik (p:=fun j=>S j ∧ ∃d,ds[j]? = some d∧b∈d.w) (n:=ds.length) (fun k ⟨_,d,hd,_⟩=>(di.1 hd).1) _ j0 rfl ⟨q1,d0,q2,q3⟩
   rw[h.last j d b hj hd hbd fun k e hk Sh he zy=>hl k ⟨hk,e,he,zy⟩ Sh,
    h'.last j d b ((hST j d hd hbd).1 hj) hd hbd fun k e hk Sh he zy=>hl k ⟨(hST k e he zy).2 hk,e,he,zy⟩ Sh]
 · rw[h.out b fun j d hj hd hbd=>hw ⟨j,d,hj,hd,hbd⟩,h'.out b fun j d hj hd hbd=>hw ⟨j,d,(hST j d hd hbd).2 hj,hd,hbd⟩]
def mM (m:Mem):List gF→Mem
 |[]=>m
 |d::r=>mM (apply m d.us) r
theorem qY (m:Mem) : ∀(ds es:List gF),mM m (ds++es)=mM (mM m ds) es
 |[],_=>rfl
 |d::ds,es=>qY (apply m d.us) ds es
theorem xB (ds:List gF) (base:Mem) : ∀i,i≤ds.length→jT ds base (· < i) (mM base (ds.take i))
 |0,_=>jT.nil fun _ h=>absurd h (ui _)
 |i+1,h=>by
  have hi:i<ds.length:=h
  rw[List.take_succ_eq_append_getElem hi,qY]
  exact(xB ds base i (by omega)).step (d:=ds[i]) (bm hi) (fun j=>by omega) (by omega) fun j e hj hij=>absurd hj (by omega)
def lz (nx:Nat) (m:Mem):Prop:= ∀i,nx≤i→i<m.length→m[i]? = some .free
def LDo (P:Program) (E:Env) (wr:Oper→Bool) (st:St) (nx:Nat) (o:Oper) (d:gF) (jJ:Nat):Prop:=
 (∃g args v m1,target (ev E st.tm) o=some (g,args)∧an P E g (eR (idx (close st.mem 0 args)) args) (pack st.mem (close st.mem 0 args)) v m1∧(close st.mem 0 args).length≤m1.length ∧
   (∀i∈close st.mem 0 args,i<nx)∧jJ=nx+(m1.length-(close st.mem 0 args).length)∧jJ≤st.mem.length∧d=oo st.mem.length nx (close st.mem 0 args) v m1) ∨
 (target (ev E st.tm) o=none∧Al o=true∧uc P (fun i=>st.mem.getD i .dead) (wr o) nx (ev E st.tm) o=some (d.v,d.us,true)∧d.fp=d.w++(Kb (ev E st.tm) o++cond (makes o) [nx] []) ∧
   (∀b∈d.w,b<jJ)∧jJ=cond (makes o) (nx+1) nx∧jJ≤st.mem.length∧d.ld=Wm P (ev E st.tm) o d.v)
def DV (P:Program) (E:Env) (wr:Oper→Bool) (ops:Array Oper) (st:St) (nx:Nat) (o:Oper) (d:gF) (jJ:Nat):Prop:=
 ((ep ops st.tm o = .yes ∨ ∃s b want,ep ops st.tm o = .ask s b want∧(b==want)=true)∧LDo P E wr st nx o d jJ) ∨
 ((ep ops st.tm o = .no ∨ ∃s b want,ep ops st.tm o = .ask s b want∧(b==want)=false)∧d=⟨.aA [],[],[],fun _ _=>false⟩∧jJ=nx)
inductive zV (P:Program) (E:Env) (wr:Oper→Bool) (ops:Array Oper):List Oper→St→Nat→List gF→St→Nat→Prop
 |nil (st:St) (nx:Nat):zV P E wr ops [] st nx [] st nx
 |cons (o:Oper) (r:List Oper) (st:St) (nx:Nat) (d:gF) (jJ:Nat) (ds:List gF) (st':St) (oQ:Nat) (hf:fits st o.dst=true) (h:DV P E wr ops st nx o d jJ)
   (hr:zV P E wr ops r (put {st with mem:=apply st.mem d.us} o.dst d.v) jJ ds st' oQ):zV P E wr ops (o::r) st nx (d::ds) st' oQ
theorem Gf {t:Option AV} {r:Option (gF×Nat×Bool)} {d:gF} {nx:Nat} (h:HY t r=some (d,nx,true)):r=some (d,nx,true):=by
 unfold HY at h
 split at h
 · exact h
 · split at h
   · rename_i v d0 n0 ok
     simp only[cp,ie,ch] at h
     obtain⟨rfl,rfl,h1,h2⟩:=h
     have e:=kB h2
     subst h1
     obtain⟨v0,us,fp,ld⟩:=d0
     simp only at e
     subst e
     rfl
   · cases h
theorem Kn {f bZ:Nat} {O:FuncId→List AV→Mem→Option (AV×Mem)} (hO : ∀g args m v m1,O g args m=some (v,m1)→an P E g args m v m1) {nx jJ:Nat} {o:Oper} {st:St} {d:gF}
  (h:iX P E f bZ O nx o st=some (d,jJ,true)):LDo P E (fun o=>E.wr f (o.dst.getD 0)) st nx o d jJ:=by
 have h:=Gf h
 unfold oq at h
 split at h
 · rename_i g args ht
   dsimp only at h
   split at h
   · rename_i v m1 ho
     simp only[cp,ie,ch] at h
     obtain⟨rfl,rfl,h1,h2,h3⟩:=h
     exact .inl ⟨g,args,v,m1,ht,hO _ _ _ _ _ ho,eh h1,fJ h2,rfl,eh h3,rfl⟩
   · cases h
 · rename_i ht
   split at h
   · rename_i v us ok hop
     simp only[cp,ie,ch] at h
     obtain⟨rfl,rfl,rfl,h1,h2,h3⟩:=h
     exact .inr ⟨ht,h1,hop,rfl,fJ h2,rfl,eh h3,rfl⟩
   · cases h
theorem sQ {f bZ:Nat} {O:FuncId→List AV→Mem→Option (AV×Mem)} (hO : ∀g args m v m1,O g args m=some (v,m1)→an P E g args m v m1) {ops:Array Oper} : ∀{l:List Oper} {nx oQ:Nat} {st st':St} {ds:List gF},
  hU P E f bZ O ops l nx st=some (st',oQ,ds,true)→zV P E (fun o=>E.wr f (o.dst.getD 0)) ops l st nx ds st' oQ
 |[],nx,oQ,st,st',ds,h=>by
  simp only[hU,cp,ie,and_true] at h
  obtain⟨rfl,rfl,rfl⟩:=h
  exact .nil st nx
 |o::r,nx,oQ,st,st',ds,h=>by
  have skip:(match hU P E f bZ O ops r nx (put st o.dst (.aA [])) with
   |some (st',oQ,ds,ok)=>some (st',oQ,(⟨.aA [],[],[],fun _ _=>false⟩:gF)::ds,fits st o.dst&&ok)
   |none=>none)=some (st',oQ,ds,true)→(ep ops st.tm o = .no ∨ ∃s b want,ep ops st.tm o = .ask s b want∧(b==want)=false)→zV P E (fun o=>E.wr f (o.dst.getD 0)) ops (o::r) st nx ds st' oQ:=by
   intro h hw
   split at h
   · rename_i SJ jJ ds1 ok hq
     simp only[cp,ie,ch] at h
     obtain⟨rfl,rfl,rfl,h1,rfl⟩:=h
     exact .cons o r st nx _ nx _ _ _ h1 (.inr ⟨hw,rfl,rfl⟩) (sQ hO hq)
   · cases h
  have qE:(match iX P E f bZ O nx o st with
   |some (d,jJ,ok)=>match hU P E f bZ O ops r jJ (put {st with mem:=apply st.mem d.us} o.dst d.v) with
    |some (st',oQ,ds,ok')=>some (st',oQ,d::ds,ok&&(fits st o.dst&&ok'))
    |none=>none
   |none=>none)=some (st',oQ,ds,true)→(ep ops st.tm o = .yes ∨ ∃s b want,ep ops st.tm o = .ask s b want∧(b==want)=true)→zV P E (fun o=>E.wr f (o.dst.getD 0)) ops (o::r) st nx ds st' oQ:=by
   intro h hw
   split at h
   · rename_i d jJ ok hop
     split at h
     · rename_i SJ nx2 ds1 ok' hq
       simp only[cp,ie,ch] at h
       obtain⟨rfl,rfl,rfl,rfl,h1,rfl⟩:=h
       exact .cons o r st nx d jJ _ _ _ h1 (.inl ⟨hw,Kn hO hop⟩) (sQ hO hq)
     · cases h
   · cases h
  unfold hU at h
  dsimp only at h
  cases hw:ep ops st.tm o with
  |yes=>rw[hw] at h;exact qE h (.inl hw)
  |no=>rw[hw] at h;exact skip h (.inl hw)
  |lost=>rw[hw] at h;cases h
  |ask s b want=>
   rw[hw] at h
   dsimp only at h
   cases hb:b==want with
   |true=>rw[hb] at h;exact qE h (.inr ⟨s,b,want,hw,hb⟩)
   |false=>rw[hb] at h;exact skip h (.inr ⟨s,b,want,hw,hb⟩)
theorem AF {N nx:Nat} {ord:List Nat} {v:AV} {m1:Mem} {b:Nat} (h:b∈(oo N nx ord v m1).w):b∈(oo N nx ord v m1).fp:=by
 simp only[oo,gF.w,ed] at h ⊢
 obtain⟨q,hq,rfl⟩:=h
 exact(List.of_mem_zip hq).1
theorem LDo.facts {wr:Oper→Bool} {st:St} {nx jJ:Nat} {o:Oper} {d:gF} (h:LDo P E wr st nx o d jJ):nx≤jJ∧jJ≤st.mem.length∧(∀b∈d.w,b<jJ) ∧ ∀b∈d.w,b∈d.fp:=by
 rcases h with⟨g,args,v,m1,_,_,h1,h2,rfl,h3,rfl⟩ | ⟨_,_,_,h1,h2,rfl,h3,_⟩
 · refine⟨by omega,h3,fun b hb=> ?_,fun b hb=>AF hb⟩
   have:=AF hb
   simp only[oo,mi,Hn] at this
   rcases this with q | q
   · have:=h2 b q;omega
   · omega
 · refine⟨by cases makes o<;>simp,h3,h2,fun b hb=> ?_⟩
   rw[h1]
   exact Ha _ hb
theorem DV.facts {wr:Oper→Bool} {ops:Array Oper} {st:St} {nx jJ:Nat} {o:Oper} {d:gF} (h:DV P E wr ops st nx o d jJ) (hn:nx≤st.mem.length):nx≤jJ∧jJ≤st.mem.length∧(∀b∈d.w,b<jJ) ∧ ∀b∈d.w,b∈d.fp:=by
 rcases h with⟨_,h⟩ | ⟨_,rfl,rfl⟩
 · exact h.facts
 · exact⟨bj _,hn,by simp,by simp⟩
theorem dL.xC {l:List Oper} {vs:List AV} {S S' T T':St} {i:Nat} (h:dL l vs S i T) (h1:S'.tm=S.tm) (h2:S'.nt=S.nt) (h3:S'.fix=S.fix) (h4:T'.tm=T.tm) (h5:T'.nt=T.nt) (h6:T'.fix=T.fix) (h7:T'.mem=S'.mem):dL l vs S' i T':=by
 obtain⟨_,q2,q3,q4,q5⟩:=h
 refine⟨h7,by rw[h5,h2];exact q2,by rw[h6,h3];exact q3,?_,?_⟩
 · intro j p v t a b c d;rw[h4];exact q4 j p v t a b c d
 · intro t ht;rw[h4,h1];exact q5 t ht
theorem uy (st:St) (m:Mem) (dst:Option Tmp) (v:AV):put {st with mem:=m} dst v={put st dst v with mem:=m}:=by cases dst<;>rfl
theorem zV.spec {wr:Oper→Bool} {ops:Array Oper} {l:List Oper} {st st':St} {nx oQ:Nat} {ds:List gF} (h:zV P E wr ops l st nx ds st' oQ) (hu:DR l) (hn:nx≤st.mem.length) (hfr:lz nx st.mem) :
  ds.length=l.length∧dL l (ds.map (·.v)) st l.length {st' with mem:=st.mem}∧st'.mem=mM st.mem ds∧st'.cw=st.cw ∧
    ∀(i:Nat) (o:Oper),l[i]? = some o → ∃d iH xD DW,ds[i]? = some d∧DV P E wr ops iH xD o d DW∧fits iH o.dst=true∧dL l (ds.map (·.v)) st i {iH with mem:=st.mem}∧iH.mem=mM st.mem (ds.take i)∧lz xD iH.mem∧xD≤iH.mem.length:=by
 induction h with
 |nil st nx=>exact⟨rfl,⟨rfl,rfl,rfl,fun j _ _ _ hj=>absurd hj (ui _),fun _ _=>rfl⟩,rfl,rfl,fun i o ho=>by simp at ho⟩
 |cons o r st nx d jJ ds st' oQ hf hk hr ih=>
  have Sf:DR r:=fun i j p q t hij hp hq=>hu (i+1) (j+1) p q t (by omega) (by simpa using hp) (by simpa using hq)
  obtain⟨f1,f2,f3,f4⟩:=hk.facts hn
  have hm:(put {st with mem:=apply st.mem d.us} o.dst d.v).mem=apply st.mem d.us:=by rw[uy]
  have afy:lz jJ (apply st.mem d.us):=by
   intro i hi hl
   rw[eB] at hl
   rw[iw _ _ _ fun q=>by have:=f3 i q;omega]
   exact hfr i (by omega) hl
  obtain⟨h1,h2,h3,h5,h4⟩:=ih Sf (by rw[hm,eB];exact f2) (by rw[hm];exact afy)
  have shift : ∀{i:Nat} {T:St},dL r (ds.map (·.v)) (put {st with mem:=apply st.mem d.us} o.dst d.v) i {T with mem:=(put {st with mem:=apply st.mem d.us} o.dst d.v).mem} →
    dL (o::r) ((d::ds).map (·.v)) st (i+1) {T with mem:=st.mem}:=by
   intro i T hs
   refine dL.cons (vs:=ds.map (·.v)) (v:=d.v) hu (hs.xC (S':=put st o.dst d.v) (T':={T with mem:=st.mem}) ?_ ?_ ?_ rfl rfl rfl ?_)
   · cases o.dst<;>rfl
   · cases o.dst<;>rfl
   · cases o.dst<;>rfl
   · exact(Cn st o.dst d.v).1.symm
  refine⟨by simp[h1],shift h2,by rw[h3,hm];rfl,h5.trans (by cases o.dst<;>rfl),?_⟩
  intro i p hp
  cases i with
  |zero=>
   simp only[lv,cp] at hp
   subst hp
   exact⟨d,st,nx,jJ,rfl,hk,hf,⟨rfl,rfl,rfl,fun j _ _ _ hj=>absurd hj (ui _),fun _ _=>rfl⟩,rfl,hfr,hn⟩
  |succ i=>
   obtain⟨e,iH,xD,DW,q1,q2,q3,q4,q5,q6,q7⟩:=h4 i p (by simpa using hp)
   refine⟨e,iH,xD,DW,by simpa using q1,q2,q3,shift q4,?_,q6,q7⟩
   rw[q5,hm];rfl
def SP (d e:gF):Prop:=e.us=[] ∧ ∀b∈d.w,b∈e.fp → ∃x,wD d.us b=some x∧e.ld b x=true
theorem xE : ∀{l:List Nat} {i:Nat},i∈l→has l i=true
 |j::r,i,h=>by
  simp only[has]
  cases hb:ae j i with
  |true=>rfl
  |false=>
   rcases oi.1 h with e | h
   · subst e;rw[ua] at hb;cases hb
   · exact xE h
theorem Gg {d e:gF} (h:B1 d e=true):SP d e:=by
 simp only[B1,ch,Lk] at h
 refine⟨?_,fun b hb hf=> ?_⟩
 · have h1:=h.1
   cases hu:e.us with
   |nil=>rfl
   |cons _ _=>rw[hu] at h1;cases h1
 · have:=h.2 b hb
   rw[xE hf,xo,xn] at this
   split at this
   · rename_i x hx
     exact⟨x,hx,this⟩
   · cases this
theorem xF : ∀{us:mX} {b:Nat},wD us b=none→b∉us.map (·.1)
 |[],_,_=>by simp
 |(i,x)::r,b,h=>by
  simp only[wD] at h
  split at h
  · cases h
  · rename_i hr
    cases hb:ae i b with
    |true=>rw[hb] at h;cases h
    |false=>
     simp only[oe,oi,not_or]
     exact⟨fun e=>(by subst e;rw[ua] at hb;cases hb),xF hr⟩
theorem xG : ∀{us:mX} {m:Mem} {b:Nat} {x:aU},wD us b=some x→b<m.length→(apply m us)[b]? = some x
 |(i,y)::r,m,b,x,h,hb=>by
  simp only[wD] at h
  simp only[apply]
  split at h
  · rename_i z hz
    simp only[cp] at h
    subst h
    exact xG hz (by simpa using hb)
  · rename_i hr
    cases hib:ae i b with
    |false=>rw[hib] at h;cases h
    |true=>
     rw[hib] at h
     simp only[cond_true,cp] at h
     subst h
     have:=ag hib
     subst this
     rw[iw r _ _ (xF hr),List.getElem?_set_self hb]
structure LOk (L:List Nat) (ds:List gF):Prop where
 pair : ∀(i j:Nat) (d e:gF),j<i→ds[i]? = some d→ds[j]? = some e→bc (L.getD i 0) j=true∨((∀b∈e.w,b∉d.fp)∧((∀b∈d.w,b∉e.fp)∨SP d e))
theorem sS {a b:List Nat} (h:meet a b=false) : ∀i∈a,i∉b:=fun _ ha hb=>l9 h ha hb
theorem uz {L:List Nat} : ∀{r mQ:List gF},wE L mQ.length mQ r=true → ∀(i j:Nat) (d e:gF),mQ.length≤i→j<i→(mQ++r)[i]? = some d→(mQ++r)[j]? = some e →
  bc (L.getD i 0) j=true∨((∀b∈e.w,b∉d.fp)∧((∀b∈d.w,b∉e.fp)∨SP d e))
 |[],mQ,_,i,j,d,e,hi,_,hd,_=>by
  simp only[H4] at hd
  rw[dp hi] at hd;cases hd
 |d0::r,mQ,h,i,j,d,e,hi,hj,hd,he=>by
  simp only[wE,ch] at h
  by_cases hc:i=mQ.length
  · subst hc
    have:d=d0:=by simpa using hd.symm
    subst this
    have key : ∀(l:List gF) (k:Nat),qG L mQ.length d k l=true → ∀m x,l[m]? = some x→B2 L mQ.length d (k+m) x=true:=by
     intro l
     induction l with
     |nil=>intro k _ m x hx;simp at hx
     |cons y l ih=>
      intro k hk m x hx
      simp only[qG,ch] at hk
      cases m with
      |zero=>simp only[lv,cp] at hx;subst hx;exact hk.1
      |succ m=>
       simp only[lL] at hx
       have:=ih (k+1) hk.2 m x hx
       rwa [fg,QP 1 m] at this
    have he':mQ[j]? = some e:=by rwa [my hj] at he
    have:=key mQ 0 h.1 j e he'
    simp only[B2,Nat.zero_add,ib,ch,ic] at this
    rcases this with q | ⟨q1,q2 | q2⟩
    · exact .inl q
    · exact .inr ⟨sS q1,.inl (sS q2)⟩
    · exact .inr ⟨sS q1,.inr (Gg q2)⟩
  · have h':wE L (mQ++[d0]).length (mQ++[d0]) r=true:=by simpa using h.2
    exact uz h' i j d e (by simp;omega) hj (by simpa using hd) (by simpa using he)
theorem uA {m m':Mem} : ∀(f:Nat) (ord:List Nat) (k:Nat),ord.Nodup→(∀i∈reach m f ord k,m.getD i .dead=m'.getD i .dead)→reach m' f ord k=reach m f ord k
 |0,_,_,_,_=>rfl
 |f+1,ord,k,hnd,h=>by
  simp only[reach] at h ⊢
  cases hk:ord[k]? with
  |none=>rfl
  |some i=>
   simp only[hk] at h
   dsimp only
   have F6:=(dW (Ai (m.getD i .dead)) ord hnd).1
   obtain⟨t1,h1⟩:=(dW (Ai (m.getD i .dead)) ord hnd).2
   obtain⟨t2,h2⟩:=(l7 m f _ (k+1) F6).2
   have hi:m.getD i .dead=m'.getD i .dead:=h i (by rw[h2,h1];exact Ha _ (Ha _ (mc hk)))
   rw[←hi]
   exact uA f _ (k+1) F6 h
theorem DX {m m':Mem} {args:List AV} (hl:m.length=m'.length) (h : ∀i∈close m 0 args,m.getD i .dead=m'.getD i .dead):close m' 0 args=close m 0 args:=by
 unfold close at h ⊢
 rw[←hl]
 exact uA _ _ _ (dW _ _ (jS 0)).1 h
theorem Gi {m m':Mem} {ord:List Nat} (h : ∀i∈ord,m.getD i .dead=m'.getD i .dead):pack m' ord=pack m ord:=by
 unfold pack
 exact Hb fun i hi=>by rw[h i hi]
theorem oX (ρ:Nat→Option Nat) : ∀(ord:List Nat) (m1 m:Mem),ord.length=m1.length→dr ρ ord m1 m=apply m (ord.zip (m1.map (gd ρ)))
 |[],[],m,_=>by simp[dr,apply]
 |i::ord,b::m1,m,h=>by
  simp only[dr,oe,List.zip_cons_cons,apply]
  exact oX ρ ord m1 _ (by simpa using h)
 |[],_::_,_,h=>by simp at h
 |_::_,[],_,h=>by simp at h
theorem Rel.WN {g g1:Gh} {m m1:Mem} {w w':World} (h:Rel g m w) {ord R:List Nat} (hnd:(ord++R).Nodup) (hlt : ∀i∈ord++R,i<m.length) (hR : ∀i∈R,m[i]? = some .free)
  (h1:Rel g1 m1 w') (hs:dc (g.pack ord) (Am.pack m ord) w g1 m1 w') (hf:bM (g.pack ord) g1 ord.length) (hl:(ord++R).length=m1.length) :
  ∃g',Rel g' (apply m ((ord++R).zip (m1.map (gd (bw (ord++R) m.length))))) w'∧Ext g w g' w'∧dc g m w g' (apply m ((ord++R).zip (m1.map (gd (bw (ord++R) m.length))))) w'∧dA (bw (ord++R) m.length) g1 g':=by
 have own : ∀c,fD (g.pack ord) (Am.pack m ord) c→fD (g.pack (ord++R)) (Am.pack m (ord++R)) c:=by
  rintro c ⟨k,b,hk,ho,hc⟩
  obtain⟨i,hi,rfl⟩:=jR hk
  have hi':(ord++R)[k]? = some i:=by rw[my (bF hi)];exact hi
  refine⟨k,gd (idx (ord++R)) (m.getD i .dead),?_,by rw[lq] at ho ⊢;exact ho,?_⟩
  · simp only[Am.pack,dC,hi',hC]
  · simpa[Gh.pack,hi,hi'] using hc
 have hs':dc (g.pack (ord++R)) (Am.pack m (ord++R)) w g1 m1 w':=
  ⟨hs.size,fun c hc hn=>hs.keep c hc fun q=>hn (own c q),hs.pure,fun c o p=>(hs.fresh c o p).imp id fun q=>q.imp (own c) id,fun c ho=>(hs.owned c ho).imp (own c) id,hs.os,hs.tape,hs.output⟩
 have hf':bM (g.pack (ord++R)) g1 (ord++R).length:=by
  intro k c hk hc
  rcases fb k ord.length with q | q
  · have e:(ord++R)[k]? = ord[k]? :=my q
    have:=hf k c q (by simpa[Gh.pack,e] using hc)
    simpa[Gh.pack,e] using this
  · have e:(ord++R)[k]? = R[k-ord.length]? :=Hc q
    simp only[Gh.pack,e] at hc
    cases hr:R[k-ord.length]? with
    |none=>rw[hr] at hc;cases hc
    |some i=>
     rw[hr] at hc
     simp only[tp] at hc
     rw[h.free i (hR i (mc hr))] at hc;cases hc
 obtain⟨r1,r2,r3,r4⟩:=h.back hnd hlt h1 hs' hf' (by omega)
 rw[oX _ _ _ _ hl] at r1 r3
 exact⟨_,r1,r2,r3,r4⟩
theorem xH {m m':Mem} {i:Nat} (h:m[i]? = m'[i]?):m.getD i .dead=m'.getD i .dead:=by
 rw[cb,cb,h]
end
section
variable {P:Program} {E:Env}
theorem mh : ∀(ds:List gF) (m:Mem),(mM m ds).length=m.length
 |[],_=>rfl
 |d::ds,m=>by rw[mM,mh ds,eB]
structure VV (P:Program) (E:Env) (wr:Oper→Bool) (ops:Array Oper) (m:Nat) (gA:St) (ds:List gF) (st':St):Prop where
 len:ds.length=ops.toList.length
 ends:dL ops.toList (ds.map (·.v)) gA m {st' with mem:=gA.mem}
 mem:st'.mem=mM gA.mem (ds.take m)
 each : ∀(i:Nat) (o:Oper),ops.toList[i]? = some o→i<m → ∃d iH xD DW,ds[i]? = some d∧DV P E wr ops iH xD o d DW∧fits iH o.dst=true∧dL ops.toList (ds.map (·.v)) gA i {iH with mem:=gA.mem}∧iH.mem=mM gA.mem (ds.take i)∧lz xD iH.mem∧xD≤iH.mem.length
 dum : ∀(i:Nat) (e:gF),m≤i→ds[i]? = some e→e.us=[]
theorem mS.abo {ops:Array Oper} {L:List Nat} {vs:List AV} {gA eG:St} {S:Array Bool} (hI:mS ops L vs gA eG S) (hl:vs.length=ops.toList.length) {st':St} {m:Nat} (hst:dL ops.toList vs gA m st') (hall : ∀i,i<m→S.getD i false=true) (hnot : ∀i,m≤i→S.getD i false=false) :
  eG.mem=st'.mem∧eG.nt=st'.nt∧eG.fix=st'.fix ∧ ∀t,look eG.tm t=look st'.tm t:=by
 obtain⟨h1,h2,h3,hA,hB⟩:=hst
 have lt : ∀j,S.getD j false=true→j<m:=fun j hj=>by
  rcases fb j m with q | q
  · exact q
  · rw[hnot j q] at hj;cases hj
 refine⟨hI.mem.trans h1.symm,hI.nt.trans h2.symm,hI.fix.trans h3.symm,fun t=> ?_⟩
 by_cases hw : ∃(j:Nat) (p:Oper),j<m∧ops.toList[j]? = some p∧p.dst=some t
 · obtain⟨j,p,hj,hp,hd⟩:=hw
   have hjl:=(di.1 hp).1
   have MJ:vs[j]? = some vs[j]:=bm (by rw[hl];exact hjl)
   rw[hI.a j p _ t (hall j hj) hp MJ hd,hA j p _ t hj hp MJ hd]
 · rw[hI.b t fun k q hk hq hd=>hw ⟨k,q,lt k hk,hq,hd⟩,hB t fun k q hk hq hd=>hw ⟨k,q,hk,hq,hd⟩]
theorem SQ {ops:Array Oper} {S:Array Bool} (h : ∀i,i<ops.size→S.getD i false=true) (hs:S.size=ops.size) (fuel t:Nat):aao .any ops fuel t S []=[]:=by
 cases fuel with
 |zero=>rfl
 |succ fuel=>
  have hr:xr .any ops S=[]:=by
   cases hr:xr .any ops S with
   |nil=>rfl
   |cons x xs=>
    have hx:x∈xr .any ops S:=by rw[hr];exact .head _
    obtain⟨h1,o,ho,_⟩:=mem_ready.1 hx
    have hlt:=(yr.1 ho).1
    have:=h x hlt
    rw[lu (by omega) false true,h1] at this
    cases this
  simp only[aao]
  show(match(xr .any ops S)[t%(xr .any ops S).length]? with
   |some i=>aao .any ops fuel (t / (xr .any ops S).length) (S.setIfInBounds i true) [i]
   |none=>[].reverse)=[]
  rw[hr]
  rfl
theorem SR {b:Frame} {k:List Item} (cs:List Frame) {ops:Array Oper} {L:List Nat} {ds:List gF} {gA st':St} {m:Nat} {wr:Oper→Bool} (hO:vi ops L) (hL:LOk L ds) (hrun:VV P E wr ops m gA ds st')
  (hm:m=ops.size∨(m+1=ops.size ∧ ∀j,j<m→bc (L.getD m 0) j=true)) : ∀(fuel t:Nat) (S:Array Bool) (eG:St) (a:Act) (g:Gh) (w:World) (u:List Nat),
    mS ops L (ds.map (·.v)) gA {eG with mem:=gA.mem} S→jT ds gA.mem (fun j=>S.getD j false=true) eG.mem→cK E g eG a w→u.length=fuel→(∀i,i<ops.size→S.getD i false=false→i∈u)→(∀i,m≤i→S.getD i false=false) →
    ∃g' a' w',Steps P (lone (b.atR a (.inRegion ops (aao .any ops fuel t S [])::k)) cs w) (lone (b.atR a' (.inRegion ops (wx m (ops.size-m))::k)) cs w')∧a'.defers=a.defers∧cK E g' st' a' w' ∧
     dc g eG.mem w g' st'.mem w'∧bM g g' gA.fix ∧ ∀i c,g.bS i=some c→g'.bS i=some c:=by
 obtain⟨hdl,hend,hmem,hspec,abp⟩:=hrun
 have hl:(ds.map (·.v)).length=ops.toList.length:=by simpa using hdl
 have aji:ds.length=ops.size:=by simpa using hdl
 have Wv:m≤ops.size:=by omega
 have fin : ∀(S:Array Bool) (eG:St) (a:Act) (g:Gh) (w:World),mS ops L (ds.map (·.v)) gA {eG with mem:=gA.mem} S→jT ds gA.mem (fun j=>S.getD j false=true) eG.mem→cK E g eG a w →
   (∀i,i<m→S.getD i false=true)→(∀i,m≤i→S.getD i false=false)→cK E g st' a w∧eG.mem=st'.mem:=by
  intro S eG a g w hI hM hs hall hnot
  obtain⟨_,e2,e3,e4⟩:=hI.abo hl hend hall hnot
  have hm:eG.mem=st'.mem:=by
   apply List.ext_getElem?
   intro i
   rw[hmem]
   have h2:=xB ds gA.mem m (by omega)
   refine hM.agree h2 fun j d hd _=> ?_
   refine⟨fun hS=> ?_,fun hj=>hall j hj⟩
   rcases fb j m with q | q
   · exact q
   · rw[hnot j q] at hS;cases hS
  exact⟨hs.same hm e2 e3 e4,hm⟩
 have full : ∀(S:Array Bool),(∀i,i<ops.size→S.getD i false=true)→(∀i,m≤i→S.getD i false=false)→m=ops.size:=by
  intro S h1 h2
  rcases hm with q | ⟨q,_⟩
  · exact q
  · have:=h1 m (by omega);rw[h2 m (bj _)] at this;cases this
 intro fuel
 induction fuel with
 |zero=>
  intro t S eG a g w u hI hM hs WL hu hnot
  have hall : ∀i,i<ops.size→S.getD i false=true:=by
   intro i hi
   cases hq:S.getD i false with
   |true=>rfl
   |false=>
    have:=hu i hi hq
    rw[H0 WL] at this;cases this
  have WO:=full S hall hnot
  obtain⟨h1,h2⟩:=fin S eG a g w hI hM hs (fun i hi=>hall i (by omega)) hnot
  refine⟨g,a,w,?_,rfl,h1,by rw[h2];exact dc.refl _ _ _,bM.refl _ _,fun _ _ h=>h⟩
  rw[WO,PH,H3]
  exact aaN _ _
 |succ fuel ih=>
  intro t S eG a g w u hI hM hs WL hu hnot
  simp only[aao]
  show ∃g' a' w',Steps P (lone (b.atR a (.inRegion ops (match(xr .any ops S)[t%(xr .any ops S).length]? with
   |some i=>aao .any ops fuel (t / (xr .any ops S).length) (S.setIfInBounds i true) [i]
   |none=>[].reverse)::k)) cs w) (lone (b.atR a' (.inRegion ops (wx m (ops.size-m))::k)) cs w')∧_
  cases hi:(xr .any ops S)[t%(xr .any ops S).length]? with
  |none=>
   have M7:xr .any ops S=[]:=by
    cases hr:xr .any ops S with
    |nil=>rfl
    |cons x xs=>
     rw[hr] at hi
     have hlt:t%(x::xs).length<(x::xs).length:=pt _ (by simp)
     rw[bm hlt] at hi;cases hi
   have hall:=hI.all hO M7
   have WO:=full S hall hnot
   obtain⟨h1,h2⟩:=fin S eG a g w hI hM hs (fun i hi=>hall i (by omega)) hnot
   refine⟨g,a,w,?_,rfl,h1,by rw[h2];exact dc.refl _ _ _,bM.refl _ _,fun _ _ h=>h⟩
   rw[WO,PH,H3]
   exact aaN _ _
  |some i=>
   have SL:=mc hi
   obtain⟨hSi,o,ho,_⟩:=mem_ready.1 SL
   have ho':ops.toList[i]? = some o:=by simpa using ho
   have hilt:i<ops.size:=(yr.1 ho).1
   by_cases him:i<m
   case neg=>
    have hme:i=m∧m+1=ops.size ∧ ∀j,j<m→bc (L.getD m 0) j=true:=by
     rcases hm with q | ⟨q1,q2⟩
     · omega
     · exact⟨by omega,q1,q2⟩
    obtain⟨rfl,hsz,abq⟩:=hme
    have hall : ∀j,j<i→S.getD j false=true:=fun j hj=>hI.ahead hO SL (abq j hj)
    obtain⟨h1,h2⟩:=fin S eG a g w hI hM hs hall hnot
    dsimp only
    rw[linearise_go_acc,Hd,Hk,SQ (fun j hj=>by
     by_cases e:i=j
     · subst e;simp[xb,hI.size,hj]
     · rw[getD_set_ne false e];exact hall j (by omega)) (by simp[hI.size])]
    refine⟨g,a,w,?_,rfl,h1,by rw[h2];exact dc.refl _ _ _,bM.refl _ _,fun _ _ h=>h⟩
    rw[show ops.size-i=1 by omega,List.range'_one]
    exact aaN _ _
   obtain⟨d,iH,xD,DW,hd,hk,hf,Gb,hmi,abr,afB⟩:=hspec i o ho' him
   have hv:(ds.map (·.v))[i]? = some d.v:=by rw[dC,hd];rfl
   have xy : ∀t∈slots ops o,look eG.tm t=look iH.tm t:=fun t ht=>hI.slots hO ho' SL hl Gb ht
   have hid:i<ds.length:=(di.1 hd).1
   have hni:S.getD i false=false:=by rw[lu (by rw[hI.size];exact hilt) false true];exact hSi
   have M8:i∈u:=hu i hilt hni
   have Sf : ∀j,j<ops.size→(S.setIfInBounds i true).getD j false=false→j∈u.erase i:=by
    intro j hj hq
    have hne:j≠i:=by
     intro e
     subst e
     rw[show(S.setIfInBounds j true).getD j false=true by simp[xb,hI.size,hj]] at hq
     cases hq
    rw[getD_set_ne false (fun e=>hne e.symm)] at hq
    exact(H5 hne).2 (hu j hj hq)
   have abt : ∀j,m≤j→(S.setIfInBounds i true).getD j false=false:=by
    intro j hj
    rw[getD_set_ne false (by omega)]
    exact hnot j hj
   have SM:(u.erase i).length=fuel:=by rw[H2 M8,WL];rfl
   have zG : ∀j,(S.setIfInBounds i true).getD j false=true↔S.getD j false=true∨j=i:=by
    intro j
    by_cases h:i=j
    · subst h
      simp[xb,hI.size,hilt]
    · rw[getD_set_ne false h]
      exact⟨.inl,fun q=>q.resolve_right fun e=>h e.symm⟩
   have hwf : ∀b∈d.w,b∈d.fp:=(hk.facts afB).2.2.2
   have wfp : ∀(j:Nat) (e:gF),ds[j]? = some e → ∀b∈e.w,b∈e.fp:=by
    intro j e he
    have hj:=(di.1 he).1
    have hoj:ops.toList[j]? = some ops.toList[j]:=bm (by omega)
    by_cases hjm:j<m
    case neg=>
     intro b hb
     rw[gF.w,abp j e (by omega) he] at hb
     cases hb
    obtain⟨e',stj,nxj,afD,q1,q2,_,_,_,_,q3⟩:=hspec j _ hoj hjm
    rw[he] at q1;cases q1
    exact(q2.facts q3).2.2.2
   have VN:=xB ds gA.mem i (by omega)
   rw[←hmi] at VN
   have wlt : ∀(j:Nat) (e:gF),ds[j]? = some e → ∀b∈e.w,b<gA.mem.length:=by
    intro j e he b hb
    have hj:=(di.1 he).1
    have hoj:ops.toList[j]? = some ops.toList[j]:=bm (by omega)
    by_cases hjm:j<m
    case neg=>
     rw[gF.w,abp j e (by omega) he] at hb
     cases hb
    obtain⟨e',stj,nxj,afD,q1,q2,_,_,q4,_,q3⟩:=hspec j _ hoj hjm
    rw[he] at q1;cases q1
    have h1:=(q2.facts q3).2.2.1 b hb
    have h2:=(q2.facts q3).2.1
    have h3:=mh (ds.take j) gA.mem
    rw[q4,h3] at h2
    omega
   have hag : ∀b∈d.fp,eG.mem[b]? = iH.mem[b]? ∨ (d.us=[] ∧ ∃x,eG.mem[b]? = some x∧d.ld b x=true):=by
    intro b hb
    by_cases hw : ∃j e,S.getD j false=true∧i<j∧ds[j]? = some e∧b∈e.w
    · obtain⟨j0,e0,q1,q2,q3,q4⟩:=hw
      obtain⟨j,⟨hj,e,he,zy⟩,hl⟩:=Ik (p:=fun j=>S.getD j false=true ∧ ∃d,ds[j]? = some d∧b∈d.w) (n:=ds.length) (fun k ⟨_,d,hd,_⟩=>(di.1 hd).1) _ j0 rfl ⟨q1,e0,q3,q4⟩
      have hij:i<j:=by
       rcases fb i j with q | q
       · exact q
       · exact absurd (show j<j0 by omega) (hl j0 ⟨q1,e0,q3,q4⟩)
      have DY:=hM.last j e b hj he zy fun k x hk Sh hx hbx=>hl k ⟨hk,x,hx,hbx⟩ Sh
      rcases hL.pair j i e d hij he hd with q | ⟨_,q | q⟩
      · have:=hI.cl j i hj q;rw[hni] at this;cases this
      · exact absurd hb (q b zy)
      · obtain⟨x,hx,hld⟩:=q.2 b zy hb
        rw[xG hx (wlt j e he b zy)] at DY
        exact .inr ⟨q.1,x,DY,hld⟩
    · refine .inl (hM.agree VN fun j e he zy=> ?_)
      rcases Ps j i with hlt | heq | hgt
      · rcases hL.pair i j d e hlt hd he with q | ⟨q,_⟩
        · exact⟨fun _=>hlt,fun _=>hI.ahead hO SL q⟩
        · exact absurd hb (q b zy)
      · subst heq
        exact⟨fun q=>(by rw[hni] at q;cases q),fun q=>absurd q (Nat.lt_irrefl _)⟩
      · exact⟨fun q=>absurd ⟨j,e,q,hgt,he,zy⟩ hw,fun q=>by omega⟩
   have Nc:eG.mem.length=iH.mem.length:=hM.len.trans VN.len.symm
   have hM':jT ds gA.mem (fun j=>(S.setIfInBounds i true).getD j false=true) (apply eG.mem d.us):=by
    refine hM.step hd zG (by rw[hni];exact fun q=>by cases q) fun j e hS hij he b hb zy=> ?_
    rcases hL.pair j i e d hij he hd with q | ⟨q,_⟩
    · have:=hI.cl j i hS q;rw[hni] at this;cases this
    · exact q b hb (wfp j e he b zy)
   have hI':=hI.step hO ho' hv SL
   have hfA:fits eG o.dst=true:=by
    have:fits eG o.dst=fits iH o.dst:=by unfold fits;rw[show eG.nt=gA.nt from hI.nt,show iH.nt=gA.nt from Gb.2.1]
    rw[this];exact hf
   have aik:eG.fix=gA.fix:=hI.fix
   have hput : ∀m:Mem,put {eG with mem:=gA.mem} o.dst d.v={put {eG with mem:=m} o.dst d.v with mem:=gA.mem}:=by
    intro m;cases o.dst<;>rfl
   have VW : ∀m:Mem,(put {eG with mem:=m} o.dst d.v).mem=m:=by intro m;cases o.dst<;>rfl
   have abu:eG.fix≤(apply eG.mem d.us).length:=by rw[eB];exact hs.fix
   dsimp only
   rw[linearise_go_acc,Hd,Hk]
   have Gc:=ux xy
   have zx:=DT (E:=E) xy
   obtain⟨w1,w2,w3⟩:=oz hs (ops:=ops) (o:=o)
   have go : ∀(g2:Gh) (cv:Value) (w':World),VA g2 w' d.v cv→Rel g2 (apply eG.mem d.us) w'→Ext g w g2 w'→dc g eG.mem w g2 (apply eG.mem d.us) w' →
     Steps P (lone (b.atR a (.inRegion ops (i::aao .any ops fuel (t / (xr .any ops S).length) (S.setIfInBounds i true) [])::k)) cs w)
      (lone (b.atR (a.put o.dst cv) (.inRegion ops (aao .any ops fuel (t / (xr .any ops S).length) (S.setIfInBounds i true) [])::k)) cs w') →
     ∃g' a' w',Steps P (lone (b.atR a (.inRegion ops (i::aao .any ops fuel (t / (xr .any ops S).length) (S.setIfInBounds i true) [])::k)) cs w) (lone (b.atR a' (.inRegion ops (wx m (ops.size-m))::k)) cs w')∧a'.defers=a.defers∧cK E g' st' a' w' ∧
      dc g eG.mem w g' st'.mem w'∧bM g g' gA.fix ∧ ∀i c,g.bS i=some c→g'.bS i=some c:=by
    intro g2 cv w' k2 k3 k4 k5 kst
    have hs':=hs.put hfA k2 k4 k3 abu
    obtain⟨g3,a3,w3',r1,r2,r3,r4,r5,r6⟩:=ih (t / (xr .any ops S).length) (S.setIfInBounds i true) _ _ _ _ (u.erase i) (by rw[←hput];exact hI') (by rw[VW];exact hM') hs' SM Sf abt
    rw[VW] at r4
    refine⟨g3,a3,w3',kst.trans r1,r2.trans put_defers,r3,k5.trans r4,(bM.qV k4 _).trans r5,fun j c q=>r6 j c (k4.bS j c q).1⟩
   rcases hk with⟨hw,WQ⟩ | ⟨hw,rfl,rfl⟩
   · have iI:xf o (yielded ops a.tmps)=true:=by
      rcases hw with hw | ⟨s',b',want,hw,hb⟩
      · exact w1 (Gc.trans hw)
      · rw[(w3 s' b' want (Gc.trans hw)).1];exact hb
     rcases WQ with⟨gf,args,v,m1,ht,fo,h1,h2,h3,h4,h5⟩ | ⟨ht,WR,hop,hfp,ajs,h3,h4,hld⟩
     · have sU : ∀b∈d.fp,eG.mem[b]? = iH.mem[b]? :=fun b hb=>(hag b hb).resolve_right fun⟨_,x,_,q⟩=>by rw[h5] at q;cases q
       have SS:target (ev E eG.tm) o=some (gf,args):=(Cq zx).trans ht
       have WS:d.fp=close iH.mem 0 args++wx xD (m1.length-(close iH.mem 0 args).length):=by rw[h5];rfl
       have afF:close eG.mem 0 args=close iH.mem 0 args:=DX Nc.symm fun j hj=>(xH (sU j (by rw[WS];exact Ha _ hj))).symm
       have abv:pack eG.mem (close iH.mem 0 args)=pack iH.mem (close iH.mem 0 args):=Gi fun j hj=>(xH (sU j (by rw[WS];exact Ha _ hj))).symm
       obtain⟨hnd,_⟩:=eU iH.mem 0 args
       generalize close iH.mem 0 args=ord at *
       rw[←abv] at fo
       have hR : ∀j∈wx xD (m1.length-ord.length),eG.mem[j]? = some .free:=by
        intro j hj
        rw[sU j (by rw[WS];exact Fs _ hj)]
        rw[Hn] at hj
        exact abr j hj.1 (by omega)
       have afG:(ord++wx xD (m1.length-ord.length)).Nodup:=List.nodup_append.2 ⟨hnd,List.nodup_range',fun x hx y hy e=>by
        subst e
        rw[Hn] at hy
        have:=h2 x hx;omega⟩
       have Wp : ∀j∈ord++wx xD (m1.length-ord.length),j<eG.mem.length:=by
        intro j hj
        rcases mi.1 hj with q | q
        · have:=h2 j q;omega
        · rw[Hn] at q;omega
       obtain⟨⟨fn,SG,SH,SI⟩,fo⟩:=fo
       unfold target at SS
       split at SS
       · rename_i call afH
         split at SS
         · rename_i x zT
           split at SS
           · rename_i f' first captured hx
             simp only[cp,ie] at SS
             obtain⟨rfl,WT⟩:=SS
             have zM:=gk hs x
             rw[hx,VA.fns] at zM
             obtain⟨fa,ca,zM,WJ,hca⟩:=zM
             have abw:=xu (P:=P) (w:=w) afH zT zM SG SH SI
             have hargs:cA g w args (fa++call.args.map a.eval++ca).toList:=by
              rw[←WT]
              simp only[zd,fx]
              exact(WJ.append (gC (gk hs) _)).append hca
             obtain⟨MY,MZ⟩:=hs.rel.pack hnd
             have l8:=dA.pack g ord
             obtain⟨w',g',cv,fr,q1,q2,q3,q4,q5,q6,q7,q8⟩:=fo (g.pack ord) w (fa++call.args.map a.eval++ca) (b.atR a (.inRegion ops (i::aao .any ops fuel (t / (xr .any ops S).length) (S.setIfInBounds i true) [])::k)::cs) MY
              (cA.jk l8 hargs) (hs.cQ.mono fun _ _ p=>⟨p,rfl⟩)
             have hlen:(Am.pack eG.mem ord).length=ord.length:=by simp[Am.pack]
             rw[hlen] at q7 q8
             obtain⟨g2,r1,r2,r3,r4⟩:=hs.rel.WN afG Wp hR q5 q6 q7 (by simp;omega)
             have Ce:d.us=(ord++wx xD (m1.length-ord.length)).zip (m1.map (gd (bw (ord++wx xD (m1.length-ord.length)) eG.mem.length))):=by rw[h5,Nc];rfl
             have hdv:d.v=jk (bw (ord++wx xD (m1.length-ord.length)) eG.mem.length) v:=by rw[h5,Nc];rfl
             rw[←Ce] at r1 r3
             have hstep:=pW (b:=b) (k:=k) (cs:=cs) (rest:=aao .any ops fuel (t / (xr .any ops S).length) (S.setIfInBounds i true) []) ho iI abw
             have hleave:=step_leave_returned (P:=P) (c:=b.atR a (.inRegion ops (i::aao .any ops fuel (t / (xr .any ops S).length) (S.setIfInBounds i true) [])::k)) (cs:=cs) q2
             rw[yi,ho] at hleave
             exact go g2 cv w' (by rw[hdv];exact q4.jk r4) r1 r2 r3 (.head hstep (q1.trans (.one hleave)))
           · cases SS
         · cases SS
       · cases SS
     · have both:(uc P (fun j=>eG.mem.getD j .dead) (wr o) xD (ev E eG.tm) o=some (d.v,d.us,true))∧(makes o=true→eG.mem[xD]? = some .free):=by
        by_cases hsp : ∃b x,d.us=[]∧eG.mem[b]? = some x∧d.ld b x=true
        · obtain⟨b,x,Ce,hx,DZ⟩:=hsp
          rw[hld] at DZ
          unfold Wm at DZ
          split at DZ
          · rename_i t a WU
            split at DZ
            · rename_i c off afI
              simp only[ch] at DZ
              obtain⟨hcb,MV⟩:=DZ
              have hcb:=ag hcb
              subst hcb
              split at MV
              · rename_i v' ok hlo
                simp only[ch] at MV
                obtain⟨rfl,VX⟩:=MV
                have VX:=kB VX
                subst VX
                have hrd:(fun j=>eG.mem.getD j aU.dead) c=x:=by
                 show eG.mem.getD c .dead=x
                 rw[cb,hx];rfl
                have jP:kL P (fun j=>eG.mem.getD j .dead) t (.mp c off)=kL P (fun _=>x) t (.mp c off):=by
                 simp only[kL,oW (rd:=fun j=>eG.mem.getD j aU.dead) (rd':=fun _=>x) (a:= .mp c off) (fun b hb=>by
                  have:b=c:=by simpa[refs] using hb
                  subst this;exact hrd)]
                refine⟨?_,fun hm=> ?_⟩
                · have e1:ev E eG.tm a = .mp c off:=by rw[zx a (by rw[WU];simp[QR]),afI]
                  simp only[uc,WU,e1,jP,hlo,gP,hC,Ce]
                · simp[makes,WU] at hm
              · cases MV
            · cases DZ
          · cases DZ
        · have sU : ∀b∈d.fp,eG.mem[b]? = iH.mem[b]? :=fun b hb=>(hag b hb).resolve_right fun⟨q0,x,q1,q2⟩=>hsp ⟨b,x,q0,q1,q2⟩
          refine⟨?_,fun hm=> ?_⟩
          · rw[←hop]
            refine(SO WR (fun x hx=>(zx x hx).symm) fun j hj=> ?_).symm
            exact(xH (sU j (by rw[hfp];exact Fs _ (Ha _ hj)))).symm
          · rw[sU xD (by rw[hfp,hm];exact Fs _ (Fs _ (by simp)))]
            rw[hm] at h3
            simp only[cond_true] at h3
            exact abr xD (bj _) (by omega)
       obtain⟨afJ,hfree⟩:=both
       obtain⟨cv,w',g',k1,k2,k3,k4,k5⟩:=ox hs.rel (gk hs) (fun _=>rfl) hfree afJ
       exact go g' cv w' k2 k3 k4 k5 (.one (oy ho iI k1))
   · have iI:xf o (yielded ops a.tmps)=false:=by
      rcases hw with hw | ⟨s',b',want,hw,hb⟩
      · exact w2 (Gc.trans hw)
      · rw[(w3 s' b' want (Gc.trans hw)).1];exact hb
     refine go g undef w (VA.mR.2 trivial) hs.rel (Ext.refl g w) (dc.refl _ _ _) (.one ?_)
     have hst:=stepR_op_skip (P:=P) (b:=b) (a:=a) (k:=k) (cs:=cs) (w:=w) (ops:=ops) (i:=i) (rest:=aao .any ops fuel (t / (xr .any ops S).length) (S.setIfInBounds i true) []) (by simp[ho,iI])
     simpa only[ho,tp] using hst
theorem uB : ∀{m:Mem},vI m=true → ∀(i:Nat) (b:aU),m[i]? = some b→b = .free
 |[],_,i,b,h=>by simp at h
 |x::r,h,i,b,hb=>by
  cases x with
  |free=>
   cases i with
   |zero=>simpa using hb.symm
   |succ i=>exact uB (m:=r) h i b (by simpa using hb)
  |_=>cases h
theorem Rel.trim {g:Gh} {m:Mem} {w:World} (h:Rel g m w) {n:Nat} (hf:vI (m.drop n)=true):Rel g (m.take n) w∧dc g m w g (m.take n) w:=by
 have get : ∀i b,(m.take n)[i]? = some b→m[i]? = some b:=fun i b hb=>by
  rw[c9] at hb
  split at hb
  · exact hb
  · cases hb
 refine⟨⟨fun i hi=> ?_,fun i hi=>h.free i (get i _ hi),fun i b l hi hb=>h.cells i b l (get i b hi) hb,fun i c hi hc=>h.tok i c (get i _ hi) hc,
  fun i j b b' c hi hj ho ho' hc fm=>h.inj i j b b' c (get i b hi) (get j b' hj) ho ho' hc fm,h.there,fun i k l hi=>h.obs i k l (get i _ hi)⟩,dc.less fun c ⟨i,b,hi,ho,hc⟩=>⟨i,b,get i b hi,ho,hc⟩⟩
 rcases fb i m.length with q | q
 · rw[du] at hi
   have hb:(m.drop n)[i-n]? = some m[i]:=by
    rw[List.getElem?_drop,show n+(i-n)=i by omega]
    exact bm q
   have:=uB hf _ _ hb
   exact h.free i (by rw[bm q,this])
 · exact h.vJ i q
theorem Rel.cV {g:Gh} {w:World} : ∀(n:Nat) {m:Mem},Rel g m w→Rel g (m++cV n) w∧dc g m w g (m++cV n) w
 |0,m,h=>by
  simp only[Am.cV,List.replicate_zero,H4]
  exact⟨h,dc.refl _ _ _⟩
 |n+1,m,h=>by
  obtain⟨h1,h2⟩:=h.reserve
  obtain⟨h3,h4⟩:=Rel.cV n h1
  have e:m++Am.cV (n+1)=(m++[.free])++Am.cV n:=by simp[Am.cV,List.replicate_succ]
  rw[e]
  exact⟨h3,h2.trans h4⟩
theorem qZ {x:Nat} : ∀{n:Nat},vF x n=true → ∀j,j<n→bc x j=true
 |0,_,j,h=>absurd h (ui _)
 |n+1,h,j,hj=>by
  simp only[vF,ch] at h
  rcases fb j n with q | q
  · exact qZ h.2 j q
  · have:j=n:=by omega
    subst this;exact h.1
theorem Cr (ops:Array Oper):gy ops≤ops.size∧(gy ops=ops.size∨(gy ops+1=ops.size ∧ ∀j,j<gy ops→bc ((masks [] ops.toList).getD (gy ops) 0) j=true)):=by
 unfold gy
 cases h:sF ops with
 |false=>exact⟨bj _,.inl rfl⟩
 |true=>
  simp only[cond_true]
  refine⟨by omega,?_⟩
  unfold sF at h
  simp only[ch] at h
  obtain⟨h1,h2⟩:=h
  have hp:0<ops.size:=by
   rcases Nat.eq_zero_or_pos ops.size with e | e
   · rw[show ops[ops.size-1]? = none from yv (by omega)] at h1;cases h1
   · exact e
  exact .inr ⟨by omega,fun j hj=>qZ h2 j hj⟩
theorem zV.abx {wr:Oper→Bool} {ops:Array Oper} {m:Nat} {st st':St} {nx oQ:Nat} {ds:List gF} (h:zV P E wr ops (ops.toList.take m) st nx ds st' oQ) (hm:m≤ops.size) (hu:DR ops.toList) (hn:nx≤st.mem.length) (hfr:lz nx st.mem) :
  VV P E wr ops m st (ds++bx (ops.size-m) ⟨.aA [],[],[],fun _ _=>false⟩) st'∧ds.length=m∧st'.mem=mM st.mem ds∧st'.fix=st.fix:=by
 have get : ∀i,i<m→(ops.toList.take m)[i]? = ops.toList[i]? :=fun i hi=>by rw[c9,if_pos hi]
 have Sf:DR (ops.toList.take m):=by
  intro i j p q t hij hp hq
  rw[c9] at hp hq
  split at hp
  · split at hq
    · exact hu i j p q t hij hp hq
    · cases hq
  · cases hp
 have hlen:(ops.toList.take m).length=m:=by simp;omega
 obtain⟨h1,h2,h3,_,h4⟩:=h.spec Sf hn hfr
 rw[hlen] at h1 h2
 have slots : ∀{i:Nat} {T:St},i≤m→dL (ops.toList.take m) (ds.map (·.v)) st i T→dL ops.toList ((ds++bx (ops.size-m) (⟨.aA [],[],[],fun _ _=>false⟩:gF)).map (·.v)) st i T:=by
  intro i T hi ⟨q1,q2,q3,q4,q5⟩
  refine⟨q1,q2,q3,fun j p v t hj hp hv ht=>q4 j p v t hj (by rw[get j (by omega)];exact hp) ?_ ht,fun t ht=>q5 t fun j p hj hp=>ht j p hj ?_⟩
  · rw[List.map_append,my (by simp;omega)] at hv;exact hv
  · rw[get j (by omega)] at hp;exact hp
 refine⟨⟨by simp;omega,slots (bj _) h2,?_,?_,?_⟩,h1,h3,h2.2.2.1⟩
 · rw[mv (by omega),List.take_of_length_le (by omega)];exact h3
 · intro i o ho hi
   obtain⟨d,iH,xD,DW,q1,q2,q3,q4,q5,q6,q7⟩:=h4 i o (by rw[get i hi];exact ho)
   refine⟨d,iH,xD,DW,by rw[my (by omega)];exact q1,q2,q3,slots (by omega) q4,?_,q6,q7⟩
   rw[mv (by omega)];exact q5
 · intro i e hi he
   rw[Hc (by omega),Hm] at he
   split at he
   · cases he;rfl
   · cases he
theorem LOk.pad {L:List Nat} {ds:List gF} {n:Nat} (h : ∀(i j:Nat) (d e:gF),j<i→ds[i]? = some d→ds[j]? = some e→bc (L.getD i 0) j=true∨((∀b∈e.w,b∉d.fp)∧((∀b∈d.w,b∉e.fp)∨SP d e))) :
  LOk L (ds++bx n ⟨.aA [],[],[],fun _ _=>false⟩):=by
 refine⟨fun i j d e hj hd he=> ?_⟩
 rcases fb i ds.length with q | q
 · exact h i j d e hj (by rw[my q] at hd;exact hd) (by rw[my (by omega)] at he;exact he)
 · rw[Hc q,Hm] at hd
   split at hd
   · cases hd
     exact .inr ⟨fun b _=>by simp,.inl fun b hb=>by simp at hb⟩
   · cases hd
theorem WV {g:Gh} {w:World} {b:Frame} {a:Act} {k:List It} {ops:Array Oper} {f bZ:Nat} {O:FuncId→List AV→Mem→Option (AV×Mem)} {st st':St} (hO : ∀g args m v m1,O g args m=some (v,m1)→an P E g args m v m1)
  (hs:cK E g st a w) (h:jK P E f bZ O ops st=some (st',true)) :
  ∀cs,∃g' a' w',Steps P (lone (b.atR a (.code (.region bZ ops true)::dU k)) cs w) (lone (b.atR a' (dU (iq bZ ops k))) cs w')∧a'.defers=a.defers∧cK E g' st' a' w' ∧
   dc g st.mem w g' st'.mem w'∧bM g g' st.fix∧st'.fix=st.fix ∧ ∀i c,g.bS i=some c→g'.bS i=some c:=by
 intro cs
 unfold jK at h
 split at h
 · rename_i SJ nx ds ok hq
   simp only[cp,ie,ch] at h
   obtain⟨rfl,rfl,Na,WR,hfree,Si,WM⟩:=h
   have Si:=eh Si
   have hrun:=sQ hO hq
   obtain⟨hQ,_⟩:=vi.of Na
   obtain⟨afK,afL⟩:=Cr ops
   have hL:LOk (masks [] ops.toList) (ds++bx (ops.size-gy ops) ⟨.aA [],[],[],fun _ _=>false⟩):=LOk.pad fun i j d e hj hd he=>uz (mQ:=[]) WR i j d e (QQ _) hj hd he
   obtain⟨FO,hr2⟩:=hs.rel.cV (60+ops.size)
   have hs1:cK E g {st with mem:=st.mem++cV (60+ops.size)} a w:=⟨hs.tm,hs.nt,FO,by simp;have:=hs.fix;omega,hs.cQ⟩
   have hgd : ∀j,(yo ops.size false).getD j false=false:=by
    intro j
    rw[xb,zr]
    split<;>rfl
   have hfr:lz st.mem.length (st.mem++cV (60+ops.size)):=by
    intro i hi hl
    rw[Hc hi]
    simp only[cV,List.length_append,List.length_replicate] at hl ⊢
    rw[Hm,if_pos (by omega)]
   have hnl:st.mem.length≤(st.mem++cV (60+ops.size)).length:=by simp
   obtain⟨hspec,hdl,hmem,nJ⟩:=hrun.abx afK hQ.uniq hnl hfr
   generalize hds:ds++bx (ops.size-gy ops) (⟨.aA [],[],[],fun _ _=>false⟩:gF)=ds2 at *
   have hI:mS ops (masks [] ops.toList) (ds2.map (·.v)) {st with mem:=st.mem++cV (60+ops.size)} {st with mem:=st.mem++cV (60+ops.size)} (yo ops.size false):=
    ⟨by simp,rfl,rfl,rfl,fun j _ _ _ hj=>(by rw[hgd] at hj;cases hj),fun _ _=>rfl,fun i _ hi=>(by rw[hgd] at hi;cases hi)⟩
   have hM:jT ds2 (st.mem++cV (60+ops.size)) (fun j=>(yo ops.size false).getD j false=true) (st.mem++cV (60+ops.size)):=jT.nil fun j q=>by rw[hgd] at q;cases q
   have hs2:=hs1.drew (w.drawn+1)
   obtain⟨g',a',w',r1,r2,r3,r4,r5,r6⟩:=SR (P:=P) (E:=E) (b:=b) (k:=dU k) cs hQ hL hspec afL ops.size (w.tape w.drawn (.order b.fn bZ)) (yo ops.size false) {st with mem:=st.mem++cV (60+ops.size)} a g _ (ee ops.size) hI hM hs2 (by simp) (fun i hi _=>Pl.2 hi) (fun i _=>hgd i)
   obtain⟨t1,t2⟩:=r3.rel.trim hfree
   have hlen:SJ.mem.length=st.mem.length+(60+ops.size):=by rw[hmem,mh];simp[cV]
   have nJ:SJ.fix=st.fix:=nJ
   refine⟨g',a',w',?_,r2,⟨r3.tm,r3.nt,t1,?_,r3.cQ⟩,?_,r5,nJ,r6⟩
   · refine .head stepR_region_draw ?_
     have Nb:xv (P.follows .mixedOrders) ops (w.tape w.drawn (.order b.fn bZ))=aao .any ops ops.size (w.tape w.drawn (.order b.fn bZ)) (yo ops.size false) []:=by
      simp only[xv,WM,if_true,ye]
     rw[Nb]
     unfold iq
     unfold gy at r1
     cases DY:sF ops with
     |false=>
      rw[DY] at r1
      simp only[cond_false,PH,H3] at r1 ⊢
      exact r1.trans (.one stepR_region_end)
     |true=>
      rw[DY] at r1
      simp only[cond_true] at r1 ⊢
      exact r1
   · have:=hs.fix
     show SJ.fix≤(SJ.mem.take nx).length
     rw[du,nJ]
     omega
   · have hst:dc g (st.mem++cV (60+ops.size)) w g (st.mem++cV (60+ops.size)) {w with drawn:=w.drawn+1}:=⟨bj _,fun _ _ _=>rfl,fun _ _ h=>⟨h,rfl⟩,fun _ _ h=> .inl h,fun _ h=> .inl h,rfl,rfl,rfl⟩
     exact((hr2.trans hst).trans r4).trans t2
 · cases h
def vn (s t:St):Prop:=s.nt=t.nt∧s.fix=t.fix∧s.mem=t.mem ∧ ∀k,look s.tm k=look t.tm k
theorem vn.refl (s:St):vn s s:=⟨rfl,rfl,rfl,fun _=>rfl⟩
theorem AG {a b:sA} : ∀{l:List Nat},Su a b l=true → ∀k∈l,look a k=look b k
 |[],_,k,h=>by cases h
 |x::r,h,k,hk=>by
  simp only[Su,ch] at h
  rcases oi.1 hk with rfl | hk
  · exact kB h.1
  · exact AG h.2 k hk
theorem sV : ∀{a:sA} {k:Nat},k∉a.map (·.1)→look a k = .aj
 |[],_,_=>rfl
 |(j,v)::r,k,h=>by
  simp only[oe,oi,not_or] at h
  simp only[look]
  cases hb:ae j k with
  |true=>exact absurd (ag hb).symm h.1
  |false=>exact sV h.2
theorem Ko {s t:St} (h:Wl s t=true):vn s t:=by
 simp only[Wl,ch] at h
 obtain⟨h1,h2,_,h3,h4⟩:=h
 refine⟨ag h1,ag h2,kY h3,fun k=> ?_⟩
 by_cases hk:k∈s.tm.map (·.1)++t.tm.map (·.1)
 · exact AG h4 k hk
 · rw[mi,not_or] at hk
   rw[sV hk.1,sV hk.2]
def Has (l:List Pt) (q:Pt):Prop:= ∃p∈l,p.1=q.1∧vn q.2 p.2
theorem AH {q:Pt} : ∀{l:List Pt},Dp q l=true→Has l q
 |[],h=>by cases h
 |p::r,h=>by
  simp only[Dp,ib] at h
  rcases h with h | h
  · simp only[aa9,ch] at h
    exact⟨p,.head _,(Array.toList_inj.1 (wH h.1)).symm,Ko h.2⟩
  · obtain⟨x,h1,h2⟩:=AH h
    exact⟨x,.tail _ h1,h2⟩
theorem AI {q:Pt} {l:List Pt}:Has (Dq q l) q ∧ ∀x∈l,x∈Dq q l:=by
 unfold Dq
 cases h:Dp q l with
 |true=>exact⟨AH h,fun _ hx=>hx⟩
 |false=>exact⟨⟨q,.head _,rfl,vn.refl _⟩,fun _ hx=> .tail _ hx⟩
theorem Has.mono {l l':List Pt} {q:Pt} (h:Has l q) (hl : ∀x∈l,x∈l'):Has l' q:=by
 obtain⟨p,h1,h2⟩:=h
 exact⟨p,hl p h1,h2⟩
theorem uC {f:FuncId} {ops:Array Oper} {q:Pt} : ∀{is:List Nat} {l l':List Pt},qF P E f ops q is l=some l' →
  (∀x∈l,x∈l') ∧ ∀i∈is,∃st,HX P E f ops i q.2=some st∧Has l' (q.1.setIfInBounds i true,st)
 |[],l,l',h=>by
  simp only[qF,cp] at h
  subst h
  exact⟨fun _ hx=>hx,fun i hi=>by cases hi⟩
 |i::r,l,l',h=>by
  simp only[qF] at h
  split at h
  · rename_i st hst
    obtain⟨h1,h2⟩:=uC h
    obtain⟨k1,k2⟩:=AI (q:=(q.1.setIfInBounds i true,st)) (l:=l)
    refine⟨fun x hx=>h1 x (k2 x hx),fun j hj=> ?_⟩
    rcases oi.1 hj with rfl | hj
    · exact⟨st,hst,k1.mono h1⟩
    · exact h2 j hj
  · cases h
theorem oA {f:FuncId} {ops:Array Oper} : ∀{l acc l':List Pt},level P E f ops l acc=some l' →
  (∀x∈acc,x∈l') ∧ ∀q∈l,(xr .any ops q.1=[]→Has l' q) ∧ ∀i∈xr .any ops q.1,∃st,HX P E f ops i q.2=some st∧Has l' (q.1.setIfInBounds i true,st)
 |[],acc,l',h=>by
  simp only[level,cp] at h
  subst h
  exact⟨fun _ hx=>hx,fun q hq=>by cases hq⟩
 |q::r,acc,l',h=>by
  simp only[level] at h
  split at h
  · rename_i hr
    obtain⟨h1,h2⟩:=oA h
    obtain⟨k1,k2⟩:=AI (q:=q) (l:=acc)
    refine⟨fun x hx=>h1 x (k2 x hx),fun p hp=> ?_⟩
    rcases oi.1 hp with rfl | hp
    · exact⟨fun _=>k1.mono h1,fun i hi=>by rw[hr] at hi;cases hi⟩
    · exact h2 p hp
  · rename_i hr
    split at h
    · rename_i l1 hn
      obtain⟨h1,h2⟩:=oA h
      obtain⟨k1,k2⟩:=uC hn
      refine⟨fun x hx=>h1 x (k1 x hx),fun p hp=> ?_⟩
      rcases oi.1 hp with rfl | hp
      · refine⟨fun e=>absurd e hr,fun i hi=> ?_⟩
        obtain⟨st,q1,q2⟩:=k2 i hi
        exact⟨st,q1,q2.mono h1⟩
      · exact h2 p hp
    · cases h
theorem vn.trans {a b c:St} (h:vn a b) (k:vn b c):vn a c:=⟨h.1.trans k.1,h.2.1.trans k.2.1,h.2.2.1.trans k.2.2.1,fun x=>(h.2.2.2 x).trans (k.2.2.2 x)⟩
theorem cK.like {g:Gh} {w:World} {st st':St} {a:Act} (h:cK E g st a w) (q:vn st st'):cK E g st' a w:=h.same q.2.2.1 q.1 q.2.1 q.2.2.2
theorem rj {f:FuncId} {ops:Array Oper} : ∀(n:Nat) {l l':List Pt},levels P E f ops n l=some l' → ∀q∈l,xr .any ops q.1=[]→Has l' q
 |0,l,l',h,q,hq,_=>by
  simp only[levels,cp] at h
  subst h
  exact⟨q,hq,rfl,vn.refl _⟩
 |n+1,l,l',h,q,hq,hr=>by
  simp only[levels] at h
  split at h
  · rename_i l1 hl
    obtain⟨p,h1,h2,h3⟩:=(((oA hl).2 q hq).1 hr)
    obtain⟨x,k1,k2,k3⟩:=rj n h p h1 (by rw[h2];exact hr)
    exact⟨x,k1,k2.trans h2,h3.trans k3⟩
  · cases h
theorem Nd {b:Frame} {k:List Item} {f:FuncId} {ops:Array Oper} : ∀(n:Nat) (l l':List Pt),levels P E f ops n l=some l' → ∀(q:Pt),q∈l → ∀(t:Nat) (a:Act) (g:Gh) (w:World),cK E g q.2 a w →
  ∃st'∈l'.map (·.2),∃g' a' w',(∀cs,Steps P (lone (b.atR a (.inRegion ops (aao .any ops n t q.1 [])::k)) cs w) (lone (b.atR a' (.inRegion ops []::k)) cs w'))∧a'.defers=a.defers∧cK E g' st' a' w' ∧
   dc g q.2.mem w g' st'.mem w'∧bM g g' q.2.fix∧st'.fix=q.2.fix ∧ ∀i c,g.bS i=some c→g'.bS i=some c
 |0,l,l',h,q,hq,t,a,g,w,hs=>by
  simp only[levels,cp] at h
  subst h
  exact⟨q.2,ed.2 ⟨q,hq,rfl⟩,g,a,w,fun cs=>aaN _ _,rfl,hs,dc.refl _ _ _,bM.refl _ _,rfl,fun _ _ q=>q⟩
 |n+1,l,l',h,q,hq,t,a,g,w,hs=>by
  have h0:=h
  simp only[levels] at h
  split at h
  · rename_i l1 hl
    simp only[aao]
    show ∃st'∈l'.map (·.2),∃g' a' w',(∀cs,Steps P (lone (b.atR a (.inRegion ops (match(xr .any ops q.1)[t%(xr .any ops q.1).length]? with
     |some i=>aao .any ops n (t / (xr .any ops q.1).length) (q.1.setIfInBounds i true) [i]
     |none=>[].reverse)::k)) cs w) (lone (b.atR a' (.inRegion ops []::k)) cs w'))∧_
    obtain⟨_,k2⟩:=(oA hl).2 q hq
    cases hr:(xr .any ops q.1)[t%(xr .any ops q.1).length]? with
    |none=>
     have M7:xr .any ops q.1=[]:=by
      cases hz:xr .any ops q.1 with
      |nil=>rfl
      |cons x xs=>
       rw[hz] at hr
       have hlt:t%(x::xs).length<(x::xs).length:=pt _ (by simp)
       rw[bm hlt] at hr;cases hr
     obtain⟨p,p1,p2,p3⟩:=rj (n+1) h0 q hq M7
     exact⟨p.2,ed.2 ⟨p,p1,rfl⟩,g,a,w,fun cs=>aaN _ _,rfl,hs.like p3,by rw[←p3.2.2.1];exact dc.refl _ _ _,bM.refl _ _,p3.2.1.symm,fun _ _ q=>q⟩
    |some i=>
     dsimp only
     rw[linearise_go_acc,Hd,Hk]
     obtain⟨st,he,p,p1,p2,p3⟩:=k2 i (mc hr)
     have p2:p.1=q.1.setIfInBounds i true:=p2
     have p3:vn st p.2:=p3
     unfold HX at he
     split at he
     · cases he
     · rename_i o ho
       split at he
       · rename_i hw
         dsimp only at he
         split at he
         · rename_i v us ok hop
           cases hok:(ok&&fits q.2 o.dst) with
           |false=>rw[hok] at he;cases he
           |true=>
            rw[hok] at he
            simp only[cond_true,cp] at he
            subst he
            simp only[ch] at hok
            obtain⟨rfl,hf⟩:=hok
            have iI:=(oz hs (ops:=ops) (o:=o)).1 hw
            have hres:Rel g (reserve o q.2.mem) w∧dc g q.2.mem w g (reserve o q.2.mem) w:=by
             unfold reserve
             cases makes o with
             |true=>exact hs.rel.reserve
             |false=>exact⟨hs.rel,dc.refl _ _ _⟩
            have hfree:makes o=true→(reserve o q.2.mem)[q.2.mem.length]? = some .free:=by
             intro hm
             simp[reserve,hm]
            obtain⟨cv,w1,g1,k1,k2,k3,k4,k5⟩:=ox hres.1 (gk hs) (fun _=>rfl) hfree hop
            have nF:q.2.fix≤(apply (reserve o q.2.mem) us).length:=by
             rw[eB]
             have:=hs.fix
             unfold reserve
             cases makes o<;>simp<;>omega
            have hs1:=(hs.put hf k2 k4 k3 nF).like p3
            have hm:p.2.mem=apply (reserve o q.2.mem) us:=by rw[←p3.2.2.1,uy]
            have hx:p.2.fix=q.2.fix:=by rw[←p3.2.1];cases o.dst<;>rfl
            obtain⟨st2,r0,g2,a2,w2,r1,r2,r3,r4,r5,r6,r7⟩:=Nd (b:=b) (k:=k) n l1 l' h p p1 (t / (xr .any ops q.1).length) _ _ _ hs1
            rw[hm] at r4
            rw[hx] at r5 r6
            rw[p2] at r1
            exact⟨st2,r0,g2,a2,w2,fun cs=> .head (oy ho iI k1) (r1 cs),r2.trans put_defers,r3,(hres.2.trans k5).trans r4,(bM.qV k4 _).trans r5,r6,fun i c q=>r7 i c (k4.bS i c q).1⟩
         · cases he
       · cases he
  · cases h
theorem SU {g:Gh} {w:World} {b:Frame} {a:Act} {k:List Item} {ops:Array Oper} {f bZ:Nat} {st:St} {sts:List St} (hs:cK E g st a w) (h:B0 P E f ops st=some sts) :
  ∃st'∈sts,∃g' a' w',(∀cs,Steps P (lone (b.atR a (.code (.region bZ ops true)::k)) cs w) (lone (b.atR a' k) cs w'))∧a'.defers=a.defers∧cK E g' st' a' w' ∧
   dc g st.mem w g' st'.mem w'∧bM g g' st.fix∧st'.fix=st.fix ∧ ∀i c,g.bS i=some c→g'.bS i=some c:=by
 unfold B0 at h
 cases hc:((MB ops||MC P ops)&&(P.follows .mixedOrders || !Region.departs ops)) with
 |false=>rw[hc] at h;cases h
 |true=>
  rw[hc] at h
  simp only[cond_true,Option.map_eq_some_iff] at h
  simp only[ch] at hc
  obtain⟨l',h1,rfl⟩:=h
  obtain⟨st',h2,g',a',w',r1,r2,r3,r4,r5,r6,r7⟩:=Nd (b:=b) (k:=k) _ _ _ h1 (yo ops.size false,st) (.head _) (w.tape w.drawn (.order b.fn bZ)) a g _ (hs.drew (w.drawn+1))
  refine⟨st',h2,g',a',w',fun cs=> ?_,r2,r3,?_,r5,r6,r7⟩
  · refine .head stepR_region_draw ?_
    have Nb:xv (P.follows .mixedOrders) ops (w.tape w.drawn (.order b.fn bZ))=aao .any ops ops.size (w.tape w.drawn (.order b.fn bZ)) (yo ops.size false) []:=by
     simp only[xv,hc.2,if_true,ye]
    rw[Nb]
    exact(r1 cs).trans (.one stepR_region_end)
  · have hst:dc g st.mem w g st.mem {w with drawn:=w.drawn+1}:=⟨bj _,fun _ _ _=>rfl,fun _ _ h=>⟨h,rfl⟩,fun _ _ h=> .inl h,fun _ h=> .inl h,rfl,rfl,rfl⟩
    exact hst.trans r4
end
end Go.Am
end
